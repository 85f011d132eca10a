-- Texts of this session's own program (wip/dr.py), which runs the kit's printer.
import Derived.Test.YtihhiolflbieaaaPx0
import Derived.Test.YtihhiolflbieaaaPx2
import Derived.Test.YtihhiolflbieaaaPx5
import Derived.Test.YtihhiolflbieaaaPx62
import Derived.Test.YtihhiolflbieaaaPx71
namespace Go.Proofs.Ytihhiolflbieaaa.P
open Go.RowKit Go.Proofs.YtihhiolflbieaaaW.PrintWords Go.Proofs.YtihhiolflbieaaaW.PrintLast Go.Proofs.YtihhiolflbieaaaW.PrintMore
attribute [local go_sem] max2_int min2_int max_two min_two max_three min_three max_four min_four   -- for this text's walks alone
set_option linter.unusedVariables false
set_option linter.unusedSimpArgs false

/-! ### spec_orSearch: function 80 -/
mutual
def spec_orSearch.l0 : Nat → List ByteArray → List ByteArray → Int → Int → List ByteArray → Int → Int → Int → Int → Option (List ByteArray × Int × Int)
  | 0, _, _, _, _, _, _, _, _, _ => none
  | k + 1, x1, x8, x9, x10, x49, x50, x51, x855000, x855001 => if x51 < x50 then (if 0 ≤ x51 then (if x51 < (x49.length : Int) then ((spec_l1HasS.f k x1 (rdOf ByteArray.empty x49 x51)).bind fun t871 => (if t871 = true then (spec_orSearch.l0 k x1 x8 x9 x10 x49 x50 (wrap64 (x51 + 1)) x855000 x855001) else ((spec_l1OwnS.f x1).bind fun t872 => ((some (([rdOf ByteArray.empty x49 x51] : List ByteArray) : List ByteArray)).bind fun y875 => (if t872.length + y875.length < 8796093022208 then ((spec_orSearch.f k x855000 x855001 (t872 ++ y875)).bind fun bt881 => (if x9 = 0 then (spec_orSearch.l0 k x1 bt881.1 (wrap64 (x9 + bt881.2.1)) (wrap64 (x10 + bt881.2.2)) x49 x50 (wrap64 (x51 + 1)) x855000 x855001) else (spec_orSearch.l0 k x1 x8 (wrap64 (x9 + bt881.2.1)) (wrap64 (x10 + bt881.2.2)) x49 x50 (wrap64 (x51 + 1)) x855000 x855001))) else (none)))))) else (none)) else (none)) else (some (x8, x9, x10))
def spec_orSearch.f : Nat → Int → Int → List ByteArray → Option (List ByteArray × Int × Int)
  | 0, _, _, _ => none
  | k + 1, a0_0, a0_1, l1 => (spec_whCount.f k a0_0 a0_1).bind fun t855 => (if (l1.length : Int) = t855 then (if 0 < (l1.length : Int) then (if 0 ≤ (wrap64 ((l1.length : Int) - 1)) then (if (wrap64 ((l1.length : Int) - 1)) < (l1.length : Int) then ((spec_whDistance.f k a0_0 a0_1 (rdOf ByteArray.empty l1 0) (rdOf ByteArray.empty l1 (wrap64 ((l1.length : Int) - 1)))).bind fun t858 => (if t858 = 1 then ((spec_l1OwnS.f l1).bind fun t859 => (some (t859, 1, 1))) else ((spec_l1OwnS.f l1).bind fun t862 => (some (t862, 1, 0))))) else (none)) else (none)) else (none)) else (if 0 ≤ (wrap64 ((l1.length : Int) - 1)) then (if (wrap64 ((l1.length : Int) - 1)) < (l1.length : Int) then ((spec_NextCodes.f k a0_0 a0_1 (rdOf ByteArray.empty l1 (wrap64 ((l1.length : Int) - 1)))).bind fun bt866 => (spec_orSearch.l0 k l1 ([] : List ByteArray) 0 0 bt866.1 (bt866.1.length : Int) 0 a0_0 a0_1)) else (none)) else (none)))
end
theorem spec_orSearch.mono_l : ∀ k, (∀ y0 y1 y2, LeO (spec_orSearch.f k y0 y1 y2) (spec_orSearch.f (k + 1) y0 y1 y2)) ∧ (∀ y0 y1 y2 y3 y4 y5 y6 y7 y8, LeO (spec_orSearch.l0 k y0 y1 y2 y3 y4 y5 y6 y7 y8) (spec_orSearch.l0 (k + 1) y0 y1 y2 y3 y4 y5 y6 y7 y8))
  | 0 => ⟨fun _ _ _ r h => by simp [spec_orSearch.f] at h, fun _ _ _ _ _ _ _ _ _ r h => by simp [spec_orSearch.l0] at h⟩
  | k + 1 => by
    obtain ⟨ih0, ih1⟩ := spec_orSearch.mono_l k
    refine ⟨?_, ?_⟩
    rotate_left
    · intro y0 y1 y2 y3 y4 y5 y6 y7 y8
      unfold spec_orSearch.l0
      repeat' first
      | (with_reducible exact ih0 _ _ _)
      | (with_reducible exact ih1 _ _ _ _ _ _ _ _ _)
      | (with_reducible exact spec_NextCodes.mono _ _ _ _)
      | (with_reducible exact spec_l1HasS.mono _ _ _)
      | (with_reducible exact spec_whCount.mono _ _ _)
      | (with_reducible exact spec_whDistance.mono _ _ _ _ _)
      | (with_reducible exact LeO.refl _)
      | (with_reducible exact LeO.none _)
      | (with_reducible refine LeO.ite ?_ ?_)
      | (with_reducible refine LeO.bind ?_ (fun _ => ?_))
      | exact ih0 _ _ _
      | exact ih1 _ _ _ _ _ _ _ _ _
      | exact spec_NextCodes.mono _ _ _ _
      | exact spec_l1HasS.mono _ _ _
      | exact spec_whCount.mono _ _ _
      | exact spec_whDistance.mono _ _ _ _ _
      | exact LeO.none _
      | refine LeO.ite ?_ ?_
      | refine LeO.bind ?_ (fun _ => ?_)
    intro y0 y1 y2
    unfold spec_orSearch.f
    repeat' first
    | (with_reducible exact ih0 _ _ _)
    | (with_reducible exact ih1 _ _ _ _ _ _ _ _ _)
    | (with_reducible exact spec_NextCodes.mono _ _ _ _)
    | (with_reducible exact spec_l1HasS.mono _ _ _)
    | (with_reducible exact spec_whCount.mono _ _ _)
    | (with_reducible exact spec_whDistance.mono _ _ _ _ _)
    | (with_reducible exact LeO.refl _)
    | (with_reducible exact LeO.none _)
    | (with_reducible refine LeO.ite ?_ ?_)
    | (with_reducible refine LeO.bind ?_ (fun _ => ?_))
    | exact ih0 _ _ _
    | exact ih1 _ _ _ _ _ _ _ _ _
    | exact spec_NextCodes.mono _ _ _ _
    | exact spec_l1HasS.mono _ _ _
    | exact spec_whCount.mono _ _ _
    | exact spec_whDistance.mono _ _ _ _ _
    | exact LeO.none _
    | refine LeO.ite ?_ ?_
    | refine LeO.bind ?_ (fun _ => ?_)
theorem spec_orSearch.mono : ∀ a0 a1 a2 k, LeO (spec_orSearch.f k a0 a1 a2) (spec_orSearch.f (k + 1) a0 a1 a2) := by
  intro a0 a1 a2 k
  obtain ⟨ih0, ih1⟩ := spec_orSearch.mono_l k
  exact ih0 a0 a1 a2
def spec_orSearch.T3 : Bool × List (List Nat × List Nat) := (true, [([], []), ([], []), ([1], [1]), ([2], [2]), ([], []), ([], []), ([5], [5]), ([6], [6]), ([4, 7], [4, 7]), ([8], [8]), ([0, 3, 9], [0, 3, 9]), ([10], [10])])
def spec_orSearch.B3 : List Nat := [0, 0, 2, 6, 0, 0, 32, 96, 240, 496, 1023, 2047]
theorem spec_orSearch.tab3 : rtab .any (opsOf Try.f80 3) = spec_orSearch.T3 := by kernel_rfl
theorem spec_orSearch.bits3 : waitsOk spec_orSearch.T3.2 spec_orSearch.B3 = true := by kernel_rfl
def spec_orSearch.T8 : Bool × List (List Nat × List Nat) := (true, [([], []), ([], []), ([], []), ([2], [2]), ([3], [3]), ([1, 4], [1, 4]), ([5], [5]), ([0, 6], [0, 6]), ([7], [7]), ([8], [8]), ([8], [8]), ([9, 7, 0, 1, 2, 3, 4, 5, 6, 7, 8, 9], [9]), ([10, 11, 0, 1, 2, 3, 4, 5, 6, 7, 8, 9, 10, 11], [10])])
def spec_orSearch.B8 : List Nat := [0, 0, 0, 4, 12, 30, 62, 127, 255, 511, 511, 1023, 4095]
theorem spec_orSearch.tab8 : rtab .any (opsOf Try.f80 8) = spec_orSearch.T8 := by kernel_rfl
theorem spec_orSearch.bits8 : waitsOk spec_orSearch.T8.2 spec_orSearch.B8 = true := by kernel_rfl
def spec_orSearch.T13 : Bool × List (List Nat × List Nat) := (true, [([], []), ([], []), ([1], [1]), ([], []), ([3], [3]), ([2, 4, 2], [2, 4]), ([0, 5, 5], [0, 5]), ([6], [6]), ([7], [7]), ([7], [7]), ([7], [7]), ([8, 6, 0, 1, 2, 3, 4, 5, 6, 7, 8], [8]), ([9, 11, 0, 1, 2, 3, 4, 5, 6, 7, 8, 9, 11], [9]), ([10, 12, 0, 1, 2, 3, 4, 5, 6, 7, 8, 9, 10, 11, 12], [10])])
def spec_orSearch.B13 : List Nat := [0, 0, 2, 0, 8, 30, 63, 127, 255, 255, 255, 511, 3071, 8191]
theorem spec_orSearch.tab13 : rtab .any (opsOf Try.f80 13) = spec_orSearch.T13 := by kernel_rfl
theorem spec_orSearch.bits13 : waitsOk spec_orSearch.T13.2 spec_orSearch.B13 = true := by kernel_rfl
set_option maxHeartbeats 8000000 in
set_option maxRecDepth 100000 in
theorem spec_orSearch.calls (k : Nat) : ∀ (a0_0 : Int) (a0_1 : Int) (A1 : Option Addr) (c1 : Nat) (l1 : List ByteArray) (r1 : List ByteArray) (r2 : Int) (r3 : Int) (w : World) (hr1 : Kd.C Kd.string w A1 l1.length l1) (hc1 : l1.length ≤ c1) (h : spec_orSearch.f k a0_0 a0_1 l1 = some (r1, r2, r3)),
    Calls Try.prog 80 #[.agg #[.int .i64 a0_0, .int .i64 a0_1], .slice A1 l1.length c1] w fun e w' => ∃ v0_ : Value, e = .returned (.tuple #[v0_, .int .i64 r2, .int .i64 r3]) ∧ Kd.R Kd.string 9 w' w.heap.size (fun _ => True) v0_ r1 ∧ Below w.heap.size w w' := by
  induction k using Nat.strongRecOn with
  | _ k ih =>
  intro a0_0 a0_1 A1 c1 l1 r1 r2 r3 w hr1 hc1 h
  cases k with
  | zero => exact absurd h (by simp [spec_orSearch.f])
  | succ k =>
  simp only [spec_orSearch.f] at h
  have hu28 := Try.underlying28
  have HR1 := Aside0.mk hr1
  have HC1 := Aside0.mk hc1
  clear hr1 hc1
  have HB := Aside0.mk (Below.refl w.heap.size w)
  have H : ((spec_whCount.f k a0_0 a0_1).bind fun t855 => (if (l1.length : Int) = t855 then (if 0 < (l1.length : Int) then (if 0 ≤ (wrap64 ((l1.length : Int) - 1)) then (if (wrap64 ((l1.length : Int) - 1)) < (l1.length : Int) then ((spec_whDistance.f k a0_0 a0_1 (rdOf ByteArray.empty l1 0) (rdOf ByteArray.empty l1 (wrap64 ((l1.length : Int) - 1)))).bind fun t858 => (if t858 = 1 then ((spec_l1OwnS.f l1).bind fun t859 => (some (t859, 1, 1))) else ((spec_l1OwnS.f l1).bind fun t862 => (some (t862, 1, 0))))) else (none)) else (none)) else (none)) else (if 0 ≤ (wrap64 ((l1.length : Int) - 1)) then (if (wrap64 ((l1.length : Int) - 1)) < (l1.length : Int) then ((spec_NextCodes.f k a0_0 a0_1 (rdOf ByteArray.empty l1 (wrap64 ((l1.length : Int) - 1)))).bind fun bt866 => (spec_orSearch.l0 k l1 ([] : List ByteArray) 0 0 bt866.1 (bt866.1.length : Int) 0 a0_0 a0_1)) else (none)) else (none)))) = some (r1, r2, r3) := h
  clear h
  replace H := Option.bind_eq_some_iff.mp H
  obtain ⟨t855, A30, H⟩ := H
  try dsimp only at H
  have A3 := Aside0.mk A30
  clear A30
  by_cases c4 : (l1.length : Int) = t855
  · rw [if_pos c4] at H
    have c4b0 : ((l1.length : Int) == t855) = true := beq_iff_eq.mpr c4
    have c4b1 : ((l1.length : Int) != t855) = false := bne_eq_false_iff_eq.mpr c4
    clear c4
    by_cases c5 : 0 < (l1.length : Int)
    · rw [if_pos c5] at H
      have c5b0 : decide (0 < (l1.length : Int)) = true := decide_eq_true c5
      have c5b1 : decide (0 < l1.length) = true := decide_eq_true (by omega)
      clear c5
      obtain ⟨ji6, hji6⟩ : ∃ j_ : Int, (wrap64 ((l1.length : Int) - 1)) = j_ := ⟨_, rfl⟩
      replace H : (if 0 ≤ (ji6) then (if (ji6) < (l1.length : Int) then ((spec_whDistance.f k a0_0 a0_1 (rdOf ByteArray.empty l1 0) (rdOf ByteArray.empty l1 (ji6))).bind fun t858 => (if t858 = 1 then ((spec_l1OwnS.f l1).bind fun t859 => (some (t859, 1, 1))) else ((spec_l1OwnS.f l1).bind fun t862 => (some (t862, 1, 0))))) else (none)) else (none)) = some (r1, r2, r3) := by first | (rw [hji6] at H; exact H) | (simp only [hji6] at H ⊢; exact H)
      (try rw [hji6] at A3)
      have hji6w : (IntKind.i64.wrap ((l1.length : Int) - 1)) = ji6 := (i64_w _).trans hji6
      by_cases c7 : 0 ≤ (ji6)
      · rw [if_pos c7] at H
        have c7b0 : decide (0 ≤ (ji6)) = true := decide_eq_true c7
        clear c7
        by_cases c8 : (ji6) < (l1.length : Int)
        · rw [if_pos c8] at H
          have c8b0 : decide ((ji6) < (l1.length : Int)) = true := decide_eq_true c8
          clear c8
          replace H := Option.bind_eq_some_iff.mp H
          obtain ⟨t858, A90, H⟩ := H
          try dsimp only at H
          have A9 := Aside0.mk A90
          clear A90
          by_cases c10 : t858 = 1
          · rw [if_pos c10] at H
            have c10b0 : (t858 == 1) = true := beq_iff_eq.mpr c10
            have c10b1 : (t858 != 1) = false := bne_eq_false_iff_eq.mpr c10
            clear c10
            replace H := Option.bind_eq_some_iff.mp H
            obtain ⟨t859, A110, H⟩ := H
            try dsimp only at H
            have A11 := Aside0.mk A110
            clear A110
            simp only [Option.some.injEq, Prod.mk.injEq] at H
            obtain ⟨rfl, rfl, rfl⟩ := H
            go_enter Try.func80, Try.ntmps80
            try go_wp2_with (first | ((with_reducible refine gate_dst (N := 2) rfl ?_); refine box_event ?hg (N := 2) ?hd (cs := #[.int .i64 a0_0, .int .i64 a0_1]) (t := 28) ?hr ?_; (case hd => rfl); (case hg => rfl); (case hr => first | (go_simp; done) | (go_simp; rfl)); intro gb854 hg w12 hbox hb; have n0_ := bsx hb HB; have n1_ := Aside0.mk (hbox); have n2_ := gwx hg HB; have n3_ := n2_; clear HB; have HB := n0_; have BK854 := n1_; have GW854 := n2_; have GE854 := n3_; clear n0_ n1_ n2_ n3_; clear hb hbox hg; have hcz13_0 := cz0 BK854; have hcz13_1 := cz1 BK854; have hfz13_0 := blk_frozen BK854.out 0; have hfz13_1 := blk_frozen BK854.out 1) | ((with_reducible refine gate_callee (f := 94) rfl ?_); refine goesL_ (some 21) rfl rfl Try.func94 (by kernel_rfl) rfl #[.agg #[.int .i64 a0_0, .int .i64 a0_1]] rfl (by (try simp only [m_1, m_2, m_3]); first | done | rfl | (simp only [m_4, m_5]; rfl)) ?_; (with_reducible refine (spec_whCount.calls k a0_0 a0_1 t855 _ A3.out).mono ?_); rintro e w14 ⟨rfl, hb⟩; refine ⟨_, rfl, ?_⟩; replace BK854 := bbx hb BK854; replace HB := bsx hb HB; skip; (try clear hb); (try clear hb2); (try clear hk); (try clear hi)))
            have n0_ := Aside0.mk (g_e BK854.out)
            have n1_ := Aside0.mk (b_e HB.out)
            clear BK854
            clear HB
            have BK854 := n0_
            have HB := n1_
            clear n0_ n1_
            have p856 : 0 ≤ (0 : Int) := (by omega)
            have q856 : 0 < (l1.length : Int) := of_decide_eq_true (by first | (with_reducible assumption) | assumption)
            obtain ⟨ad856, e856, hx856_0⟩ := Kd.at_string HR1.out 0 p856 q856
            have hw856_0 := hx856_0
            (try rw [show ((0 : Int)).toNat = 0 from rfl] at hw856_0)
            (try rw [show 0 * 1 = 0 from rfl] at hw856_0)
            (try rw [Addr.add_zero'] at hw856_0)
            cases e856
            have qi856 : (0 < l1.length) = True := eq_true (by omega)
            (try rw [show ((0 : Int)).toNat = 0 from rfl] at hx856_0)
            (try rw [Addr.add_zero'] at hx856_0)
            replace hx856_0 := (HB.out.cell (World.block_lt_of_cell? w _ hx856_0)).trans hx856_0
            replace p856 := eq_true p856
            replace q856 := eq_true q856
            have p857 : 0 ≤ ((ji6) : Int) := of_decide_eq_true (by first | (with_reducible assumption) | assumption)
            have q857 : (ji6) < (l1.length : Int) := of_decide_eq_true (by first | (with_reducible assumption) | assumption)
            obtain ⟨ad857, e857, hx857_0⟩ := Kd.at_string HR1.out (ji6) p857 q857
            have hw857_0 := hx857_0
            obtain rfl : ad856 = ad857 := (by injection e857)
            replace hx857_0 := (HB.out.cell (World.block_lt_of_cell? w _ hx857_0)).trans hx857_0
            replace p857 := eq_true p857
            replace q857 := eq_true q857
            refine start_ (n := 12) (S := fun w' => w'.cell? ⟨gb854, 0, none⟩ = some (.int .i64 a0_0) ∧ w'.cell? ⟨gb854, 1, none⟩ = some (.int .i64 a0_1) ∧ w'.cell? ad856 = some (.string (rdOf ByteArray.empty l1 0)) ∧ w'.cell? (ad856.add ((ji6)).toNat) = some (.string (rdOf ByteArray.empty l1 (ji6)))) (ds := []) (bs_ 12 0) (by kernel_rfl) rfl rfl ⟨(blk_cell BK854.out 0).trans rfl, (blk_cell BK854.out 1).trans rfl, ((HB.out.cell (World.block_lt_of_cell? w _ hw856_0)).trans hw856_0), ((HB.out.cell (World.block_lt_of_cell? w _ hw857_0)).trans hw857_0)⟩ (fun hHeld => ?_); refine with_tabW spec_orSearch.tab3 spec_orSearch.bits3 (fun HT_ HW_ => ?_)
            generalize w14.drew = w15 at BK854 HB hx856_0 hx857_0 hHeld ⊢
            refine pua 1 24 (bs_ 12 2) HT_ ?_
            refine pua 2 25 (bs_ 12 6) HT_ ?_
            refine pua 4 27 (bs_ 12 22) HT_ ?_
            refine pua 5 28 (bs_ 12 54) HT_ ?_
            refine pua 6 29 (bs_ 12 118) HT_ ?_
            refine pua 7 30 (bs_ 12 246) HT_ ?_
            refine pua 8 31 (bs_ 12 502) HT_ ?_
            refine tk_ 0 23 (bs_ 12 503) rfl rfl HT_ HW_ (by kernel_rfl) (fun _ _ _ h => h) (by rfl) hHeld (by rintro w' ⟨s0, s1, s2, s3⟩; go_simp; with_reducible rfl) (by simp only [Act.put, s_1, s_2, s_3, i64_w, i32_w]; rfl) ?_
            refine tk_ 3 26 (bs_ 12 511) rfl rfl HT_ HW_ (by kernel_rfl) (fun _ _ _ h => h) (by rfl) hHeld (by rintro w' ⟨s0, s1, s2, s3⟩; go_simp; with_reducible rfl) (by simp only [Act.put, s_1, s_2, s_3, i64_w, i32_w]; rfl) ?_
            refine tk_ 9 32 (bs_ 12 1023) rfl rfl HT_ HW_ (by kernel_rfl) (fun _ _ _ h => h) (by rfl) hHeld (by rintro w' ⟨s0, s1, s2, s3⟩; go_simp; with_reducible rfl) (by simp only [Act.put, s_1, s_2, s_3, i64_w, i32_w]; rfl) ?_
            refine one_ (i := 10) (N := some 33) (bs_ 12 2047) rfl rfl (one_of HT_.out (by kernel_rfl)) (by decide) (fun K hK => ?_)
            refine goes_ Try.func55 (by kernel_rfl) rfl #[.agg #[.int .i64 a0_0, .int .i64 a0_1], .string (rdOf ByteArray.empty l1 0), .string (rdOf ByteArray.empty l1 (ji6))] (by rfl) rfl rfl (by (try simp only [m_1, m_2, m_3]); first | done | (simp only [hji6]; rfl) | rfl | (simp only [m_4, m_5]; rfl)) ?_
            with_reducible refine (spec_whDistance.calls k a0_0 a0_1 (rdOf ByteArray.empty l1 0) (rdOf ByteArray.empty l1 (ji6)) t858 _ A9.out).mono ?_
            rintro e w16 ⟨rfl, hb⟩
            refine ⟨_, rfl, ?_⟩
            have n0_ := bbx hb BK854
            have n1_ := bsx hb HB
            clear BK854
            clear HB
            have BK854 := n0_
            have HB := n1_
            clear n0_ n1_
            (try clear hb)
            (try clear hb2)
            (try clear hk)
            (try clear hi)
            refine hK.out _ _ ⟨(blk_cell BK854.out 0).trans rfl, (blk_cell BK854.out 1).trans rfl, ((HB.out.cell (World.block_lt_of_cell? w _ hw856_0)).trans hw856_0), ((HB.out.cell (World.block_lt_of_cell? w _ hw857_0)).trans hw857_0)⟩ (fun hHeld => ?_)
            clear hK K
            refine norm_ (a' := ?_) ?_ ?_
            rotate_left
            · show Act.put _ (some 33) _ = _
              simp only [Act.put, s_1, s_2, s_3, i64_w, i32_w]
              rfl
            refine pua 11 34 (bs_ 12 4095) HT_ ?_
            refine done_ (done_of HT_.out (by kernel_rfl)) ?_
            try go_wp2_with (first | ((with_reducible refine gate_callee (f := 131) rfl ?_); refine goesL_ (some 36) rfl rfl Try.func131 (by kernel_rfl) rfl #[.slice (some ad856) l1.length c1] rfl (by (try simp only [m_1, m_2, m_3]); first | done | rfl | (simp only [m_4, m_5]; rfl)) ?_; (with_reducible refine (spec_l1OwnS.calls _ _ l1 t859 _ ?side1 ?side2 A11.out).mono ?_); (case side1 => repeat (first | exact (Kd.C_below HR1.out HB.out) | (with_reducible refine Kd.C_alloc ?_ _) | (with_reducible refine Kd.C_drewN ?_ _) | (with_reducible refine Kd.C_drew ?_))); (case side2 => exact HC1.out); rintro e w17 ⟨v860, rfl, ho0, hb⟩; refine ⟨_, rfl, ?_⟩; have n0_ := Aside0.mk (Kd.R_lower ho0 (below_size (bB HB))); replace BK854 := bbx hb BK854; have n2_ := bsx hb HB; clear HB; have HO861 := n0_; have HB := n2_; clear n0_ n2_; (try clear hb); (try clear hb2); (try clear hk); (try clear hi); (try clear ho0)))
            go_ret3
            exact ⟨_, by first | rfl | (simp [errW_none, errW_some] <;> rfl) | (simp only [← hji6]; first | rfl | (simp [errW_none, errW_some] <;> rfl)) | (simp [*, errW_none, errW_some] <;> rfl), by (with_reducible repeat (first | apply r_a | apply r_d | apply r_e)); exact HO861.out, bB HB⟩
          · rw [if_neg c10] at H
            have c10b0 : (t858 == 1) = false := beq_eq_false_iff_ne.mpr c10
            have c10b1 : (t858 != 1) = true := bne_iff_ne.mpr c10
            replace H := Option.bind_eq_some_iff.mp H
            obtain ⟨t862, A180, H⟩ := H
            try dsimp only at H
            have A18 := Aside0.mk A180
            clear A180
            simp only [Option.some.injEq, Prod.mk.injEq] at H
            obtain ⟨rfl, rfl, rfl⟩ := H
            go_enter Try.func80, Try.ntmps80
            try go_wp2_with (first | ((with_reducible refine gate_dst (N := 2) rfl ?_); refine box_event ?hg (N := 2) ?hd (cs := #[.int .i64 a0_0, .int .i64 a0_1]) (t := 28) ?hr ?_; (case hd => rfl); (case hg => rfl); (case hr => first | (go_simp; done) | (go_simp; rfl)); intro gb854 hg w19 hbox hb; have n0_ := bsx hb HB; have n1_ := Aside0.mk (hbox); have n2_ := gwx hg HB; have n3_ := n2_; clear HB; have HB := n0_; have BK854 := n1_; have GW854 := n2_; have GE854 := n3_; clear n0_ n1_ n2_ n3_; clear hb hbox hg; have hcz20_0 := cz0 BK854; have hcz20_1 := cz1 BK854; have hfz20_0 := blk_frozen BK854.out 0; have hfz20_1 := blk_frozen BK854.out 1) | ((with_reducible refine gate_callee (f := 94) rfl ?_); refine goesL_ (some 21) rfl rfl Try.func94 (by kernel_rfl) rfl #[.agg #[.int .i64 a0_0, .int .i64 a0_1]] rfl (by (try simp only [m_1, m_2, m_3]); first | done | rfl | (simp only [m_4, m_5]; rfl)) ?_; (with_reducible refine (spec_whCount.calls k a0_0 a0_1 t855 _ A3.out).mono ?_); rintro e w21 ⟨rfl, hb⟩; refine ⟨_, rfl, ?_⟩; replace BK854 := bbx hb BK854; replace HB := bsx hb HB; skip; (try clear hb); (try clear hb2); (try clear hk); (try clear hi)))
            have n0_ := Aside0.mk (g_e BK854.out)
            have n1_ := Aside0.mk (b_e HB.out)
            clear BK854
            clear HB
            have BK854 := n0_
            have HB := n1_
            clear n0_ n1_
            have p856 : 0 ≤ (0 : Int) := (by omega)
            have q856 : 0 < (l1.length : Int) := of_decide_eq_true (by first | (with_reducible assumption) | assumption)
            obtain ⟨ad856, e856, hx856_0⟩ := Kd.at_string HR1.out 0 p856 q856
            have hw856_0 := hx856_0
            (try rw [show ((0 : Int)).toNat = 0 from rfl] at hw856_0)
            (try rw [show 0 * 1 = 0 from rfl] at hw856_0)
            (try rw [Addr.add_zero'] at hw856_0)
            cases e856
            have qi856 : (0 < l1.length) = True := eq_true (by omega)
            (try rw [show ((0 : Int)).toNat = 0 from rfl] at hx856_0)
            (try rw [Addr.add_zero'] at hx856_0)
            replace hx856_0 := (HB.out.cell (World.block_lt_of_cell? w _ hx856_0)).trans hx856_0
            replace p856 := eq_true p856
            replace q856 := eq_true q856
            have p857 : 0 ≤ ((ji6) : Int) := of_decide_eq_true (by first | (with_reducible assumption) | assumption)
            have q857 : (ji6) < (l1.length : Int) := of_decide_eq_true (by first | (with_reducible assumption) | assumption)
            obtain ⟨ad857, e857, hx857_0⟩ := Kd.at_string HR1.out (ji6) p857 q857
            have hw857_0 := hx857_0
            obtain rfl : ad856 = ad857 := (by injection e857)
            replace hx857_0 := (HB.out.cell (World.block_lt_of_cell? w _ hx857_0)).trans hx857_0
            replace p857 := eq_true p857
            replace q857 := eq_true q857
            refine start_ (n := 12) (S := fun w' => w'.cell? ⟨gb854, 0, none⟩ = some (.int .i64 a0_0) ∧ w'.cell? ⟨gb854, 1, none⟩ = some (.int .i64 a0_1) ∧ w'.cell? ad856 = some (.string (rdOf ByteArray.empty l1 0)) ∧ w'.cell? (ad856.add ((ji6)).toNat) = some (.string (rdOf ByteArray.empty l1 (ji6)))) (ds := []) (bs_ 12 0) (by kernel_rfl) rfl rfl ⟨(blk_cell BK854.out 0).trans rfl, (blk_cell BK854.out 1).trans rfl, ((HB.out.cell (World.block_lt_of_cell? w _ hw856_0)).trans hw856_0), ((HB.out.cell (World.block_lt_of_cell? w _ hw857_0)).trans hw857_0)⟩ (fun hHeld => ?_); refine with_tabW spec_orSearch.tab3 spec_orSearch.bits3 (fun HT_ HW_ => ?_)
            generalize w21.drew = w22 at BK854 HB hx856_0 hx857_0 hHeld ⊢
            refine pua 1 24 (bs_ 12 2) HT_ ?_
            refine pua 2 25 (bs_ 12 6) HT_ ?_
            refine pua 4 27 (bs_ 12 22) HT_ ?_
            refine pua 5 28 (bs_ 12 54) HT_ ?_
            refine pua 6 29 (bs_ 12 118) HT_ ?_
            refine pua 7 30 (bs_ 12 246) HT_ ?_
            refine pua 8 31 (bs_ 12 502) HT_ ?_
            refine tk_ 0 23 (bs_ 12 503) rfl rfl HT_ HW_ (by kernel_rfl) (fun _ _ _ h => h) (by rfl) hHeld (by rintro w' ⟨s0, s1, s2, s3⟩; go_simp; with_reducible rfl) (by simp only [Act.put, s_1, s_2, s_3, i64_w, i32_w]; rfl) ?_
            refine tk_ 3 26 (bs_ 12 511) rfl rfl HT_ HW_ (by kernel_rfl) (fun _ _ _ h => h) (by rfl) hHeld (by rintro w' ⟨s0, s1, s2, s3⟩; go_simp; with_reducible rfl) (by simp only [Act.put, s_1, s_2, s_3, i64_w, i32_w]; rfl) ?_
            refine tk_ 9 32 (bs_ 12 1023) rfl rfl HT_ HW_ (by kernel_rfl) (fun _ _ _ h => h) (by rfl) hHeld (by rintro w' ⟨s0, s1, s2, s3⟩; go_simp; with_reducible rfl) (by simp only [Act.put, s_1, s_2, s_3, i64_w, i32_w]; rfl) ?_
            refine one_ (i := 10) (N := some 33) (bs_ 12 2047) rfl rfl (one_of HT_.out (by kernel_rfl)) (by decide) (fun K hK => ?_)
            refine goes_ Try.func55 (by kernel_rfl) rfl #[.agg #[.int .i64 a0_0, .int .i64 a0_1], .string (rdOf ByteArray.empty l1 0), .string (rdOf ByteArray.empty l1 (ji6))] (by rfl) rfl rfl (by (try simp only [m_1, m_2, m_3]); first | done | (simp only [hji6]; rfl) | rfl | (simp only [m_4, m_5]; rfl)) ?_
            with_reducible refine (spec_whDistance.calls k a0_0 a0_1 (rdOf ByteArray.empty l1 0) (rdOf ByteArray.empty l1 (ji6)) t858 _ A9.out).mono ?_
            rintro e w23 ⟨rfl, hb⟩
            refine ⟨_, rfl, ?_⟩
            have n0_ := bbx hb BK854
            have n1_ := bsx hb HB
            clear BK854
            clear HB
            have BK854 := n0_
            have HB := n1_
            clear n0_ n1_
            (try clear hb)
            (try clear hb2)
            (try clear hk)
            (try clear hi)
            refine hK.out _ _ ⟨(blk_cell BK854.out 0).trans rfl, (blk_cell BK854.out 1).trans rfl, ((HB.out.cell (World.block_lt_of_cell? w _ hw856_0)).trans hw856_0), ((HB.out.cell (World.block_lt_of_cell? w _ hw857_0)).trans hw857_0)⟩ (fun hHeld => ?_)
            clear hK K
            refine norm_ (a' := ?_) ?_ ?_
            rotate_left
            · show Act.put _ (some 33) _ = _
              simp only [Act.put, s_1, s_2, s_3, i64_w, i32_w]
              rfl
            refine pua 11 34 (bs_ 12 4095) HT_ ?_
            refine done_ (done_of HT_.out (by kernel_rfl)) ?_
            try go_wp2_with (first | ((with_reducible refine gate_callee (f := 131) rfl ?_); refine goesL_ (some 36) rfl rfl Try.func131 (by kernel_rfl) rfl #[.slice (some ad856) l1.length c1] rfl (by (try simp only [m_1, m_2, m_3]); first | done | rfl | (simp only [m_4, m_5]; rfl)) ?_; (with_reducible refine (spec_l1OwnS.calls _ _ l1 t862 _ ?side1 ?side2 A18.out).mono ?_); (case side1 => repeat (first | exact (Kd.C_below HR1.out HB.out) | (with_reducible refine Kd.C_alloc ?_ _) | (with_reducible refine Kd.C_drewN ?_ _) | (with_reducible refine Kd.C_drew ?_))); (case side2 => exact HC1.out); rintro e w24 ⟨v863, rfl, ho0, hb⟩; refine ⟨_, rfl, ?_⟩; have n0_ := Aside0.mk (Kd.R_lower ho0 (below_size (bB HB))); replace BK854 := bbx hb BK854; have n2_ := bsx hb HB; clear HB; have HO864 := n0_; have HB := n2_; clear n0_ n2_; (try clear hb); (try clear hb2); (try clear hk); (try clear hi); (try clear ho0)))
            go_ret3
            exact ⟨_, by first | rfl | (simp [errW_none, errW_some] <;> rfl) | (simp only [← hji6]; first | rfl | (simp [errW_none, errW_some] <;> rfl)) | (simp [*, errW_none, errW_some] <;> rfl), by (with_reducible repeat (first | apply r_a | apply r_d | apply r_e)); exact HO864.out, bB HB⟩
        · rw [if_neg c8] at H
          exact absurd H (by simp)
      · rw [if_neg c7] at H
        exact absurd H (by simp)
    · rw [if_neg c5] at H
      exact absurd H (by simp)
  rw [if_neg c4] at H
  have c4b0 : ((l1.length : Int) == t855) = false := beq_eq_false_iff_ne.mpr c4
  have c4b1 : ((l1.length : Int) != t855) = true := bne_iff_ne.mpr c4
  obtain ⟨ji25, hji25⟩ : ∃ j_ : Int, (wrap64 ((l1.length : Int) - 1)) = j_ := ⟨_, rfl⟩
  replace H : (if 0 ≤ (ji25) then (if (ji25) < (l1.length : Int) then ((spec_NextCodes.f k a0_0 a0_1 (rdOf ByteArray.empty l1 (ji25))).bind fun bt866 => (spec_orSearch.l0 k l1 ([] : List ByteArray) 0 0 bt866.1 (bt866.1.length : Int) 0 a0_0 a0_1)) else (none)) else (none)) = some (r1, r2, r3) := by first | (rw [hji25] at H; exact H) | (simp only [hji25] at H ⊢; exact H)
  (try rw [hji25] at A3)
  have hji25w : (IntKind.i64.wrap ((l1.length : Int) - 1)) = ji25 := (i64_w _).trans hji25
  by_cases c26 : 0 ≤ (ji25)
  rotate_left
  · rw [if_neg c26] at H
    exact absurd H (by simp)

  rw [if_pos c26] at H
  have c26b0 : decide (0 ≤ (ji25)) = true := decide_eq_true c26
  clear c26
  by_cases c27 : (ji25) < (l1.length : Int)
  rotate_left
  · rw [if_neg c27] at H
    exact absurd H (by simp)
  rw [if_pos c27] at H
  have c27b0 : decide ((ji25) < (l1.length : Int)) = true := decide_eq_true c27
  clear c27
  replace H := Option.bind_eq_some_iff.mp H
  obtain ⟨⟨t866, t869⟩, A280, H⟩ := H
  try dsimp only at H
  have A28 := Aside0.mk A280
  clear A280
  have H' := Aside0.mk H
  clear H
  go_enter Try.func80, Try.ntmps80
  try go_wp2_with (first | ((with_reducible refine gate_dst (N := 2) rfl ?_); refine box_event ?hg (N := 2) ?hd (cs := #[.int .i64 a0_0, .int .i64 a0_1]) (t := 28) ?hr ?_; (case hd => rfl); (case hg => rfl); (case hr => first | (go_simp; done) | (go_simp; rfl)); intro gb854 hg w29 hbox hb; have n0_ := bsx hb HB; have n1_ := Aside0.mk (hbox); have n2_ := gwx hg HB; have n3_ := n2_; clear HB; have HB := n0_; have BK854 := n1_; have GW854 := n2_; have GE854 := n3_; clear n0_ n1_ n2_ n3_; clear hb hbox hg; have hcz30_0 := cz0 BK854; have hcz30_1 := cz1 BK854; have hfz30_0 := blk_frozen BK854.out 0; have hfz30_1 := blk_frozen BK854.out 1) | ((with_reducible refine gate_callee (f := 94) rfl ?_); refine goesL_ (some 21) rfl rfl Try.func94 (by kernel_rfl) rfl #[.agg #[.int .i64 a0_0, .int .i64 a0_1]] rfl (by (try simp only [m_1, m_2, m_3]); first | done | rfl | (simp only [m_4, m_5]; rfl)) ?_; (with_reducible refine (spec_whCount.calls k a0_0 a0_1 t855 _ A3.out).mono ?_); rintro e w31 ⟨rfl, hb⟩; refine ⟨_, rfl, ?_⟩; replace BK854 := bbx hb BK854; replace HB := bsx hb HB; skip; (try clear hb); (try clear hb2); (try clear hk); (try clear hi)))
  have n0_ := Aside0.mk (g_e BK854.out)
  have n1_ := Aside0.mk (b_e HB.out)
  clear BK854
  clear HB
  have BK854 := n0_
  have HB := n1_
  clear n0_ n1_
  have p865 : 0 ≤ ((ji25) : Int) := of_decide_eq_true (by first | (with_reducible assumption) | assumption)
  have q865 : (ji25) < (l1.length : Int) := of_decide_eq_true (by first | (with_reducible assumption) | assumption)
  obtain ⟨ad865, e865, hx865_0⟩ := Kd.at_string HR1.out (ji25) p865 q865
  have hw865_0 := hx865_0
  cases e865
  replace hx865_0 := (HB.out.cell (World.block_lt_of_cell? w _ hx865_0)).trans hx865_0
  replace p865 := eq_true p865
  replace q865 := eq_true q865
  refine start_ (n := 13) (S := fun w' => w'.cell? ⟨gb854, 0, none⟩ = some (.int .i64 a0_0) ∧ w'.cell? ⟨gb854, 1, none⟩ = some (.int .i64 a0_1) ∧ w'.cell? (ad865.add ((ji25)).toNat) = some (.string (rdOf ByteArray.empty l1 (ji25)))) (ds := []) (bs_ 13 0) (by kernel_rfl) rfl rfl ⟨(blk_cell BK854.out 0).trans rfl, (blk_cell BK854.out 1).trans rfl, ((HB.out.cell (World.block_lt_of_cell? w _ hw865_0)).trans hw865_0)⟩ (fun hHeld => ?_); refine with_tabW spec_orSearch.tab8 spec_orSearch.bits8 (fun HT_ HW_ => ?_)
  generalize w31.drew = w32 at BK854 HB hx865_0 hHeld ⊢
  refine pua 1 40 (bs_ 13 2) HT_ ?_
  refine pua 2 41 (bs_ 13 6) HT_ ?_
  refine pua 3 42 (bs_ 13 14) HT_ ?_
  refine pua 4 43 (bs_ 13 30) HT_ ?_
  refine pua 5 44 (bs_ 13 62) HT_ ?_
  refine tk_ 0 39 (bs_ 13 63) rfl rfl HT_ HW_ (by kernel_rfl) (fun _ _ _ h => h) (by rfl) hHeld (by rintro w' ⟨s0, s1, s2⟩; go_simp; with_reducible rfl) (by simp only [Act.put, s_1, s_2, s_3, i64_w, i32_w]; rfl) ?_
  refine tk_ 6 45 (bs_ 13 127) rfl rfl HT_ HW_ (by kernel_rfl) (fun _ _ _ h => h) (by rfl) hHeld (by rintro w' ⟨s0, s1, s2⟩; go_simp; with_reducible rfl) (by simp only [Act.put, s_1, s_2, s_3, i64_w, i32_w]; rfl) ?_
  refine one_ (i := 7) (N := some 46) (bs_ 13 255) rfl rfl (one_of HT_.out (by kernel_rfl)) (by decide) (fun K hK => ?_)
  refine goes_ Try.func85 (by kernel_rfl) rfl #[.agg #[.int .i64 a0_0, .int .i64 a0_1], .string (rdOf ByteArray.empty l1 (ji25))] (by rfl) rfl rfl (by (try simp only [m_1, m_2, m_3]); first | done | (simp only [hji25]; rfl) | rfl | (simp only [m_4, m_5]; rfl)) ?_
  with_reducible refine (spec_NextCodes.calls k a0_0 a0_1 (rdOf ByteArray.empty l1 (ji25)) t866 t869 _ A28.out).mono ?_
  rintro e w33 ⟨v867, rfl, ho0, hb⟩
  refine ⟨_, rfl, ?_⟩
  have n0_ := Aside0.mk (Kd.R_lower ho0 (below_size (bB HB)))
  have n1_ := bbx hb BK854
  have n2_ := bsx hb HB
  clear BK854
  clear HB
  have HO868 := n0_
  have BK854 := n1_
  have HB := n2_
  clear n0_ n1_ n2_
  (try clear hb)
  (try clear hb2)
  (try clear hk)
  (try clear hi)
  (try clear ho0)
  refine hK.out _ _ ⟨(blk_cell BK854.out 0).trans rfl, (blk_cell BK854.out 1).trans rfl, ((HB.out.cell (World.block_lt_of_cell? w _ hw865_0)).trans hw865_0)⟩ (fun hHeld => ?_)
  clear hK K
  refine norm_ (a' := ?_) ?_ ?_
  rotate_left
  · show Act.put _ (some 46) _ = _
    simp only [Act.put, s_1, s_2, s_3, i64_w, i32_w]
    rfl
  refine pua 8 38 (bs_ 13 511) HT_ ?_
  refine pua 9 47 (bs_ 13 1023) HT_ ?_
  refine pua 10 48 (bs_ 13 2047) HT_ ?_
  refine pua 11 11 (bs_ 13 4095) HT_ ?_
  refine pua 12 12 (bs_ 13 8191) HT_ ?_
  refine done_ (done_of HT_.out (by kernel_rfl)) ?_
  obtain ⟨Ao34, co34, eo34⟩ := Kd.R_slice HO868.out
  subst eo34
  try go_wp2
  go_loopg [8, 9, 10, 51] k (fun kq v8 v9 v10 v51 w' => ∃ (x8_1 : List ByteArray) (x9_1 : Int) (x10_1 : Int) (x51_1 : Int), v9 = .int .i64 x9_1 ∧ v10 = .int .i64 x10_1 ∧ v51 = .int .i64 x51_1 ∧ Aside0 (spec_orSearch.l0 kq l1 x8_1 x9_1 x10_1 t866 (t866.length : Int) x51_1 a0_0 a0_1 = some (r1, r2, r3)) ∧ Aside0 (kq ≤ k) ∧ Aside0 (Kd.R Kd.string 9 w' w.heap.size (fun k_ => some k_ ≠ ((.slice Ao34 t866.length co34) : Value).ownBlock) v8 x8_1) ∧ Aside0 (Kd.R Kd.string 9 w' w.heap.size (fun k_ => some k_ ≠ (v8 : Value).ownBlock) (.slice Ao34 t866.length co34) t866) ∧ Aside0 (w'.heap[gb854]? = some (.cells #[.int .i64 a0_0, .int .i64 a0_1] 28 (0, 0))) ∧ Aside0 (Below w.heap.size w w'))
  case atStart => exact ⟨(([] : List ByteArray)), (0), (0), (0), (by first | rfl | (simp; done) | (simp [*]; done)), (by first | rfl | (simp; done) | (simp [*]; done)), (by first | rfl | (simp; done) | (simp [*]; done)), H', ⟨Nat.le_refl _⟩, ⟨by first | exact Kd.R_nil _ _ _ _ _ | exact Kd.N_nil _ _ _ _ _ | exact Kd.V_nil _ _ _ _ _ | exact Kd.Q_nil _ _ _ _ _ | exact Kd.S_nil _ _ _ _ _⟩, ⟨by (with_reducible repeat (first | apply r_a | apply r_d | apply r_e)); exact Kd.R_mono HO868.out (fun _ hk => (by simp [Value.ownBlock]))⟩, ⟨bK BK854⟩, ⟨bB HB⟩⟩
  clear H'
  try clear c1
  try clear c4
  try clear c4b0
  try clear c4b1
  try clear c26
  try clear c26b0
  try clear c27
  try clear c27b0
  try clear hcz30_0
  try clear hcz30_1
  try clear hfz30_0
  try clear hfz30_1
  try clear hx865_0
  try clear p865
  try clear q865
  obtain ⟨x8_1, x9_1, x10_1, x51_1, rfl, rfl, rfl, HA, HK1, HO_8, HO_49, BK854, HB⟩ := hrel
  rcases gk with _ | k1
  · exact absurd HA.out (by simp [spec_orSearch.l0])
  have H := HA.out
  clear HA
  simp only [spec_orSearch.l0] at H
  by_cases c35 : x51_1 < (t866.length : Int)
  rotate_left
  · rw [if_neg c35] at H
    have c35b0 : decide (x51_1 < (t866.length : Int)) = false := decide_eq_false c35
    clear c35
    simp only [Option.some.injEq, Prod.mk.injEq] at H
    obtain ⟨rfl, rfl, rfl⟩ := H
    go_wp2
    go_ret3
    exact ⟨_, by first | rfl | (simp [errW_none, errW_some] <;> rfl) | (simp only [← hji25]; first | rfl | (simp [errW_none, errW_some] <;> rfl)) | (simp [*, errW_none, errW_some] <;> rfl), by (with_reducible repeat (first | apply r_a | apply r_d | apply r_e)); exact Kd.R_mono HO_8.out (fun _ hk => trivial), bB HB⟩
  rw [if_pos c35] at H
  have c35b0 : decide (x51_1 < (t866.length : Int)) = true := decide_eq_true c35
  clear c35
  by_cases c36 : 0 ≤ x51_1
  rotate_left
  · rw [if_neg c36] at H
    exact absurd H (by simp)
  rw [if_pos c36] at H
  have c36b0 : decide (0 ≤ x51_1) = true := decide_eq_true c36
  clear c36
  by_cases c37 : x51_1 < (t866.length : Int)
  rotate_left
  · rw [if_neg c37] at H
    exact absurd H (by simp)
  rw [if_pos c37] at H
  have c37b0 : decide (x51_1 < (t866.length : Int)) = true := decide_eq_true c37
  clear c37
  replace H := Option.bind_eq_some_iff.mp H
  obtain ⟨t871, A380, H⟩ := H
  try dsimp only at H
  have A38 := Aside0.mk A380
  clear A380
  by_cases c39 : t871 = true
  · subst c39
    rw [if_pos rfl] at H
    have H' := Aside0.mk H
    clear H
    have p870 : 0 ≤ (x51_1 : Int) := of_decide_eq_true (by first | (with_reducible assumption) | assumption)
    have q870 : x51_1 < (t866.length : Int) := of_decide_eq_true (by first | (with_reducible assumption) | assumption)
    obtain ⟨ad870, e870, hx870_0⟩ := Kd.at_string (Kd.R_reads' HO_49.out).2.2 x51_1 p870 q870
    cases e870
    replace p870 := eq_true p870
    replace q870 := eq_true q870
    go_wp2_with (first | ((with_reducible refine gate_callee (f := 86) rfl ?_); refine goesL_ (some 57) rfl rfl Try.func86 (by kernel_rfl) rfl #[.slice (some ad865) l1.length c1, .string (rdOf ByteArray.empty t866 x51_1)] rfl (by (try simp only [m_1, m_2, m_3]); first | done | rfl | (simp only [m_4, m_5]; rfl)) ?_; (with_reducible refine (spec_l1HasS.calls k1 _ _ l1 (rdOf ByteArray.empty t866 x51_1) true _ ?side1 ?side2 A38.out).mono ?_); (case side1 => repeat (first | exact (Kd.C_below HR1.out HB.out) | (with_reducible refine Kd.C_alloc ?_ _) | (with_reducible refine Kd.C_drewN ?_ _) | (with_reducible refine Kd.C_drew ?_))); (case side2 => exact HC1.out); rintro e w' ⟨rfl, ⟨nd, rfl⟩⟩; refine ⟨_, rfl, ?_⟩))
    go_roundg k1
    case measure => have := HK1.out; omega
    case rel => refine ⟨(x8_1), (x9_1), (x10_1), (wrap64 (x51_1 + 1)), (by first | rfl | (simp; done) | (simp [*]; done)), (by first | rfl | (simp; done) | (simp [*]; done)), (by first | rfl | (simp; done) | (simp [*]; done)), H', ⟨by have := HK1.out; omega⟩, ⟨?_⟩, ⟨?_⟩, ⟨?_⟩, ⟨bB HB⟩⟩ <;> (with_reducible repeat (first | refine g_d ?_ _ | refine g_e ?_ | refine g_a ?_ _ | apply r_a | apply r_d | apply r_e)) <;> first | exact BK854.out | exact HO_8.out | exact HO_49.out
  replace c39 := Bool.eq_false_iff.mpr c39
  subst c39
  rw [if_neg (show ¬ (false = true) by decide)] at H
  replace H := Option.bind_eq_some_iff.mp H
  obtain ⟨t872, A400, H⟩ := H
  try dsimp only at H
  have A40 := Aside0.mk A400
  clear A400
  obtain ⟨y875, hy875⟩ : ∃ y_ : List ByteArray, y_ = (([rdOf ByteArray.empty t866 x51_1] : List ByteArray)) := ⟨_, rfl⟩
  replace H : (if t872.length + y875.length < 8796093022208 then ((spec_orSearch.f k1 a0_0 a0_1 (t872 ++ y875)).bind fun bt881 => (if x9_1 = 0 then (spec_orSearch.l0 k1 l1 bt881.1 (wrap64 (x9_1 + bt881.2.1)) (wrap64 (x10_1 + bt881.2.2)) t866 (t866.length : Int) (wrap64 (x51_1 + 1)) a0_0 a0_1) else (spec_orSearch.l0 k1 l1 x8_1 (wrap64 (x9_1 + bt881.2.1)) (wrap64 (x10_1 + bt881.2.2)) t866 (t866.length : Int) (wrap64 (x51_1 + 1)) a0_0 a0_1))) else (none)) = some (r1, r2, r3) := by first | (rw [hy875]; with_reducible exact H) | (have H2_ := (Option.bind_some _ _).symm.trans H; rw [hy875]; with_reducible exact H2_) | (have H2_ := (Option.bind_some _ _).symm.trans H; with_reducible exact H2_) | with_reducible exact H | (rw [hy875]; exact H) | exact H
  have Ny875 := Aside0.mk hy875
  clear hy875
  by_cases c41 : t872.length + y875.length < 8796093022208
  rotate_left
  · rw [if_neg c41] at H
    exact absurd H (by simp)
  rw [if_pos c41] at H
  have LMc41 := Aside0.mk c41
  clear c41
  obtain ⟨y878, hy878⟩ : ∃ y_ : List ByteArray, y_ = (t872 ++ y875) := ⟨_, rfl⟩
  replace H : ((spec_orSearch.f k1 a0_0 a0_1 y878).bind fun bt881 => (if x9_1 = 0 then (spec_orSearch.l0 k1 l1 bt881.1 (wrap64 (x9_1 + bt881.2.1)) (wrap64 (x10_1 + bt881.2.2)) t866 (t866.length : Int) (wrap64 (x51_1 + 1)) a0_0 a0_1) else (spec_orSearch.l0 k1 l1 x8_1 (wrap64 (x9_1 + bt881.2.1)) (wrap64 (x10_1 + bt881.2.2)) t866 (t866.length : Int) (wrap64 (x51_1 + 1)) a0_0 a0_1))) = some (r1, r2, r3) := by first | (rw [hy878]; with_reducible exact H) | (have H2_ := (Option.bind_some _ _).symm.trans H; rw [hy878]; with_reducible exact H2_) | (have H2_ := (Option.bind_some _ _).symm.trans H; with_reducible exact H2_) | with_reducible exact H | (rw [hy878]; exact H) | exact H
  have Ny878 := Aside0.mk hy878
  clear hy878
  replace H := Option.bind_eq_some_iff.mp H
  obtain ⟨⟨t881, t884, t885⟩, A420, H⟩ := H
  try dsimp only at H
  have A42 := Aside0.mk A420
  clear A420
  by_cases c43 : x9_1 = 0
  rotate_left
  · rw [if_neg c43] at H
    have c43b0 : (x9_1 == 0) = false := beq_eq_false_iff_ne.mpr c43
    have c43b1 : (x9_1 != 0) = true := bne_iff_ne.mpr c43
    have H' := Aside0.mk H
    clear H
    have p870 : 0 ≤ (x51_1 : Int) := of_decide_eq_true (by first | (with_reducible assumption) | assumption)
    have q870 : x51_1 < (t866.length : Int) := of_decide_eq_true (by first | (with_reducible assumption) | assumption)
    obtain ⟨ad870, e870, hx870_0⟩ := Kd.at_string (Kd.R_reads' HO_49.out).2.2 x51_1 p870 q870
    cases e870
    replace p870 := eq_true p870
    replace q870 := eq_true q870
    try go_wp2_with (first | ((with_reducible refine gate_callee (f := 86) rfl ?_); refine goesL_ (some 57) rfl rfl Try.func86 (by kernel_rfl) rfl #[.slice (some ad865) l1.length c1, .string (rdOf ByteArray.empty t866 x51_1)] rfl (by (try simp only [m_1, m_2, m_3]); first | done | rfl | (simp only [m_4, m_5]; rfl)) ?_; (with_reducible refine (spec_l1HasS.calls k1 _ _ l1 (rdOf ByteArray.empty t866 x51_1) false _ ?side1 ?side2 A38.out).mono ?_); (case side1 => repeat (first | exact (Kd.C_below HR1.out HB.out) | (with_reducible refine Kd.C_alloc ?_ _) | (with_reducible refine Kd.C_drewN ?_ _) | (with_reducible refine Kd.C_drew ?_))); (case side2 => exact HC1.out); rintro e w' ⟨rfl, ⟨nd, rfl⟩⟩; refine ⟨_, rfl, ?_⟩))
    (try (rw [drewN_self wr]; generalize hq_ : World.drewN wr _ = wr; have n0_ : Aside0 (Kd.R Kd.string 9 wr w.heap.size (fun k_ => some k_ ≠ (u8 : Value).ownBlock) (.slice (some ad870) t866.length co34) t866) := ⟨by rw [← hq_]; exact (by (with_reducible repeat (first | apply r_a | apply r_d | apply r_e)); exact HO_49.out)⟩; have n1_ : Aside0 (Kd.R Kd.string 9 wr w.heap.size (fun k_ => some k_ ≠ (.slice (some ad870) t866.length co34 : Value).ownBlock) u8 x8_1) := ⟨by rw [← hq_]; exact (by (with_reducible repeat (first | apply r_a | apply r_d | apply r_e)); exact HO_8.out)⟩; have n2_ : Aside0 (wr.heap[gb854]? = some (.cells #[.int .i64 a0_0, .int .i64 a0_1] 28 (0, 0))) := ⟨by rw [← hq_]; exact (bK BK854)⟩; have n3_ : Aside0 (Below w.heap.size w wr) := ⟨by rw [← hq_]; exact (bB HB)⟩; clear HO_49 HO_8 BK854 HB hq_; have HO_49 := n0_; have HO_8 := n1_; have BK854 := n2_; have HB := n3_; clear n0_ n1_ n2_ n3_))
    have n0_ := Aside0.mk (r_e HO_8.out)
    have n1_ := Aside0.mk (r_e HO_49.out)
    have n2_ := Aside0.mk (g_e BK854.out)
    have n3_ := Aside0.mk (b_e HB.out)
    clear HO_8
    clear HO_49
    clear BK854
    clear HB
    have HO_8 := n0_
    have HO_49 := n1_
    have BK854 := n2_
    have HB := n3_
    clear n0_ n1_ n2_ n3_
    refine start_ (n := 14) (S := fun w' => w'.cell? ⟨gb854, 0, none⟩ = some (.int .i64 a0_0) ∧ w'.cell? ⟨gb854, 1, none⟩ = some (.int .i64 a0_1)) (ds := []) (bs_ 14 0) (by kernel_rfl) rfl rfl ⟨(blk_cell BK854.out 0).trans rfl, (blk_cell BK854.out 1).trans rfl⟩ (fun hHeld => ?_); refine with_tabW spec_orSearch.tab13 spec_orSearch.bits13 (fun HT_ HW_ => ?_)
    generalize wr.drew = w53 at HO_8 HO_49 BK854 HB hHeld ⊢
    refine pua 1 60 (bs_ 14 2) HT_ ?_
    refine pua 3 62 (bs_ 14 10) HT_ ?_
    refine tk_ 0 59 (bs_ 14 11) rfl rfl HT_ HW_ (by kernel_rfl) (fun _ _ _ h => h) (by rfl) hHeld (by rintro w' ⟨s0, s1⟩; go_simp; with_reducible rfl) (by simp only [Act.put, s_1, s_2, s_3, i64_w, i32_w]; rfl) ?_
    refine join_ (σ := Value × Value) 9 (bs_ 14 31) (fun s_ => [(61, s_.1), (63, s_.2)]) (fun s_ w' => (w'.cell? ⟨gb854, 0, none⟩ = some (.int .i64 a0_0) ∧ w'.cell? ⟨gb854, 1, none⟩ = some (.int .i64 a0_1)) ∧ (Kd.R Kd.string 9 w' w.heap.size (fun k_ => some k_ ≠ (s_.2 : Value).ownBlock ∧ some k_ ≠ (.slice (some ad870) t866.length co34 : Value).ownBlock ∧ some k_ ≠ (u8 : Value).ownBlock) s_.1 t872) ∧ (Kd.R Kd.string 9 w' w.heap.size (fun k_ => some k_ ≠ (s_.1 : Value).ownBlock ∧ some k_ ≠ (.slice (some ad870) t866.length co34 : Value).ownBlock ∧ some k_ ≠ (u8 : Value).ownBlock) s_.2 y875) ∧ (Kd.R Kd.string 9 w' w.heap.size (fun k_ => some k_ ≠ (s_.1 : Value).ownBlock ∧ some k_ ≠ (s_.2 : Value).ownBlock ∧ some k_ ≠ (u8 : Value).ownBlock) (.slice (some ad870) t866.length co34) t866) ∧ (Kd.R Kd.string 9 w' w.heap.size (fun k_ => some k_ ≠ (s_.1 : Value).ownBlock ∧ some k_ ≠ (s_.2 : Value).ownBlock ∧ some k_ ≠ (.slice (some ad870) t866.length co34 : Value).ownBlock) u8 x8_1) ∧ (w'.heap[gb854]? = some (.cells #[.int .i64 a0_0, .int .i64 a0_1] 28 (0, 0))) ∧ (Below w.heap.size w w')) ?_ ?_
    rotate_left
    · intro hCont
      refine two_ (i := 2) (j := 4) (Ni := some 61) (Nj := some 63) (bs_ 14 15) (bs_ 14 27) rfl rfl rfl rfl (two_of HT_.out (by kernel_rfl)) (by decide) (by decide) (fun K hK => ?_) (fun K hK => ?_)
      rotate_left
      · skip
        refine Kd.R_lit_step Kd.string _ 9 ?hg (N := 63) ?hd (xs := ([rdOf ByteArray.empty t866 x51_1] : List ByteArray)) (inner := [.string (rdOf ByteArray.empty t866 x51_1)]) (ok := fun _ => True) (okp := fun _ => True) ?hr ?hp (fun _ hk => hk) trivial (Below.refl _ _) (Nat.le_refl _) (by simp) ?_; (case hd => rfl); (case hg => rfl); (case hr => first | (go_simp; done) | (go_simp; rfl)); (case hp => exact (Reps.one (show Kd.M Kd.string _ _ _ (rdOf ByteArray.empty t866 x51_1) [.string (rdOf ByteArray.empty t866 x51_1)] from rfl) (Reps.none _ _)))
        intro v876 w54 ho55 hb hg_ hnew_
        clear hg_ hnew_
        (first | rw [← Ny875.out] at ho55 | (simp only [Int.reduceToNat] at ho55; rw [← Ny875.out] at ho55))
        have n0_ := Aside0.mk (Kd.R_elder' (by (with_reducible repeat (first | apply r_a | apply r_d | apply r_e)); exact HO_8.out) (Kd.R_base ho55) hb)
        have n1_ := Aside0.mk (Kd.R_elder' (by (with_reducible repeat (first | apply r_a | apply r_d | apply r_e)); exact HO_49.out) (Kd.R_base ho55) hb)
        have n2_ := Aside0.mk (Kd.R_lower (Kd.R_new' (Kd.R_new' ho55 (Kd.R_lt (by (with_reducible repeat (first | apply r_a | apply r_d | apply r_e)); exact HO_8.out))) (Kd.R_lt (by (with_reducible repeat (first | apply r_a | apply r_d | apply r_e)); exact HO_49.out))) (below_size (bB HB)))
        have n3_ := bbx hb BK854
        have n4_ := bsx hb HB
        clear HO_8
        clear HO_49
        clear BK854
        clear HB
        have HO_8 := n0_
        have HO_49 := n1_
        have HO877 := n2_
        have BK854 := n3_
        have HB := n4_
        clear n0_ n1_ n2_ n3_ n4_
        clear hb ho55
        refine hK.out _ _ ⟨(blk_cell BK854.out 0).trans rfl, (blk_cell BK854.out 1).trans rfl⟩ (fun hHeld => ?_)
        clear hK K
        refine norm_ (a' := ?_) ?_ ?_
        rotate_left
        · show Act.put _ (some 63) _ = _
          simp only [Act.put, s_1, s_2, s_3, i64_w, i32_w]
          rfl
        refine one_ (i := 2) (N := some 61) (bs_ 14 31) rfl rfl (one_of HT_.out (by kernel_rfl)) (by decide) (fun K hK => ?_)
        refine goes_ Try.func131 (by kernel_rfl) rfl #[.slice (some ad865) l1.length c1] (by rfl) rfl rfl (by (try simp only [m_1, m_2, m_3]); first | done | rfl | (simp only [m_4, m_5]; rfl)) ?_
        with_reducible refine (spec_l1OwnS.calls _ _ l1 t872 _ ?side1 ?side2 A40.out).mono ?_
        (case side1 => repeat (first | exact (Kd.C_below HR1.out HB.out) | (with_reducible refine Kd.C_alloc ?_ _) | (with_reducible refine Kd.C_drewN ?_ _) | (with_reducible refine Kd.C_drew ?_)))
        (case side2 => exact HC1.out)
        rintro e w56 ⟨v873, rfl, ho0, hb⟩
        refine ⟨_, rfl, ?_⟩
        have n0_ := Aside0.mk (Kd.R_elder' (by (with_reducible repeat (first | apply r_a | apply r_d | apply r_e)); exact HO_8.out) (Kd.R_base ho0) hb)
        have n1_ := Aside0.mk (Kd.R_elder' (by (with_reducible repeat (first | apply r_a | apply r_d | apply r_e)); exact HO_49.out) (Kd.R_base ho0) hb)
        have n2_ := Aside0.mk (Kd.R_elder' (by (with_reducible repeat (first | apply r_a | apply r_d | apply r_e)); exact HO877.out) (Kd.R_base ho0) hb)
        have n3_ := Aside0.mk (Kd.R_lower (Kd.R_new' (Kd.R_new' (Kd.R_new' ho0 (Kd.R_lt (by (with_reducible repeat (first | apply r_a | apply r_d | apply r_e)); exact HO_8.out))) (Kd.R_lt (by (with_reducible repeat (first | apply r_a | apply r_d | apply r_e)); exact HO_49.out))) (Kd.R_lt (by (with_reducible repeat (first | apply r_a | apply r_d | apply r_e)); exact HO877.out))) (below_size (bB HB)))
        have n4_ := bbx hb BK854
        have n5_ := bsx hb HB
        clear HO_8
        clear HO_49
        clear HO877
        clear BK854
        clear HB
        have HO_8 := n0_
        have HO_49 := n1_
        have HO877 := n2_
        have HO874 := n3_
        have BK854 := n4_
        have HB := n5_
        clear n0_ n1_ n2_ n3_ n4_ n5_
        (try clear hb)
        (try clear hb2)
        (try clear hk)
        (try clear hi)
        (try clear ho0)
        refine hK.out _ _ ⟨(blk_cell BK854.out 0).trans rfl, (blk_cell BK854.out 1).trans rfl⟩ (fun hHeld => ?_)
        clear hK K
        refine norm_ (a' := ?_) ?_ ?_
        rotate_left
        · show Act.put _ (some 61) _ = _
          simp only [Act.put, s_1, s_2, s_3, i64_w, i32_w]
          rfl
        exact norm_ (by simp only [putAll, Act.put, s_1, s_2, s_3]) (hCont (v873, v876) _ ⟨hHeld, (by (with_reducible repeat (first | apply r_a | apply r_d | apply r_e)); exact Kd.R_mono HO874.out (fun _ hk => ⟨hk.2, ⟨hk.1.2, hk.1.1.2⟩⟩)), (by (with_reducible repeat (first | apply r_a | apply r_d | apply r_e)); exact Kd.R_mono HO877.out (fun _ hk => ⟨hk.2, ⟨hk.1.2, hk.1.1.2⟩⟩)), (by (with_reducible repeat (first | apply r_a | apply r_d | apply r_e)); exact Kd.R_mono HO_49.out (fun _ hk => ⟨hk.2, ⟨hk.1.2, hk.1.1⟩⟩)), (by (with_reducible repeat (first | apply r_a | apply r_d | apply r_e)); exact Kd.R_mono HO_8.out (fun _ hk => ⟨hk.2, ⟨hk.1.2, hk.1.1⟩⟩)), (bK BK854), (bB HB)⟩)
      skip
      refine goes_ Try.func131 (by kernel_rfl) rfl #[.slice (some ad865) l1.length c1] (by rfl) rfl rfl (by (try simp only [m_1, m_2, m_3]); first | done | rfl | (simp only [m_4, m_5]; rfl)) ?_
      with_reducible refine (spec_l1OwnS.calls _ _ l1 t872 _ ?side1 ?side2 A40.out).mono ?_
      (case side1 => repeat (first | exact (Kd.C_below HR1.out HB.out) | (with_reducible refine Kd.C_alloc ?_ _) | (with_reducible refine Kd.C_drewN ?_ _) | (with_reducible refine Kd.C_drew ?_)))
      (case side2 => exact HC1.out)
      rintro e w54 ⟨v873, rfl, ho0, hb⟩
      refine ⟨_, rfl, ?_⟩
      have n0_ := Aside0.mk (Kd.R_elder' (by (with_reducible repeat (first | apply r_a | apply r_d | apply r_e)); exact HO_8.out) (Kd.R_base ho0) hb)
      have n1_ := Aside0.mk (Kd.R_elder' (by (with_reducible repeat (first | apply r_a | apply r_d | apply r_e)); exact HO_49.out) (Kd.R_base ho0) hb)
      have n2_ := Aside0.mk (Kd.R_lower (Kd.R_new' (Kd.R_new' ho0 (Kd.R_lt (by (with_reducible repeat (first | apply r_a | apply r_d | apply r_e)); exact HO_8.out))) (Kd.R_lt (by (with_reducible repeat (first | apply r_a | apply r_d | apply r_e)); exact HO_49.out))) (below_size (bB HB)))
      have n3_ := bbx hb BK854
      have n4_ := bsx hb HB
      clear HO_8
      clear HO_49
      clear BK854
      clear HB
      have HO_8 := n0_
      have HO_49 := n1_
      have HO874 := n2_
      have BK854 := n3_
      have HB := n4_
      clear n0_ n1_ n2_ n3_ n4_
      (try clear hb)
      (try clear hb2)
      (try clear hk)
      (try clear hi)
      (try clear ho0)
      refine hK.out _ _ ⟨(blk_cell BK854.out 0).trans rfl, (blk_cell BK854.out 1).trans rfl⟩ (fun hHeld => ?_)
      clear hK K
      refine norm_ (a' := ?_) ?_ ?_
      rotate_left
      · show Act.put _ (some 61) _ = _
        simp only [Act.put, s_1, s_2, s_3, i64_w, i32_w]
        rfl
      refine one_ (i := 4) (N := some 63) (bs_ 14 31) rfl rfl (one_of HT_.out (by kernel_rfl)) (by decide) (fun K hK => ?_)
      refine Kd.R_lit_step Kd.string _ 9 ?hg (N := 63) ?hd (xs := ([rdOf ByteArray.empty t866 x51_1] : List ByteArray)) (inner := [.string (rdOf ByteArray.empty t866 x51_1)]) (ok := fun _ => True) (okp := fun _ => True) ?hr ?hp (fun _ hk => hk) trivial (Below.refl _ _) (Nat.le_refl _) (by simp) ?_; (case hd => rfl); (case hg => rfl); (case hr => first | (go_simp; done) | (go_simp; rfl)); (case hp => exact (Reps.one (show Kd.M Kd.string _ _ _ (rdOf ByteArray.empty t866 x51_1) [.string (rdOf ByteArray.empty t866 x51_1)] from rfl) (Reps.none _ _)))
      intro v876 w55 ho56 hb hg_ hnew_
      clear hg_ hnew_
      (first | rw [← Ny875.out] at ho56 | (simp only [Int.reduceToNat] at ho56; rw [← Ny875.out] at ho56))
      have n0_ := Aside0.mk (Kd.R_elder' (by (with_reducible repeat (first | apply r_a | apply r_d | apply r_e)); exact HO_8.out) (Kd.R_base ho56) hb)
      have n1_ := Aside0.mk (Kd.R_elder' (by (with_reducible repeat (first | apply r_a | apply r_d | apply r_e)); exact HO_49.out) (Kd.R_base ho56) hb)
      have n2_ := Aside0.mk (Kd.R_elder' (by (with_reducible repeat (first | apply r_a | apply r_d | apply r_e)); exact HO874.out) (Kd.R_base ho56) hb)
      have n3_ := Aside0.mk (Kd.R_lower (Kd.R_new' (Kd.R_new' (Kd.R_new' ho56 (Kd.R_lt (by (with_reducible repeat (first | apply r_a | apply r_d | apply r_e)); exact HO_8.out))) (Kd.R_lt (by (with_reducible repeat (first | apply r_a | apply r_d | apply r_e)); exact HO_49.out))) (Kd.R_lt (by (with_reducible repeat (first | apply r_a | apply r_d | apply r_e)); exact HO874.out))) (below_size (bB HB)))
      have n4_ := bbx hb BK854
      have n5_ := bsx hb HB
      clear HO_8
      clear HO_49
      clear HO874
      clear BK854
      clear HB
      have HO_8 := n0_
      have HO_49 := n1_
      have HO874 := n2_
      have HO877 := n3_
      have BK854 := n4_
      have HB := n5_
      clear n0_ n1_ n2_ n3_ n4_ n5_
      clear hb ho56
      refine hK.out _ _ ⟨(blk_cell BK854.out 0).trans rfl, (blk_cell BK854.out 1).trans rfl⟩ (fun hHeld => ?_)
      clear hK K
      refine norm_ (a' := ?_) ?_ ?_
      rotate_left
      · show Act.put _ (some 63) _ = _
        simp only [Act.put, s_1, s_2, s_3, i64_w, i32_w]
        rfl
      exact norm_ (by simp only [putAll, Act.put, s_1, s_2, s_3]) (hCont (v873, v876) _ ⟨hHeld, (by (with_reducible repeat (first | apply r_a | apply r_d | apply r_e)); exact Kd.R_mono HO874.out (fun _ hk => ⟨hk.2, ⟨hk.1.2, hk.1.1.2⟩⟩)), (by (with_reducible repeat (first | apply r_a | apply r_d | apply r_e)); exact Kd.R_mono HO877.out (fun _ hk => ⟨hk.2, ⟨hk.1.2, hk.1.1.2⟩⟩)), (by (with_reducible repeat (first | apply r_a | apply r_d | apply r_e)); exact Kd.R_mono HO_49.out (fun _ hk => ⟨hk.1.2, ⟨hk.2, hk.1.1⟩⟩)), (by (with_reducible repeat (first | apply r_a | apply r_d | apply r_e)); exact Kd.R_mono HO_8.out (fun _ hk => ⟨hk.1.2, ⟨hk.2, hk.1.1⟩⟩)), (bK BK854), (bB HB)⟩)
    rintro ⟨v873, v876⟩ w57 ⟨hS_, h0_, h1_, h2_, h3_, h4_, h5_⟩
    have n0_ : Aside0 (Kd.R Kd.string 9 w57 w.heap.size (fun k_ => some k_ ≠ (v876 : Value).ownBlock ∧ some k_ ≠ (.slice (some ad870) t866.length co34 : Value).ownBlock ∧ some k_ ≠ (u8 : Value).ownBlock) v873 t872) := ⟨h0_⟩
    have n1_ : Aside0 (Kd.R Kd.string 9 w57 w.heap.size (fun k_ => some k_ ≠ (v873 : Value).ownBlock ∧ some k_ ≠ (.slice (some ad870) t866.length co34 : Value).ownBlock ∧ some k_ ≠ (u8 : Value).ownBlock) v876 y875) := ⟨h1_⟩
    have n2_ : Aside0 (Kd.R Kd.string 9 w57 w.heap.size (fun k_ => some k_ ≠ (v873 : Value).ownBlock ∧ some k_ ≠ (v876 : Value).ownBlock ∧ some k_ ≠ (u8 : Value).ownBlock) (.slice (some ad870) t866.length co34) t866) := ⟨h2_⟩
    have n3_ : Aside0 (Kd.R Kd.string 9 w57 w.heap.size (fun k_ => some k_ ≠ (v873 : Value).ownBlock ∧ some k_ ≠ (v876 : Value).ownBlock ∧ some k_ ≠ (.slice (some ad870) t866.length co34 : Value).ownBlock) u8 x8_1) := ⟨h3_⟩
    have n4_ : Aside0 (w57.heap[gb854]? = some (.cells #[.int .i64 a0_0, .int .i64 a0_1] 28 (0, 0))) := ⟨h4_⟩
    have n5_ : Aside0 (Below w.heap.size w w57) := ⟨h5_⟩
    clear HO_8
    clear HO_49
    clear BK854
    clear HB
    clear h0_ h1_ h2_ h3_ h4_ h5_
    have HO874 := n0_
    have HO877 := n1_
    have HO_49 := n2_
    have HO_8 := n3_
    have BK854 := n4_
    have HB := n5_
    clear n0_ n1_ n2_ n3_ n4_ n5_
    have hHeld : w57.cell? ⟨gb854, 0, none⟩ = some (.int .i64 a0_0) ∧ w57.cell? ⟨gb854, 1, none⟩ = some (.int .i64 a0_1) := hS_
    obtain ⟨Ao59, co59, eo59⟩ := Kd.R_slice HO877.out
    (first | subst eo59 | (injection eo59 with f1_ f2_ f3_; have f4_ := f1_.symm; have f5_ := f3_.symm; clear f1_ f2_ f3_; subst f4_; subst f5_))
    refine norm_ (a' := ?_) ?_ ?_
    rotate_left
    · simp only [putAll, Act.put, s_1, s_2, s_3]
      rfl
    refine one_ (i := 5) (N := some 64) (bs_ 14 63) rfl rfl (one_of HT_.out (by kernel_rfl)) (by decide) (fun K hK => ?_)
    refine Kd.R_append_rows_step Kd.string (w0 := w) w.heap.size (by rfl) (.tmp 61) (.tmp 63) 24 9 (.string ⟨#[]⟩) 16 rfl Try.underlying24 info9 rfl (by decide) (by omega) v873 t872 y875 _ _ _ (fun k_ => some k_ ≠ (u8 : Value).ownBlock ∧ some k_ ≠ (.slice (some ad870) t866.length co34 : Value).ownBlock ∧ some k_ ≠ (.slice Ao59 y875.length co59 : Value).ownBlock) (fun _ => False) rfl rfl ?aO ?aR (fun _ _ h => h) (fun _ h => h.elim) ?aF ?aB ?aS ?aL ?_
    (case aR => repeat (first | exact (Kd.R_reads' HO877.out).2.2 | (with_reducible refine Kd.C_alloc ?_ _) | (with_reducible refine Kd.C_drewN ?_ _) | (with_reducible refine Kd.C_drew ?_)))
    (case aB => exact (bB HB))
    (case aF => exact (fun k_ hk => ⟨Kd.fresh' (Kd.R_lt (by (with_reducible repeat (first | apply r_a | apply r_d | apply r_e)); exact HO_8.out)) k_ hk, Kd.fresh' (Kd.R_lt (by (with_reducible repeat (first | apply r_a | apply r_d | apply r_e)); exact HO_49.out)) k_ hk, Kd.fresh' (Kd.R_lt (by (with_reducible repeat (first | apply r_a | apply r_d | apply r_e)); exact HO877.out)) k_ hk⟩))
    (case aO => exact (by (with_reducible repeat (first | apply r_a | apply r_d | apply r_e)); exact Kd.R_mono HO874.out (fun _ hk => ⟨hk.2.2, ⟨hk.2.1, hk.1⟩⟩)))
    (case aS => exact (below_size (bB HB)))
    (case aL => have := LMc41.out; omega)
    intro v879 w58 ho hb hg hat
    rw [← Ny878.out] at ho
    have n0_ := Aside0.mk (Kd.R_after (ok := (fun k_ => some k_ ≠ (.slice (some ad870) t866.length co34 : Value).ownBlock ∧ some k_ ≠ (.slice Ao59 y875.length co59 : Value).ownBlock)) (by (with_reducible repeat (first | apply r_a | apply r_d | apply r_e)); exact Kd.R_mono HO_8.out (fun _ hk => ⟨⟨hk.2.2, hk.2.1⟩, hk.1⟩)) hg hat)
    have n1_ := Aside0.mk (Kd.R_after (ok := (fun k_ => some k_ ≠ (u8 : Value).ownBlock ∧ some k_ ≠ (.slice Ao59 y875.length co59 : Value).ownBlock)) (by (with_reducible repeat (first | apply r_a | apply r_d | apply r_e)); exact Kd.R_mono HO_49.out (fun _ hk => ⟨⟨hk.2.2, hk.2.1⟩, hk.1⟩)) hg hat)
    have n2_ := Aside0.mk (blk_grown (g := gb854) (o := .cells #[.int .i64 a0_0, .int .i64 a0_1] 28 (0, 0)) (bK BK854) hg (Kd.R_ne HO874.out BK854.out (by decide)))
    have n3_ := Aside0.mk (Kd.R_after (ok := (fun k_ => some k_ ≠ (u8 : Value).ownBlock ∧ some k_ ≠ (.slice (some ad870) t866.length co34 : Value).ownBlock)) (by (with_reducible repeat (first | apply r_a | apply r_d | apply r_e)); exact Kd.R_mono HO877.out (fun _ hk => ⟨⟨hk.2.2, hk.2.1⟩, hk.1⟩)) hg hat)
    have n4_ := Aside0.mk (hb)
    have n5_ := Aside0.mk (ho)
    clear HO_8
    clear HO_49
    clear BK854
    clear HO877
    clear HB
    clear HO874
    have HO_8 := n0_
    have HO_49 := n1_
    have BK854 := n2_
    have HO877 := n3_
    have HB := n4_
    have HO880 := n5_
    clear n0_ n1_ n2_ n3_ n4_ n5_
    clear ho hb hg hat
    obtain ⟨Ao60, co60, eo60⟩ := Kd.R_slice HO880.out
    (first | subst eo60 | (injection eo60 with f1_ f2_ f3_; have f4_ := f1_.symm; have f5_ := f3_.symm; clear f1_ f2_ f3_; subst f4_; subst f5_))
    refine hK.out _ _ ⟨(blk_cell BK854.out 0).trans rfl, (blk_cell BK854.out 1).trans rfl⟩ (fun hHeld => ?_)
    clear hK K
    refine norm_ (a' := ?_) ?_ ?_
    rotate_left
    · show Act.put _ (some 64) _ = _
      simp only [Act.put, s_1, s_2, s_3, i64_w, i32_w]
      rfl
    refine one_ (i := 6) (N := some 65) (bs_ 14 127) rfl rfl (one_of HT_.out (by kernel_rfl)) (by decide) (fun K hK => ?_)
    refine goes_ Try.func80 (by kernel_rfl) rfl #[.agg #[.int .i64 a0_0, .int .i64 a0_1], .slice Ao60 y878.length co60] (by rfl) rfl rfl (by (try simp only [m_1, m_2, m_3]); first | done | rfl | (simp only [m_4, m_5]; rfl)) ?_
    with_reducible refine (ih k1 (by have := HK1.out; omega) a0_0 a0_1 _ _ y878 t881 t884 t885 _ ?side1 ?side2 A42.out).mono ?_
    (case side1 => repeat (first | exact (Kd.R_reads' HO880.out).2.2 | (with_reducible refine Kd.C_alloc ?_ _) | (with_reducible refine Kd.C_drewN ?_ _) | (with_reducible refine Kd.C_drew ?_)))
    (case side2 => exact (Kd.R_reads' HO880.out).2.1)
    rintro e w61 ⟨v882, rfl, ho0, hb⟩
    refine ⟨_, rfl, ?_⟩
    have n0_ := Aside0.mk (Kd.R_elder' (by (with_reducible repeat (first | apply r_a | apply r_d | apply r_e)); exact HO_8.out) (Kd.R_base ho0) hb)
    have n1_ := Aside0.mk (Kd.R_elder' (by (with_reducible repeat (first | apply r_a | apply r_d | apply r_e)); exact HO_49.out) (Kd.R_base ho0) hb)
    have n2_ := Aside0.mk (Kd.R_elder' (by (with_reducible repeat (first | apply r_a | apply r_d | apply r_e)); exact HO877.out) (Kd.R_base ho0) hb)
    have n3_ := Aside0.mk (Kd.R_elder' (by (with_reducible repeat (first | apply r_a | apply r_d | apply r_e)); exact HO880.out) (Kd.R_base ho0) hb)
    have n4_ := Aside0.mk (Kd.R_lower (Kd.R_new' (Kd.R_new' (Kd.R_new' (Kd.R_new' ho0 (Kd.R_lt (by (with_reducible repeat (first | apply r_a | apply r_d | apply r_e)); exact HO_8.out))) (Kd.R_lt (by (with_reducible repeat (first | apply r_a | apply r_d | apply r_e)); exact HO_49.out))) (Kd.R_lt (by (with_reducible repeat (first | apply r_a | apply r_d | apply r_e)); exact HO877.out))) (Kd.R_lt (by (with_reducible repeat (first | apply r_a | apply r_d | apply r_e)); exact HO880.out))) (below_size (bB HB)))
    have n5_ := bbx hb BK854
    have n6_ := bsx hb HB
    clear HO_8
    clear HO_49
    clear HO877
    clear HO880
    clear BK854
    clear HB
    have HO_8 := n0_
    have HO_49 := n1_
    have HO877 := n2_
    have HO880 := n3_
    have HO883 := n4_
    have BK854 := n5_
    have HB := n6_
    clear n0_ n1_ n2_ n3_ n4_ n5_ n6_
    (try clear hb)
    (try clear hb2)
    (try clear hk)
    (try clear hi)
    (try clear ho0)
    refine hK.out _ _ ⟨(blk_cell BK854.out 0).trans rfl, (blk_cell BK854.out 1).trans rfl⟩ (fun hHeld => ?_)
    clear hK K
    refine norm_ (a' := ?_) ?_ ?_
    rotate_left
    · show Act.put _ (some 65) _ = _
      simp only [Act.put, s_1, s_2, s_3, i64_w, i32_w]
      rfl
    refine pua 7 58 (bs_ 14 255) HT_ ?_
    refine pua 8 66 (bs_ 14 511) HT_ ?_
    refine pua 9 67 (bs_ 14 1023) HT_ ?_
    refine pua 10 68 (bs_ 14 2047) HT_ ?_
    refine pua 11 15 (bs_ 14 4095) HT_ ?_
    refine pua 12 16 (bs_ 14 8191) HT_ ?_
    refine pua 13 17 (bs_ 14 16383) HT_ ?_
    refine done_ (done_of HT_.out (by kernel_rfl)) ?_
    try go_wp2
    go_roundg k1
    case measure => have := HK1.out; omega
    case rel => exact ⟨(x8_1), (wrap64 (x9_1 + t884)), (wrap64 (x10_1 + t885)), (wrap64 (x51_1 + 1)), (by first | rfl | (simp; done) | (simp [*]; done)), (by first | rfl | (simp; done) | (simp [*]; done)), (by first | rfl | (simp; done) | (simp [*]; done)), H', ⟨by have := HK1.out; omega⟩, ⟨by (with_reducible repeat (first | apply r_a | apply r_d | apply r_e)); exact Kd.R_mono HO_8.out (fun _ hk => hk.1.1.1)⟩, ⟨by (with_reducible repeat (first | apply r_a | apply r_d | apply r_e)); exact Kd.R_mono HO_49.out (fun _ hk => hk.1.1.1)⟩, ⟨bK BK854⟩, ⟨bB HB⟩⟩
  rw [if_pos c43] at H
  have c43b0 : (x9_1 == 0) = true := beq_iff_eq.mpr c43
  have c43b1 : (x9_1 != 0) = false := bne_eq_false_iff_eq.mpr c43
  clear c43
  have H' := Aside0.mk H
  clear H
  have p870 : 0 ≤ (x51_1 : Int) := of_decide_eq_true (by first | (with_reducible assumption) | assumption)
  have q870 : x51_1 < (t866.length : Int) := of_decide_eq_true (by first | (with_reducible assumption) | assumption)
  obtain ⟨ad870, e870, hx870_0⟩ := Kd.at_string (Kd.R_reads' HO_49.out).2.2 x51_1 p870 q870
  cases e870
  replace p870 := eq_true p870
  replace q870 := eq_true q870
  try go_wp2_with (first | ((with_reducible refine gate_callee (f := 86) rfl ?_); refine goesL_ (some 57) rfl rfl Try.func86 (by kernel_rfl) rfl #[.slice (some ad865) l1.length c1, .string (rdOf ByteArray.empty t866 x51_1)] rfl (by (try simp only [m_1, m_2, m_3]); first | done | rfl | (simp only [m_4, m_5]; rfl)) ?_; (with_reducible refine (spec_l1HasS.calls k1 _ _ l1 (rdOf ByteArray.empty t866 x51_1) false _ ?side1 ?side2 A38.out).mono ?_); (case side1 => repeat (first | exact (Kd.C_below HR1.out HB.out) | (with_reducible refine Kd.C_alloc ?_ _) | (with_reducible refine Kd.C_drewN ?_ _) | (with_reducible refine Kd.C_drew ?_))); (case side2 => exact HC1.out); rintro e w' ⟨rfl, ⟨nd, rfl⟩⟩; refine ⟨_, rfl, ?_⟩))
  (try (rw [drewN_self wr]; generalize hq_ : World.drewN wr _ = wr; have n0_ : Aside0 (Kd.R Kd.string 9 wr w.heap.size (fun k_ => some k_ ≠ (u8 : Value).ownBlock) (.slice (some ad870) t866.length co34) t866) := ⟨by rw [← hq_]; exact (by (with_reducible repeat (first | apply r_a | apply r_d | apply r_e)); exact HO_49.out)⟩; have n1_ : Aside0 (Kd.R Kd.string 9 wr w.heap.size (fun k_ => some k_ ≠ (.slice (some ad870) t866.length co34 : Value).ownBlock) u8 x8_1) := ⟨by rw [← hq_]; exact (by (with_reducible repeat (first | apply r_a | apply r_d | apply r_e)); exact HO_8.out)⟩; have n2_ : Aside0 (wr.heap[gb854]? = some (.cells #[.int .i64 a0_0, .int .i64 a0_1] 28 (0, 0))) := ⟨by rw [← hq_]; exact (bK BK854)⟩; have n3_ : Aside0 (Below w.heap.size w wr) := ⟨by rw [← hq_]; exact (bB HB)⟩; clear HO_49 HO_8 BK854 HB hq_; have HO_49 := n0_; have HO_8 := n1_; have BK854 := n2_; have HB := n3_; clear n0_ n1_ n2_ n3_))
  have n0_ := Aside0.mk (r_e HO_8.out)
  have n1_ := Aside0.mk (r_e HO_49.out)
  have n2_ := Aside0.mk (g_e BK854.out)
  have n3_ := Aside0.mk (b_e HB.out)
  clear HO_8
  clear HO_49
  clear BK854
  clear HB
  have HO_8 := n0_
  have HO_49 := n1_
  have BK854 := n2_
  have HB := n3_
  clear n0_ n1_ n2_ n3_
  refine start_ (n := 14) (S := fun w' => w'.cell? ⟨gb854, 0, none⟩ = some (.int .i64 a0_0) ∧ w'.cell? ⟨gb854, 1, none⟩ = some (.int .i64 a0_1)) (ds := []) (bs_ 14 0) (by kernel_rfl) rfl rfl ⟨(blk_cell BK854.out 0).trans rfl, (blk_cell BK854.out 1).trans rfl⟩ (fun hHeld => ?_); refine with_tabW spec_orSearch.tab13 spec_orSearch.bits13 (fun HT_ HW_ => ?_)
  generalize wr.drew = w44 at HO_8 HO_49 BK854 HB hHeld ⊢
  refine pua 1 60 (bs_ 14 2) HT_ ?_
  refine pua 3 62 (bs_ 14 10) HT_ ?_
  refine tk_ 0 59 (bs_ 14 11) rfl rfl HT_ HW_ (by kernel_rfl) (fun _ _ _ h => h) (by rfl) hHeld (by rintro w' ⟨s0, s1⟩; go_simp; with_reducible rfl) (by simp only [Act.put, s_1, s_2, s_3, i64_w, i32_w]; rfl) ?_
  refine join_ (σ := Value × Value) 9 (bs_ 14 31) (fun s_ => [(61, s_.1), (63, s_.2)]) (fun s_ w' => (w'.cell? ⟨gb854, 0, none⟩ = some (.int .i64 a0_0) ∧ w'.cell? ⟨gb854, 1, none⟩ = some (.int .i64 a0_1)) ∧ (Kd.R Kd.string 9 w' w.heap.size (fun k_ => some k_ ≠ (s_.2 : Value).ownBlock ∧ some k_ ≠ (.slice (some ad870) t866.length co34 : Value).ownBlock ∧ some k_ ≠ (u8 : Value).ownBlock) s_.1 t872) ∧ (Kd.R Kd.string 9 w' w.heap.size (fun k_ => some k_ ≠ (s_.1 : Value).ownBlock ∧ some k_ ≠ (.slice (some ad870) t866.length co34 : Value).ownBlock ∧ some k_ ≠ (u8 : Value).ownBlock) s_.2 y875) ∧ (Kd.R Kd.string 9 w' w.heap.size (fun k_ => some k_ ≠ (s_.1 : Value).ownBlock ∧ some k_ ≠ (s_.2 : Value).ownBlock ∧ some k_ ≠ (u8 : Value).ownBlock) (.slice (some ad870) t866.length co34) t866) ∧ (Kd.R Kd.string 9 w' w.heap.size (fun k_ => some k_ ≠ (s_.1 : Value).ownBlock ∧ some k_ ≠ (s_.2 : Value).ownBlock ∧ some k_ ≠ (.slice (some ad870) t866.length co34 : Value).ownBlock) u8 x8_1) ∧ (w'.heap[gb854]? = some (.cells #[.int .i64 a0_0, .int .i64 a0_1] 28 (0, 0))) ∧ (Below w.heap.size w w')) ?_ ?_
  rotate_left
  · intro hCont
    refine two_ (i := 2) (j := 4) (Ni := some 61) (Nj := some 63) (bs_ 14 15) (bs_ 14 27) rfl rfl rfl rfl (two_of HT_.out (by kernel_rfl)) (by decide) (by decide) (fun K hK => ?_) (fun K hK => ?_)
    rotate_left
    · skip
      refine Kd.R_lit_step Kd.string _ 9 ?hg (N := 63) ?hd (xs := ([rdOf ByteArray.empty t866 x51_1] : List ByteArray)) (inner := [.string (rdOf ByteArray.empty t866 x51_1)]) (ok := fun _ => True) (okp := fun _ => True) ?hr ?hp (fun _ hk => hk) trivial (Below.refl _ _) (Nat.le_refl _) (by simp) ?_; (case hd => rfl); (case hg => rfl); (case hr => first | (go_simp; done) | (go_simp; rfl)); (case hp => exact (Reps.one (show Kd.M Kd.string _ _ _ (rdOf ByteArray.empty t866 x51_1) [.string (rdOf ByteArray.empty t866 x51_1)] from rfl) (Reps.none _ _)))
      intro v876 w45 ho46 hb hg_ hnew_
      clear hg_ hnew_
      (first | rw [← Ny875.out] at ho46 | (simp only [Int.reduceToNat] at ho46; rw [← Ny875.out] at ho46))
      have n0_ := Aside0.mk (Kd.R_elder' (by (with_reducible repeat (first | apply r_a | apply r_d | apply r_e)); exact HO_8.out) (Kd.R_base ho46) hb)
      have n1_ := Aside0.mk (Kd.R_elder' (by (with_reducible repeat (first | apply r_a | apply r_d | apply r_e)); exact HO_49.out) (Kd.R_base ho46) hb)
      have n2_ := Aside0.mk (Kd.R_lower (Kd.R_new' (Kd.R_new' ho46 (Kd.R_lt (by (with_reducible repeat (first | apply r_a | apply r_d | apply r_e)); exact HO_8.out))) (Kd.R_lt (by (with_reducible repeat (first | apply r_a | apply r_d | apply r_e)); exact HO_49.out))) (below_size (bB HB)))
      have n3_ := bbx hb BK854
      have n4_ := bsx hb HB
      clear HO_8
      clear HO_49
      clear BK854
      clear HB
      have HO_8 := n0_
      have HO_49 := n1_
      have HO877 := n2_
      have BK854 := n3_
      have HB := n4_
      clear n0_ n1_ n2_ n3_ n4_
      clear hb ho46
      refine hK.out _ _ ⟨(blk_cell BK854.out 0).trans rfl, (blk_cell BK854.out 1).trans rfl⟩ (fun hHeld => ?_)
      clear hK K
      refine norm_ (a' := ?_) ?_ ?_
      rotate_left
      · show Act.put _ (some 63) _ = _
        simp only [Act.put, s_1, s_2, s_3, i64_w, i32_w]
        rfl
      refine one_ (i := 2) (N := some 61) (bs_ 14 31) rfl rfl (one_of HT_.out (by kernel_rfl)) (by decide) (fun K hK => ?_)
      refine goes_ Try.func131 (by kernel_rfl) rfl #[.slice (some ad865) l1.length c1] (by rfl) rfl rfl (by (try simp only [m_1, m_2, m_3]); first | done | rfl | (simp only [m_4, m_5]; rfl)) ?_
      with_reducible refine (spec_l1OwnS.calls _ _ l1 t872 _ ?side1 ?side2 A40.out).mono ?_
      (case side1 => repeat (first | exact (Kd.C_below HR1.out HB.out) | (with_reducible refine Kd.C_alloc ?_ _) | (with_reducible refine Kd.C_drewN ?_ _) | (with_reducible refine Kd.C_drew ?_)))
      (case side2 => exact HC1.out)
      rintro e w47 ⟨v873, rfl, ho0, hb⟩
      refine ⟨_, rfl, ?_⟩
      have n0_ := Aside0.mk (Kd.R_elder' (by (with_reducible repeat (first | apply r_a | apply r_d | apply r_e)); exact HO_8.out) (Kd.R_base ho0) hb)
      have n1_ := Aside0.mk (Kd.R_elder' (by (with_reducible repeat (first | apply r_a | apply r_d | apply r_e)); exact HO_49.out) (Kd.R_base ho0) hb)
      have n2_ := Aside0.mk (Kd.R_elder' (by (with_reducible repeat (first | apply r_a | apply r_d | apply r_e)); exact HO877.out) (Kd.R_base ho0) hb)
      have n3_ := Aside0.mk (Kd.R_lower (Kd.R_new' (Kd.R_new' (Kd.R_new' ho0 (Kd.R_lt (by (with_reducible repeat (first | apply r_a | apply r_d | apply r_e)); exact HO_8.out))) (Kd.R_lt (by (with_reducible repeat (first | apply r_a | apply r_d | apply r_e)); exact HO_49.out))) (Kd.R_lt (by (with_reducible repeat (first | apply r_a | apply r_d | apply r_e)); exact HO877.out))) (below_size (bB HB)))
      have n4_ := bbx hb BK854
      have n5_ := bsx hb HB
      clear HO_8
      clear HO_49
      clear HO877
      clear BK854
      clear HB
      have HO_8 := n0_
      have HO_49 := n1_
      have HO877 := n2_
      have HO874 := n3_
      have BK854 := n4_
      have HB := n5_
      clear n0_ n1_ n2_ n3_ n4_ n5_
      (try clear hb)
      (try clear hb2)
      (try clear hk)
      (try clear hi)
      (try clear ho0)
      refine hK.out _ _ ⟨(blk_cell BK854.out 0).trans rfl, (blk_cell BK854.out 1).trans rfl⟩ (fun hHeld => ?_)
      clear hK K
      refine norm_ (a' := ?_) ?_ ?_
      rotate_left
      · show Act.put _ (some 61) _ = _
        simp only [Act.put, s_1, s_2, s_3, i64_w, i32_w]
        rfl
      exact norm_ (by simp only [putAll, Act.put, s_1, s_2, s_3]) (hCont (v873, v876) _ ⟨hHeld, (by (with_reducible repeat (first | apply r_a | apply r_d | apply r_e)); exact Kd.R_mono HO874.out (fun _ hk => ⟨hk.2, ⟨hk.1.2, hk.1.1.2⟩⟩)), (by (with_reducible repeat (first | apply r_a | apply r_d | apply r_e)); exact Kd.R_mono HO877.out (fun _ hk => ⟨hk.2, ⟨hk.1.2, hk.1.1.2⟩⟩)), (by (with_reducible repeat (first | apply r_a | apply r_d | apply r_e)); exact Kd.R_mono HO_49.out (fun _ hk => ⟨hk.2, ⟨hk.1.2, hk.1.1⟩⟩)), (by (with_reducible repeat (first | apply r_a | apply r_d | apply r_e)); exact Kd.R_mono HO_8.out (fun _ hk => ⟨hk.2, ⟨hk.1.2, hk.1.1⟩⟩)), (bK BK854), (bB HB)⟩)
    skip
    refine goes_ Try.func131 (by kernel_rfl) rfl #[.slice (some ad865) l1.length c1] (by rfl) rfl rfl (by (try simp only [m_1, m_2, m_3]); first | done | rfl | (simp only [m_4, m_5]; rfl)) ?_
    with_reducible refine (spec_l1OwnS.calls _ _ l1 t872 _ ?side1 ?side2 A40.out).mono ?_
    (case side1 => repeat (first | exact (Kd.C_below HR1.out HB.out) | (with_reducible refine Kd.C_alloc ?_ _) | (with_reducible refine Kd.C_drewN ?_ _) | (with_reducible refine Kd.C_drew ?_)))
    (case side2 => exact HC1.out)
    rintro e w45 ⟨v873, rfl, ho0, hb⟩
    refine ⟨_, rfl, ?_⟩
    have n0_ := Aside0.mk (Kd.R_elder' (by (with_reducible repeat (first | apply r_a | apply r_d | apply r_e)); exact HO_8.out) (Kd.R_base ho0) hb)
    have n1_ := Aside0.mk (Kd.R_elder' (by (with_reducible repeat (first | apply r_a | apply r_d | apply r_e)); exact HO_49.out) (Kd.R_base ho0) hb)
    have n2_ := Aside0.mk (Kd.R_lower (Kd.R_new' (Kd.R_new' ho0 (Kd.R_lt (by (with_reducible repeat (first | apply r_a | apply r_d | apply r_e)); exact HO_8.out))) (Kd.R_lt (by (with_reducible repeat (first | apply r_a | apply r_d | apply r_e)); exact HO_49.out))) (below_size (bB HB)))
    have n3_ := bbx hb BK854
    have n4_ := bsx hb HB
    clear HO_8
    clear HO_49
    clear BK854
    clear HB
    have HO_8 := n0_
    have HO_49 := n1_
    have HO874 := n2_
    have BK854 := n3_
    have HB := n4_
    clear n0_ n1_ n2_ n3_ n4_
    (try clear hb)
    (try clear hb2)
    (try clear hk)
    (try clear hi)
    (try clear ho0)
    refine hK.out _ _ ⟨(blk_cell BK854.out 0).trans rfl, (blk_cell BK854.out 1).trans rfl⟩ (fun hHeld => ?_)
    clear hK K
    refine norm_ (a' := ?_) ?_ ?_
    rotate_left
    · show Act.put _ (some 61) _ = _
      simp only [Act.put, s_1, s_2, s_3, i64_w, i32_w]
      rfl
    refine one_ (i := 4) (N := some 63) (bs_ 14 31) rfl rfl (one_of HT_.out (by kernel_rfl)) (by decide) (fun K hK => ?_)
    refine Kd.R_lit_step Kd.string _ 9 ?hg (N := 63) ?hd (xs := ([rdOf ByteArray.empty t866 x51_1] : List ByteArray)) (inner := [.string (rdOf ByteArray.empty t866 x51_1)]) (ok := fun _ => True) (okp := fun _ => True) ?hr ?hp (fun _ hk => hk) trivial (Below.refl _ _) (Nat.le_refl _) (by simp) ?_; (case hd => rfl); (case hg => rfl); (case hr => first | (go_simp; done) | (go_simp; rfl)); (case hp => exact (Reps.one (show Kd.M Kd.string _ _ _ (rdOf ByteArray.empty t866 x51_1) [.string (rdOf ByteArray.empty t866 x51_1)] from rfl) (Reps.none _ _)))
    intro v876 w46 ho47 hb hg_ hnew_
    clear hg_ hnew_
    (first | rw [← Ny875.out] at ho47 | (simp only [Int.reduceToNat] at ho47; rw [← Ny875.out] at ho47))
    have n0_ := Aside0.mk (Kd.R_elder' (by (with_reducible repeat (first | apply r_a | apply r_d | apply r_e)); exact HO_8.out) (Kd.R_base ho47) hb)
    have n1_ := Aside0.mk (Kd.R_elder' (by (with_reducible repeat (first | apply r_a | apply r_d | apply r_e)); exact HO_49.out) (Kd.R_base ho47) hb)
    have n2_ := Aside0.mk (Kd.R_elder' (by (with_reducible repeat (first | apply r_a | apply r_d | apply r_e)); exact HO874.out) (Kd.R_base ho47) hb)
    have n3_ := Aside0.mk (Kd.R_lower (Kd.R_new' (Kd.R_new' (Kd.R_new' ho47 (Kd.R_lt (by (with_reducible repeat (first | apply r_a | apply r_d | apply r_e)); exact HO_8.out))) (Kd.R_lt (by (with_reducible repeat (first | apply r_a | apply r_d | apply r_e)); exact HO_49.out))) (Kd.R_lt (by (with_reducible repeat (first | apply r_a | apply r_d | apply r_e)); exact HO874.out))) (below_size (bB HB)))
    have n4_ := bbx hb BK854
    have n5_ := bsx hb HB
    clear HO_8
    clear HO_49
    clear HO874
    clear BK854
    clear HB
    have HO_8 := n0_
    have HO_49 := n1_
    have HO874 := n2_
    have HO877 := n3_
    have BK854 := n4_
    have HB := n5_
    clear n0_ n1_ n2_ n3_ n4_ n5_
    clear hb ho47
    refine hK.out _ _ ⟨(blk_cell BK854.out 0).trans rfl, (blk_cell BK854.out 1).trans rfl⟩ (fun hHeld => ?_)
    clear hK K
    refine norm_ (a' := ?_) ?_ ?_
    rotate_left
    · show Act.put _ (some 63) _ = _
      simp only [Act.put, s_1, s_2, s_3, i64_w, i32_w]
      rfl
    exact norm_ (by simp only [putAll, Act.put, s_1, s_2, s_3]) (hCont (v873, v876) _ ⟨hHeld, (by (with_reducible repeat (first | apply r_a | apply r_d | apply r_e)); exact Kd.R_mono HO874.out (fun _ hk => ⟨hk.2, ⟨hk.1.2, hk.1.1.2⟩⟩)), (by (with_reducible repeat (first | apply r_a | apply r_d | apply r_e)); exact Kd.R_mono HO877.out (fun _ hk => ⟨hk.2, ⟨hk.1.2, hk.1.1.2⟩⟩)), (by (with_reducible repeat (first | apply r_a | apply r_d | apply r_e)); exact Kd.R_mono HO_49.out (fun _ hk => ⟨hk.1.2, ⟨hk.2, hk.1.1⟩⟩)), (by (with_reducible repeat (first | apply r_a | apply r_d | apply r_e)); exact Kd.R_mono HO_8.out (fun _ hk => ⟨hk.1.2, ⟨hk.2, hk.1.1⟩⟩)), (bK BK854), (bB HB)⟩)
  rintro ⟨v873, v876⟩ w48 ⟨hS_, h0_, h1_, h2_, h3_, h4_, h5_⟩
  have n0_ : Aside0 (Kd.R Kd.string 9 w48 w.heap.size (fun k_ => some k_ ≠ (v876 : Value).ownBlock ∧ some k_ ≠ (.slice (some ad870) t866.length co34 : Value).ownBlock ∧ some k_ ≠ (u8 : Value).ownBlock) v873 t872) := ⟨h0_⟩
  have n1_ : Aside0 (Kd.R Kd.string 9 w48 w.heap.size (fun k_ => some k_ ≠ (v873 : Value).ownBlock ∧ some k_ ≠ (.slice (some ad870) t866.length co34 : Value).ownBlock ∧ some k_ ≠ (u8 : Value).ownBlock) v876 y875) := ⟨h1_⟩
  have n2_ : Aside0 (Kd.R Kd.string 9 w48 w.heap.size (fun k_ => some k_ ≠ (v873 : Value).ownBlock ∧ some k_ ≠ (v876 : Value).ownBlock ∧ some k_ ≠ (u8 : Value).ownBlock) (.slice (some ad870) t866.length co34) t866) := ⟨h2_⟩
  have n3_ : Aside0 (Kd.R Kd.string 9 w48 w.heap.size (fun k_ => some k_ ≠ (v873 : Value).ownBlock ∧ some k_ ≠ (v876 : Value).ownBlock ∧ some k_ ≠ (.slice (some ad870) t866.length co34 : Value).ownBlock) u8 x8_1) := ⟨h3_⟩
  have n4_ : Aside0 (w48.heap[gb854]? = some (.cells #[.int .i64 a0_0, .int .i64 a0_1] 28 (0, 0))) := ⟨h4_⟩
  have n5_ : Aside0 (Below w.heap.size w w48) := ⟨h5_⟩
  clear HO_8
  clear HO_49
  clear BK854
  clear HB
  clear h0_ h1_ h2_ h3_ h4_ h5_
  have HO874 := n0_
  have HO877 := n1_
  have HO_49 := n2_
  have HO_8 := n3_
  have BK854 := n4_
  have HB := n5_
  clear n0_ n1_ n2_ n3_ n4_ n5_
  have hHeld : w48.cell? ⟨gb854, 0, none⟩ = some (.int .i64 a0_0) ∧ w48.cell? ⟨gb854, 1, none⟩ = some (.int .i64 a0_1) := hS_
  obtain ⟨Ao50, co50, eo50⟩ := Kd.R_slice HO877.out
  (first | subst eo50 | (injection eo50 with f1_ f2_ f3_; have f4_ := f1_.symm; have f5_ := f3_.symm; clear f1_ f2_ f3_; subst f4_; subst f5_))
  refine norm_ (a' := ?_) ?_ ?_
  rotate_left
  · simp only [putAll, Act.put, s_1, s_2, s_3]
    rfl
  refine one_ (i := 5) (N := some 64) (bs_ 14 63) rfl rfl (one_of HT_.out (by kernel_rfl)) (by decide) (fun K hK => ?_)
  refine Kd.R_append_rows_step Kd.string (w0 := w) w.heap.size (by rfl) (.tmp 61) (.tmp 63) 24 9 (.string ⟨#[]⟩) 16 rfl Try.underlying24 info9 rfl (by decide) (by omega) v873 t872 y875 _ _ _ (fun k_ => some k_ ≠ (u8 : Value).ownBlock ∧ some k_ ≠ (.slice (some ad870) t866.length co34 : Value).ownBlock ∧ some k_ ≠ (.slice Ao50 y875.length co50 : Value).ownBlock) (fun _ => False) rfl rfl ?aO ?aR (fun _ _ h => h) (fun _ h => h.elim) ?aF ?aB ?aS ?aL ?_
  (case aR => repeat (first | exact (Kd.R_reads' HO877.out).2.2 | (with_reducible refine Kd.C_alloc ?_ _) | (with_reducible refine Kd.C_drewN ?_ _) | (with_reducible refine Kd.C_drew ?_)))
  (case aB => exact (bB HB))
  (case aF => exact (fun k_ hk => ⟨Kd.fresh' (Kd.R_lt (by (with_reducible repeat (first | apply r_a | apply r_d | apply r_e)); exact HO_8.out)) k_ hk, Kd.fresh' (Kd.R_lt (by (with_reducible repeat (first | apply r_a | apply r_d | apply r_e)); exact HO_49.out)) k_ hk, Kd.fresh' (Kd.R_lt (by (with_reducible repeat (first | apply r_a | apply r_d | apply r_e)); exact HO877.out)) k_ hk⟩))
  (case aO => exact (by (with_reducible repeat (first | apply r_a | apply r_d | apply r_e)); exact Kd.R_mono HO874.out (fun _ hk => ⟨hk.2.2, ⟨hk.2.1, hk.1⟩⟩)))
  (case aS => exact (below_size (bB HB)))
  (case aL => have := LMc41.out; omega)
  intro v879 w49 ho hb hg hat
  rw [← Ny878.out] at ho
  have n0_ := Aside0.mk (Kd.R_after (ok := (fun k_ => some k_ ≠ (.slice (some ad870) t866.length co34 : Value).ownBlock ∧ some k_ ≠ (.slice Ao50 y875.length co50 : Value).ownBlock)) (by (with_reducible repeat (first | apply r_a | apply r_d | apply r_e)); exact Kd.R_mono HO_8.out (fun _ hk => ⟨⟨hk.2.2, hk.2.1⟩, hk.1⟩)) hg hat)
  have n1_ := Aside0.mk (Kd.R_after (ok := (fun k_ => some k_ ≠ (u8 : Value).ownBlock ∧ some k_ ≠ (.slice Ao50 y875.length co50 : Value).ownBlock)) (by (with_reducible repeat (first | apply r_a | apply r_d | apply r_e)); exact Kd.R_mono HO_49.out (fun _ hk => ⟨⟨hk.2.2, hk.2.1⟩, hk.1⟩)) hg hat)
  have n2_ := Aside0.mk (blk_grown (g := gb854) (o := .cells #[.int .i64 a0_0, .int .i64 a0_1] 28 (0, 0)) (bK BK854) hg (Kd.R_ne HO874.out BK854.out (by decide)))
  have n3_ := Aside0.mk (Kd.R_after (ok := (fun k_ => some k_ ≠ (u8 : Value).ownBlock ∧ some k_ ≠ (.slice (some ad870) t866.length co34 : Value).ownBlock)) (by (with_reducible repeat (first | apply r_a | apply r_d | apply r_e)); exact Kd.R_mono HO877.out (fun _ hk => ⟨⟨hk.2.2, hk.2.1⟩, hk.1⟩)) hg hat)
  have n4_ := Aside0.mk (hb)
  have n5_ := Aside0.mk (ho)
  clear HO_8
  clear HO_49
  clear BK854
  clear HO877
  clear HB
  clear HO874
  have HO_8 := n0_
  have HO_49 := n1_
  have BK854 := n2_
  have HO877 := n3_
  have HB := n4_
  have HO880 := n5_
  clear n0_ n1_ n2_ n3_ n4_ n5_
  clear ho hb hg hat
  obtain ⟨Ao51, co51, eo51⟩ := Kd.R_slice HO880.out
  (first | subst eo51 | (injection eo51 with f1_ f2_ f3_; have f4_ := f1_.symm; have f5_ := f3_.symm; clear f1_ f2_ f3_; subst f4_; subst f5_))
  refine hK.out _ _ ⟨(blk_cell BK854.out 0).trans rfl, (blk_cell BK854.out 1).trans rfl⟩ (fun hHeld => ?_)
  clear hK K
  refine norm_ (a' := ?_) ?_ ?_
  rotate_left
  · show Act.put _ (some 64) _ = _
    simp only [Act.put, s_1, s_2, s_3, i64_w, i32_w]
    rfl
  refine one_ (i := 6) (N := some 65) (bs_ 14 127) rfl rfl (one_of HT_.out (by kernel_rfl)) (by decide) (fun K hK => ?_)
  refine goes_ Try.func80 (by kernel_rfl) rfl #[.agg #[.int .i64 a0_0, .int .i64 a0_1], .slice Ao51 y878.length co51] (by rfl) rfl rfl (by (try simp only [m_1, m_2, m_3]); first | done | rfl | (simp only [m_4, m_5]; rfl)) ?_
  with_reducible refine (ih k1 (by have := HK1.out; omega) a0_0 a0_1 _ _ y878 t881 t884 t885 _ ?side1 ?side2 A42.out).mono ?_
  (case side1 => repeat (first | exact (Kd.R_reads' HO880.out).2.2 | (with_reducible refine Kd.C_alloc ?_ _) | (with_reducible refine Kd.C_drewN ?_ _) | (with_reducible refine Kd.C_drew ?_)))
  (case side2 => exact (Kd.R_reads' HO880.out).2.1)
  rintro e w52 ⟨v882, rfl, ho0, hb⟩
  refine ⟨_, rfl, ?_⟩
  have n0_ := Aside0.mk (Kd.R_elder' (by (with_reducible repeat (first | apply r_a | apply r_d | apply r_e)); exact HO_8.out) (Kd.R_base ho0) hb)
  have n1_ := Aside0.mk (Kd.R_elder' (by (with_reducible repeat (first | apply r_a | apply r_d | apply r_e)); exact HO_49.out) (Kd.R_base ho0) hb)
  have n2_ := Aside0.mk (Kd.R_elder' (by (with_reducible repeat (first | apply r_a | apply r_d | apply r_e)); exact HO877.out) (Kd.R_base ho0) hb)
  have n3_ := Aside0.mk (Kd.R_elder' (by (with_reducible repeat (first | apply r_a | apply r_d | apply r_e)); exact HO880.out) (Kd.R_base ho0) hb)
  have n4_ := Aside0.mk (Kd.R_lower (Kd.R_new' (Kd.R_new' (Kd.R_new' (Kd.R_new' ho0 (Kd.R_lt (by (with_reducible repeat (first | apply r_a | apply r_d | apply r_e)); exact HO_8.out))) (Kd.R_lt (by (with_reducible repeat (first | apply r_a | apply r_d | apply r_e)); exact HO_49.out))) (Kd.R_lt (by (with_reducible repeat (first | apply r_a | apply r_d | apply r_e)); exact HO877.out))) (Kd.R_lt (by (with_reducible repeat (first | apply r_a | apply r_d | apply r_e)); exact HO880.out))) (below_size (bB HB)))
  have n5_ := bbx hb BK854
  have n6_ := bsx hb HB
  clear HO_8
  clear HO_49
  clear HO877
  clear HO880
  clear BK854
  clear HB
  have HO_8 := n0_
  have HO_49 := n1_
  have HO877 := n2_
  have HO880 := n3_
  have HO883 := n4_
  have BK854 := n5_
  have HB := n6_
  clear n0_ n1_ n2_ n3_ n4_ n5_ n6_
  (try clear hb)
  (try clear hb2)
  (try clear hk)
  (try clear hi)
  (try clear ho0)
  refine hK.out _ _ ⟨(blk_cell BK854.out 0).trans rfl, (blk_cell BK854.out 1).trans rfl⟩ (fun hHeld => ?_)
  clear hK K
  refine norm_ (a' := ?_) ?_ ?_
  rotate_left
  · show Act.put _ (some 65) _ = _
    simp only [Act.put, s_1, s_2, s_3, i64_w, i32_w]
    rfl
  refine pua 7 58 (bs_ 14 255) HT_ ?_
  refine pua 8 66 (bs_ 14 511) HT_ ?_
  refine pua 9 67 (bs_ 14 1023) HT_ ?_
  refine pua 10 68 (bs_ 14 2047) HT_ ?_
  refine pua 11 15 (bs_ 14 4095) HT_ ?_
  refine pua 12 16 (bs_ 14 8191) HT_ ?_
  refine pua 13 17 (bs_ 14 16383) HT_ ?_
  refine done_ (done_of HT_.out (by kernel_rfl)) ?_
  try go_wp2
  go_roundg k1
  case measure => have := HK1.out; omega
  case rel => exact ⟨(t881), (wrap64 (x9_1 + t884)), (wrap64 (x10_1 + t885)), (wrap64 (x51_1 + 1)), (by first | rfl | (simp; done) | (simp [*]; done)), (by first | rfl | (simp; done) | (simp [*]; done)), (by first | rfl | (simp; done) | (simp [*]; done)), H', ⟨by have := HK1.out; omega⟩, ⟨by (with_reducible repeat (first | apply r_a | apply r_d | apply r_e)); exact Kd.R_mono HO883.out (fun _ hk => hk.1.1.2)⟩, ⟨by (with_reducible repeat (first | apply r_a | apply r_d | apply r_e)); exact Kd.R_mono HO_49.out (fun _ hk => hk.2)⟩, ⟨bK BK854⟩, ⟨bB HB⟩⟩
/-! ### spec_whOf: function 95 -/
def spec_whOf.l0 : Nat → Int → List Int → Int → Int → Int → Option (ByteArray)
  | 0, _, _, _, _, _ => none
  | k + 1, x1, x5, x6, x887000, x887001 => if x6 ≥ 0 then (if x887001 = 0 then (none) else (if 0 ≤ x6 then (if x6 < (x5.length : Int) then (spec_whOf.l0 k (wrap64 (Int.tdiv x1 x887001)) (x5.set (x6 : Int).toNat (Int.tmod x1 x887001)) (wrap64 (x6 - 1)) x887000 x887001) else (none)) else (none))) else ((spec_whText.f k x5).bind fun t891 => (some t891))
def spec_whOf.f (k : Nat) (a0_0 : Int) (a0_1 : Int) (a1 : Int) : Option (ByteArray) := if 0 ≤ a0_0 then (if (a0_0 : Int).toNat ≤ 35184372088832 then (spec_whOf.l0 k a1 (List.replicate (a0_0 : Int).toNat 0) (wrap64 (a0_0 - 1)) a0_0 a0_1) else (none)) else (none)
theorem spec_whOf.mono_l : ∀ k, (∀ y0 y1 y2 y3 y4, LeO (spec_whOf.l0 k y0 y1 y2 y3 y4) (spec_whOf.l0 (k + 1) y0 y1 y2 y3 y4))
  | 0 => fun _ _ _ _ _ r h => by simp [spec_whOf.l0] at h
  | k + 1 => by
    have ih0 := spec_whOf.mono_l k
    · intro y0 y1 y2 y3 y4
      unfold spec_whOf.l0
      repeat' first
      | (with_reducible exact ih0 _ _ _ _ _)
      | (with_reducible exact spec_whText.mono _ _)
      | (with_reducible exact LeO.refl _)
      | (with_reducible exact LeO.none _)
      | (with_reducible refine LeO.ite ?_ ?_)
      | (with_reducible refine LeO.bind ?_ (fun _ => ?_))
      | exact ih0 _ _ _ _ _
      | exact spec_whText.mono _ _
      | exact LeO.none _
      | refine LeO.ite ?_ ?_
      | refine LeO.bind ?_ (fun _ => ?_)
theorem spec_whOf.mono : ∀ a0 a1 a2 k, LeO (spec_whOf.f k a0 a1 a2) (spec_whOf.f (k + 1) a0 a1 a2) := by
  intro a0 a1 a2 k
  have ih0 := spec_whOf.mono_l k
  unfold spec_whOf.f
  repeat' first
      | (with_reducible exact ih0 _ _ _ _ _)
      | (with_reducible exact spec_whText.mono _ _)
      | (with_reducible exact LeO.refl _)
      | (with_reducible exact LeO.none _)
      | (with_reducible refine LeO.ite ?_ ?_)
      | (with_reducible refine LeO.bind ?_ (fun _ => ?_))
      | exact ih0 _ _ _ _ _
      | exact spec_whText.mono _ _
      | exact LeO.none _
      | refine LeO.ite ?_ ?_
      | refine LeO.bind ?_ (fun _ => ?_)
set_option maxHeartbeats 8000000 in
set_option maxRecDepth 100000 in
theorem spec_whOf.calls (k : Nat) (a0_0 : Int) (a0_1 : Int) (a1 : Int) (r : ByteArray) (w : World) (h : spec_whOf.f k a0_0 a0_1 a1 = some r) :
    Calls Try.prog 95 #[.agg #[.int .i64 a0_0, .int .i64 a0_1], .int .i64 a1] w fun e w' => e = .returned (.string r) ∧ Below w.heap.size w w' := by
  have hu28 := Try.underlying28
  have HB := Aside0.mk (Below.refl w.heap.size w)
  have H : (if 0 ≤ a0_0 then (if (a0_0 : Int).toNat ≤ 35184372088832 then (spec_whOf.l0 k a1 (List.replicate (a0_0 : Int).toNat 0) (wrap64 (a0_0 - 1)) a0_0 a0_1) else (none)) else (none)) = some r := h
  clear h
  by_cases c3 : 0 ≤ a0_0
  rotate_left
  · rw [if_neg c3] at H
    exact absurd H (by simp)

  rw [if_pos c3] at H
  have c3b0 := eq_true c3
  have c3b1 : decide (0 ≤ a0_0) = true := decide_eq_true c3
  clear c3
  by_cases c4 : (a0_0 : Int).toNat ≤ 35184372088832
  rotate_left
  · rw [if_neg c4] at H
    exact absurd H (by simp)
  rw [if_pos c4] at H
  have c4b0 := eq_true c4
  have c4b1 : decide ((a0_0 : Int).toNat ≤ 35184372088832) = true := decide_eq_true c4
  clear c4
  obtain ⟨y887, hy887⟩ : ∃ y_ : List Int, y_ = (List.replicate (a0_0 : Int).toNat 0) := ⟨_, rfl⟩
  replace H : (spec_whOf.l0 k a1 y887 (wrap64 (a0_0 - 1)) a0_0 a0_1) = some r := by first | (rw [hy887]; with_reducible exact H) | (have H2_ := (Option.bind_some _ _).symm.trans H; rw [hy887]; with_reducible exact H2_) | (have H2_ := (Option.bind_some _ _).symm.trans H; with_reducible exact H2_) | with_reducible exact H | (rw [hy887]; exact H) | exact H
  have Ny887 := Aside0.mk hy887
  clear hy887
  have H' := Aside0.mk H
  clear H
  go_enter Try.func95, Try.ntmps95
  go_wp2_with (first | ((with_reducible refine gate_dst (N := 2) rfl ?_); refine box_event ?hg (N := 2) ?hd (cs := #[.int .i64 a0_0, .int .i64 a0_1]) (t := 28) ?hr ?_; (case hd => rfl); (case hg => rfl); (case hr => first | (go_simp; done) | (go_simp; rfl)); intro gb886 hg w5 hbox hb; have n0_ := bsx hb HB; have n1_ := Aside0.mk (hbox); have n2_ := gwx hg HB; have n3_ := n2_; clear HB; have HB := n0_; have BK886 := n1_; have GW886 := n2_; have GE886 := n3_; clear n0_ n1_ n2_ n3_; clear hb hbox hg; have hcz6_0 := cz0 BK886; have hcz6_1 := cz1 BK886; have hfz6_0 := blk_frozen BK886.out 0; have hfz6_1 := blk_frozen BK886.out 1) | ((with_reducible refine gate_dst (N := 9) rfl ?_); refine Kd.R_make (Kd.int .i64) _ 3 rfl (N := 9) rfl 72 _ _ rfl a0_0 rfl rfl Try.underlying72 (.int .i64 0) 8 info3 rfl (by decide) (by omega) 0 (ok := fun _ => True) (okp := fun _ => True) rfl (fun _ hk => hk) trivial (of_decide_eq_true (by first | (with_reducible assumption) | assumption)) (Nat.le_trans (Nat.mul_le_mul_right _ (of_decide_eq_true (by first | (with_reducible assumption) | assumption) : a0_0.toNat ≤ 35184372088832)) (by omega)) (Below.refl _ _) (Nat.le_refl _) ?_; intro v888 w7 ho8 hb hg_ hnew_; clear hg_ hnew_; (first | rw [← Ny887.out] at ho8 | (simp only [Int.reduceToNat] at ho8; rw [← Ny887.out] at ho8)); have n0_ := Aside0.mk (Kd.R_lower ho8 (below_size (bB HB))); replace BK886 := bbx hb BK886; have n2_ := bsx hb HB; clear HB; have HO889 := n0_; have HB := n2_; clear n0_ n2_; clear hb ho8; have hcz9_0 := cz0 BK886; have hcz9_1 := cz1 BK886; have hfz9_0 := blk_frozen BK886.out 0; have hfz9_1 := blk_frozen BK886.out 1))
  go_loopg [1, 6] k (fun kq v1 v6 w' => ∃ (x1_1 : Int) (x5_1 : List Int) (x6_1 : Int), v1 = .int .i64 x1_1 ∧ v6 = .int .i64 x6_1 ∧ Aside0 (spec_whOf.l0 kq x1_1 x5_1 x6_1 a0_0 a0_1 = some r) ∧ Aside0 (kq ≤ k) ∧ Aside0 (Kd.R (Kd.int .i64) 3 w' w.heap.size (fun _ => True) v888 x5_1) ∧ Aside0 (w'.heap[gb886]? = some (.cells #[.int .i64 a0_0, .int .i64 a0_1] 28 (0, 0))) ∧ Aside0 (Below w.heap.size w w'))
  case atStart => refine ⟨(a1), (y887), (wrap64 (a0_0 - 1)), (by first | rfl | (simp; done) | (simp [*]; done)), (by first | rfl | (simp; done) | (simp [*]; done)), H', ⟨Nat.le_refl _⟩, ⟨?_⟩, ⟨?_⟩, ⟨bB HB⟩⟩ <;> (with_reducible repeat (first | refine g_d ?_ _ | refine g_e ?_ | refine g_a ?_ _ | apply r_a | apply r_d | apply r_e)) <;> first | exact BK886.out | exact HO889.out
  clear H'
  try clear c3
  try clear c3b0
  try clear c3b1
  try clear c4
  try clear c4b0
  try clear c4b1
  try clear hcz6_0
  try clear hcz6_1
  try clear hcz9_0
  try clear hcz9_1
  try clear hfz6_0
  try clear hfz6_1
  try clear hfz9_0
  try clear hfz9_1
  obtain ⟨x1_1, x5_1, x6_1, rfl, rfl, HA, HK1, HO_5, BK886, HB⟩ := hrel
  rcases gk with _ | k1
  · exact absurd HA.out (by simp [spec_whOf.l0])
  have H := HA.out
  clear HA
  simp only [spec_whOf.l0] at H
  by_cases c10 : x6_1 ≥ 0
  rotate_left
  · rw [if_neg c10] at H
    have c10b0 : decide (0 ≤ x6_1) = false := decide_eq_false c10
    clear c10
    replace H := Option.bind_eq_some_iff.mp H
    obtain ⟨t891, A190, H⟩ := H
    try dsimp only at H
    have A19 := Aside0.mk A190
    clear A190
    obtain rfl := Option.some.inj H
    obtain ⟨Ao20, co20, eo20⟩ := Kd.R_slice HO_5.out
    subst eo20
    go_wp2_with (first | ((with_reducible refine gate_callee (f := 116) rfl ?_); refine goesL_ (some 29) rfl rfl Try.func116 (by kernel_rfl) rfl #[.slice Ao20 x5_1.length co20] rfl (by (try simp only [m_1, m_2, m_3]); first | done | rfl | (simp only [m_4, m_5]; rfl)) ?_; (with_reducible refine (spec_whText.calls k1 _ _ x5_1 t891 _ ?side1 ?side2 A19.out).mono ?_); (case side1 => repeat (first | exact (Kd.R_reads' HO_5.out).2.2 | (with_reducible refine Kd.C_alloc ?_ _) | (with_reducible refine Kd.C_drewN ?_ _) | (with_reducible refine Kd.C_drew ?_))); (case side2 => exact (Kd.R_reads' HO_5.out).2.1); rintro e w21 ⟨rfl, hb⟩; refine ⟨_, rfl, ?_⟩; have n0_ := Aside0.mk (Kd.R_below (by (with_reducible repeat (first | apply r_a | apply r_d | apply r_e)); exact HO_5.out) hb); replace BK886 := bbx hb BK886; replace HB := bsx hb HB; clear HO_5; have HO_5 := n0_; clear n0_; (try clear hb); (try clear hb2); (try clear hk); (try clear hi)))
    go_ret
    exact ⟨by first | rfl | (simp [errW_none, errW_some] <;> rfl) | (simp [*, errW_none, errW_some] <;> rfl), bB HB⟩
  rw [if_pos c10] at H
  have c10b0 : decide (0 ≤ x6_1) = true := decide_eq_true c10
  clear c10
  by_cases c11 : a0_1 = 0
  · rw [if_pos c11] at H
    exact absurd H (by simp)
  rw [if_neg c11] at H
  have c11b0 : (a0_1 == 0) = false := beq_eq_false_iff_ne.mpr c11
  have c11b1 : (a0_1 != 0) = true := bne_iff_ne.mpr c11
  by_cases c12 : 0 ≤ x6_1
  rotate_left
  · rw [if_neg c12] at H
    exact absurd H (by simp)
  rw [if_pos c12] at H
  have c12b0 : decide (0 ≤ x6_1) = true := decide_eq_true c12
  clear c12
  by_cases c13 : x6_1 < (x5_1.length : Int)
  rotate_left
  · rw [if_neg c13] at H
    exact absurd H (by simp)
  rw [if_pos c13] at H
  have c13b0 : decide (x6_1 < (x5_1.length : Int)) = true := decide_eq_true c13
  clear c13
  obtain ⟨y890, hy890⟩ : ∃ y_ : List Int, y_ = (x5_1.set (x6_1 : Int).toNat (Int.tmod x1_1 a0_1)) := ⟨_, rfl⟩
  replace H : (spec_whOf.l0 k1 (wrap64 (Int.tdiv x1_1 a0_1)) y890 (wrap64 (x6_1 - 1)) a0_0 a0_1) = some r := by first | (rw [hy890]; with_reducible exact H) | (have H2_ := (Option.bind_some _ _).symm.trans H; rw [hy890]; with_reducible exact H2_) | (have H2_ := (Option.bind_some _ _).symm.trans H; with_reducible exact H2_) | with_reducible exact H | (rw [hy890]; exact H) | exact H
  have Ny890 := Aside0.mk hy890
  clear hy890
  have H' := Aside0.mk H
  clear H
  have hcz15_0 := cz0 BK886
  have hcz15_1 := cz1 BK886
  have hfz15_0 := blk_frozen BK886.out 0
  have hfz15_1 := blk_frozen BK886.out 1
  have p14 : 0 ≤ (x6_1 : Int) := of_decide_eq_true (by first | (with_reducible assumption) | assumption)
  have q14 : (x6_1 : Int) < ((x5_1.length : Int) : Int) := of_decide_eq_true (by first | (with_reducible assumption) | assumption)
  obtain ⟨go14, co14, eo14, gb14, gl14, cl14, HG14⟩ := Kd.R_form HO_5.out (by omega)
  (first | cases eo14 | (injection eo14 with ea_ en_ ec_; (first | subst ea_ | (injection ea_ with ea_; subst ea_)); subst ec_; clear en_))
  have GB14 := Aside0.mk gb14
  have GG14 := Aside0.mk HG14
  clear gb14 gl14 HG14
  obtain ⟨hx14_0, hf14_0⟩ := Kd.R_celln 0 HO_5.out (x6_1 : Int) p14 q14
  replace p14 := eq_true p14
  replace q14 := eq_true q14
  have HP16 := Kd.R_putg HO_5.out (x6_1 : Int) (Int.tmod x1_1 a0_1)
  go_wp2_with (first | ((with_reducible refine gate_store (t := 3) (p := 23) rfl ?_); refine store_event (t := 3) (p := 23) (v := ?vo_w17) (w1 := (wr.setCell ⟨go14, (x6_1 : Int).toNat, none⟩ (.int .i64 (Int.tmod x1_1 a0_1)))) ?hg ?ho ?hn ?hr ?_; (case ho => rfl); (case hg => rfl); (case hn => rfl); (case hr => first | (go_simp; done) | (go_simp; rfl)); intro w17 hw; have hg : wr.grownBy w17 (some go14) := (by rw [hw]; exact HP16.2); have hp_ : Kd.R (Kd.int .i64) 3 w17 w.heap.size (fun _ => True) (.slice (some ⟨go14, 0, none⟩) x5_1.length co14) y890 := (by rw [hw, Ny890.out]; exact HP16.1); clear HP16; have n0_ := Aside0.mk (hp_); have n1_ := Aside0.mk (blk_grown (g := gb886) (o := .cells #[.int .i64 a0_0, .int .i64 a0_1] 28 (0, 0)) (bK BK886) hg (Kd.R_ne HO_5.out BK886.out (by decide))); have n2_ := Aside0.mk ((by rw [hw]; exact b_s (HB.out) GB14.out : Below w.heap.size w w17)); clear HO_5; clear BK886; clear HB; have HO_5 := n0_; have BK886 := n1_; have HB := n2_; clear n0_ n1_ n2_; clear hg hw hp_; have hcz18_0 := cz0 BK886; have hcz18_1 := cz1 BK886; have hfz18_0 := blk_frozen BK886.out 0; have hfz18_1 := blk_frozen BK886.out 1))
  go_roundg k1
  case measure => have := HK1.out; omega
  case rel => refine ⟨(wrap64 (Int.tdiv x1_1 a0_1)), (y890), (wrap64 (x6_1 - 1)), (by first | rfl | (simp; done) | (simp [*]; done)), (by first | rfl | (simp; done) | (simp [*]; done)), H', ⟨by have := HK1.out; omega⟩, ⟨?_⟩, ⟨?_⟩, ⟨bB HB⟩⟩ <;> (with_reducible repeat (first | refine g_d ?_ _ | refine g_e ?_ | refine g_a ?_ _ | apply r_a | apply r_d | apply r_e)) <;> first | exact BK886.out | exact HO_5.out
/-! ### spec_orZero: function 81 -/
def spec_orZero.f (k : Nat) (a0_0 : Int) (a0_1 : Int) : Option (List ByteArray) := (spec_whOf.f k a0_0 a0_1 0).bind fun t893 => (some (([t893] : List ByteArray)))
theorem spec_orZero.mono : ∀ a0 a1 k, LeO (spec_orZero.f k a0 a1) (spec_orZero.f (k + 1) a0 a1) := by
  intro a0 a1 k
  unfold spec_orZero.f
  repeat' first
      | (with_reducible exact spec_whOf.mono _ _ _ _)
      | (with_reducible exact LeO.refl _)
      | (with_reducible exact LeO.none _)
      | (with_reducible refine LeO.ite ?_ ?_)
      | (with_reducible refine LeO.bind ?_ (fun _ => ?_))
      | exact spec_whOf.mono _ _ _ _
      | exact LeO.none _
      | refine LeO.ite ?_ ?_
      | refine LeO.bind ?_ (fun _ => ?_)
set_option maxHeartbeats 8000000 in
set_option maxRecDepth 100000 in
theorem spec_orZero.calls (k : Nat) (a0_0 : Int) (a0_1 : Int) (r : List ByteArray) (w : World) (h : spec_orZero.f k a0_0 a0_1 = some r) :
    Calls Try.prog 81 #[.agg #[.int .i64 a0_0, .int .i64 a0_1]] w fun e w' => ∃ v0_ : Value, e = .returned (v0_) ∧ Kd.R Kd.string 9 w' w.heap.size (fun _ => True) v0_ r ∧ Below w.heap.size w w' := by
  have hu28 := Try.underlying28
  have HB := Aside0.mk (Below.refl w.heap.size w)
  have H : ((spec_whOf.f k a0_0 a0_1 0).bind fun t893 => (some (([t893] : List ByteArray)))) = some r := h
  clear h
  replace H := Option.bind_eq_some_iff.mp H
  obtain ⟨t893, A20, H⟩ := H
  try dsimp only at H
  have A2 := Aside0.mk A20
  clear A20
  obtain ⟨y894, hy894⟩ : ∃ y_ : List ByteArray, y_ = (([t893] : List ByteArray)) := ⟨_, rfl⟩
  replace H : (some y894) = some r := by first | (rw [hy894]; with_reducible exact H) | (have H2_ := (Option.bind_some _ _).symm.trans H; rw [hy894]; with_reducible exact H2_) | (have H2_ := (Option.bind_some _ _).symm.trans H; with_reducible exact H2_) | with_reducible exact H | (rw [hy894]; exact H) | exact H
  have Ny894 := Aside0.mk hy894
  clear hy894
  obtain rfl := Option.some.inj H
  go_enter Try.func81, Try.ntmps81
  go_wp2_with (first | ((with_reducible refine gate_dst (N := 1) rfl ?_); refine box_event ?hg (N := 1) ?hd (cs := #[.int .i64 a0_0, .int .i64 a0_1]) (t := 28) ?hr ?_; (case hd => rfl); (case hg => rfl); (case hr => first | (go_simp; done) | (go_simp; rfl)); intro gb892 hg w3 hbox hb; have n0_ := bsx hb HB; have n1_ := Aside0.mk (hbox); have n2_ := gwx hg HB; have n3_ := n2_; clear HB; have HB := n0_; have BK892 := n1_; have GW892 := n2_; have GE892 := n3_; clear n0_ n1_ n2_ n3_; clear hb hbox hg; have hcz4_0 := cz0 BK892; have hcz4_1 := cz1 BK892; have hfz4_0 := blk_frozen BK892.out 0; have hfz4_1 := blk_frozen BK892.out 1) | ((with_reducible refine gate_callee (f := 95) rfl ?_); refine goesL_ (some 4) rfl rfl Try.func95 (by kernel_rfl) rfl #[.agg #[.int .i64 a0_0, .int .i64 a0_1], .int .i64 0] rfl (by (try simp only [m_1, m_2, m_3]); first | done | rfl | (simp only [m_4, m_5]; rfl)) ?_; (with_reducible refine (spec_whOf.calls k a0_0 a0_1 0 t893 _ A2.out).mono ?_); rintro e w5 ⟨rfl, hb⟩; refine ⟨_, rfl, ?_⟩; replace BK892 := bbx hb BK892; replace HB := bsx hb HB; skip; (try clear hb); (try clear hb2); (try clear hk); (try clear hi)) | ((with_reducible refine gate_dst (N := 5) rfl ?_); refine Kd.R_lit Kd.string _ 9 ?hg (N := 5) ?hd (xs := ([t893] : List ByteArray)) (inner := [.string t893]) (ok := fun _ => True) (okp := fun _ => True) ?hr ?hp (fun _ hk => hk) trivial (Below.refl _ _) (Nat.le_refl _) (by simp) ?_; (case hd => rfl); (case hg => rfl); (case hr => first | (go_simp; done) | (go_simp; rfl)); (case hp => exact (Reps.one (show Kd.M Kd.string _ _ _ t893 [.string t893] from rfl) (Reps.none _ _))); intro v895 w6 ho7 hb hg_ hnew_; clear hg_ hnew_; (first | rw [← Ny894.out] at ho7 | (simp only [Int.reduceToNat] at ho7; rw [← Ny894.out] at ho7)); have n0_ := Aside0.mk (Kd.R_lower ho7 (below_size (bB HB))); replace BK892 := bbx hb BK892; have n2_ := bsx hb HB; clear HB; have HO896 := n0_; have HB := n2_; clear n0_ n2_; clear hb ho7))
  go_ret
  exact ⟨_, by first | rfl | (simp [errW_none, errW_some] <;> rfl) | (simp [*, errW_none, errW_some] <;> rfl), by (with_reducible repeat (first | apply r_a | apply r_d | apply r_e)); exact HO896.out, bB HB⟩

/-! ### impl_Lock_next: function 89 -/
def impl_Lock_next.l0 : Nat → ByteArray → List ByteArray → List (S66) → Int → Int → Int → Int → Option (List ByteArray)
  | 0, _, _, _, _, _, _, _ => none
  | k + 1, x1, x5, x11, x12, x13, x908000, x908001 => if x13 < x12 then (if 0 ≤ x13 then (if x13 < (x11.length : Int) then ((impl_Lock_turned.f k x908000 x908001 x1 ((rd_T66 x11 x13).f0) ((rd_T66 x11 x13).f1)).bind fun t916 => (if x5.length < 8796093022208 then (impl_Lock_next.l0 k x1 (x5 ++ [t916]) x11 x12 (wrap64 (x13 + 1)) x908000 x908001) else (none))) else (none)) else (none)) else ((impl_sorted.f x5).bind fun t920 => (some t920))
def impl_Lock_next.f (k : Nat) (a0_0 : Int) (a0_1 : Int) (a1 : ByteArray) : Option (List ByteArray) := (impl_turns.f k a0_0).bind fun t911 => (impl_Lock_next.l0 k a1 (([] : List ByteArray)) t911 (t911.length : Int) 0 a0_0 a0_1)
theorem impl_Lock_next.mono_l : ∀ k, (∀ y0 y1 y2 y3 y4 y5 y6, LeO (impl_Lock_next.l0 k y0 y1 y2 y3 y4 y5 y6) (impl_Lock_next.l0 (k + 1) y0 y1 y2 y3 y4 y5 y6))
  | 0 => fun _ _ _ _ _ _ _ r h => by simp [impl_Lock_next.l0] at h
  | k + 1 => by
    have ih0 := impl_Lock_next.mono_l k
    · intro y0 y1 y2 y3 y4 y5 y6
      unfold impl_Lock_next.l0
      repeat' first
      | (with_reducible exact ih0 _ _ _ _ _ _ _)
      | (with_reducible exact impl_Lock_turned.mono _ _ _ _ _ _)
      | (with_reducible exact impl_turns.mono _ _)
      | (with_reducible exact LeO.refl _)
      | (with_reducible exact LeO.none _)
      | (with_reducible refine LeO.ite ?_ ?_)
      | (with_reducible refine LeO.bind ?_ (fun _ => ?_))
      | exact ih0 _ _ _ _ _ _ _
      | exact impl_Lock_turned.mono _ _ _ _ _ _
      | exact impl_turns.mono _ _
      | exact LeO.none _
      | refine LeO.ite ?_ ?_
      | refine LeO.bind ?_ (fun _ => ?_)
theorem impl_Lock_next.mono : ∀ a0 a1 a2 k, LeO (impl_Lock_next.f k a0 a1 a2) (impl_Lock_next.f (k + 1) a0 a1 a2) := by
  intro a0 a1 a2 k
  have ih0 := impl_Lock_next.mono_l k
  unfold impl_Lock_next.f
  repeat' first
      | (with_reducible exact ih0 _ _ _ _ _ _ _)
      | (with_reducible exact impl_Lock_turned.mono _ _ _ _ _ _)
      | (with_reducible exact impl_turns.mono _ _)
      | (with_reducible exact LeO.refl _)
      | (with_reducible exact LeO.none _)
      | (with_reducible refine LeO.ite ?_ ?_)
      | (with_reducible refine LeO.bind ?_ (fun _ => ?_))
      | exact ih0 _ _ _ _ _ _ _
      | exact impl_Lock_turned.mono _ _ _ _ _ _
      | exact impl_turns.mono _ _
      | exact LeO.none _
      | refine LeO.ite ?_ ?_
      | refine LeO.bind ?_ (fun _ => ?_)
set_option maxHeartbeats 8000000 in
set_option maxRecDepth 100000 in
theorem impl_Lock_next.calls (k : Nat) (a0_0 : Int) (a0_1 : Int) (a1 : ByteArray) (r : List ByteArray) (w : World) (h : impl_Lock_next.f k a0_0 a0_1 a1 = some r) :
    Calls Try.prog 89 #[.agg #[.int .i64 a0_0, .int .i64 a0_1], .string a1] w fun e w' => ∃ v0_ : Value, e = .returned (v0_) ∧ Kd.R Kd.string 9 w' w.heap.size (fun _ => True) v0_ r ∧ Below w.heap.size w w' := by
  have hu28 := Try.underlying28
  have hu66 := Try.underlying66
  have HB := Aside0.mk (Below.refl w.heap.size w)
  have H : ((impl_turns.f k a0_0).bind fun t911 => (impl_Lock_next.l0 k a1 (([] : List ByteArray)) t911 (t911.length : Int) 0 a0_0 a0_1)) = some r := h
  clear h
  obtain ⟨y908, hy908⟩ : ∃ y_ : List ByteArray, y_ = (([] : List ByteArray)) := ⟨_, rfl⟩
  replace H : ((impl_turns.f k a0_0).bind fun t911 => (impl_Lock_next.l0 k a1 y908 t911 (t911.length : Int) 0 a0_0 a0_1)) = some r := by first | (rw [hy908]; with_reducible exact H) | (have H2_ := (Option.bind_some _ _).symm.trans H; rw [hy908]; with_reducible exact H2_) | (have H2_ := (Option.bind_some _ _).symm.trans H; with_reducible exact H2_) | with_reducible exact H | (rw [hy908]; exact H) | exact H
  have Ny908 := Aside0.mk hy908
  clear hy908
  replace H := Option.bind_eq_some_iff.mp H
  obtain ⟨t911, A30, H⟩ := H
  try dsimp only at H
  have A3 := Aside0.mk A30
  clear A30
  have H' := Aside0.mk H
  clear H
  go_enter Try.func89, Try.ntmps89
  go_wp2_with (first | ((with_reducible refine gate_dst (N := 2) rfl ?_); refine box_event ?hg (N := 2) ?hd (cs := #[.int .i64 a0_0, .int .i64 a0_1]) (t := 28) ?hr ?_; (case hd => rfl); (case hg => rfl); (case hr => first | (go_simp; done) | (go_simp; rfl)); intro gb907 hg w4 hbox hb; have n0_ := bsx hb HB; have n1_ := Aside0.mk (hbox); have n2_ := gwx hg HB; have n3_ := n2_; clear HB; have HB := n0_; have BK907 := n1_; have GW907 := n2_; have GE907 := n3_; clear n0_ n1_ n2_ n3_; clear hb hbox hg) | ((with_reducible refine gate_dst (N := 8) rfl ?_); refine Kd.R_lit Kd.string _ 9 ?hg (N := 8) ?hd (xs := ([] : List ByteArray)) (inner := []) (ok := fun _ => True) (okp := fun _ => True) ?hr ?hp (fun _ hk => hk) trivial (Below.refl _ _) (Nat.le_refl _) (by simp) ?_; (case hd => rfl); (case hg => rfl); (case hr => first | (go_simp; done) | (go_simp; rfl)); (case hp => exact (Reps.none _ _)); intro v909 w5 ho6 hb hg_ hnew_; clear hg_ hnew_; (first | rw [← Ny908.out] at ho6 | (simp only [Int.reduceToNat] at ho6; rw [← Ny908.out] at ho6)); have n0_ := Aside0.mk (Kd.R_lower ho6 (below_size (bB HB))); replace BK907 := bbx hb BK907; have n2_ := bsx hb HB; clear HB; have HO910 := n0_; have HB := n2_; clear n0_ n2_; clear hb ho6; have hcz7_0 := cz0 BK907; have hcz7_1 := cz1 BK907; have hfz7_0 := blk_frozen BK907.out 0; have hfz7_1 := blk_frozen BK907.out 1) | ((with_reducible refine gate_callee (f := 69) rfl ?_); refine goesL_ (some 11) rfl rfl Try.func69 (by kernel_rfl) rfl #[.int .i64 a0_0] rfl (by (try simp only [m_1, m_2, m_3]); first | done | rfl | (simp only [m_4, m_5]; rfl)) ?_; (with_reducible refine (impl_turns.calls k a0_0 t911 _ A3.out).mono ?_); rintro e w8 ⟨v912, rfl, ho0, hb⟩; refine ⟨_, rfl, ?_⟩; have n0_ := Aside0.mk (Kd.R_below (by (with_reducible repeat (first | apply r_a | apply r_d | apply r_e)); exact HO910.out) hb); have n1_ := Aside0.mk (Kd.R_lower ho0 (below_size (bB HB))); replace BK907 := bbx hb BK907; have n3_ := bsx hb HB; clear HO910; clear HB; have HO910 := n0_; have HO913 := n1_; have HB := n3_; clear n0_ n1_ n3_; (try clear hb); (try clear hb2); (try clear hk); (try clear hi); (try clear ho0); obtain ⟨Ao9, co9, eo9⟩ := Kd.R_slice HO913.out; subst eo9))
  go_loopg [5, 13] k (fun kq v5 v13 w' => ∃ (x5_1 : List ByteArray) (x13_1 : Int), v13 = .int .i64 x13_1 ∧ Aside0 (impl_Lock_next.l0 kq a1 x5_1 t911 (t911.length : Int) x13_1 a0_0 a0_1 = some r) ∧ Aside0 (kq ≤ k) ∧ Aside0 (Kd.R Kd.string 9 w' w.heap.size (fun _ => True) v5 x5_1) ∧ Aside0 (Kd.R k66 66 w' w.heap.size (fun _ => True) (.slice Ao9 t911.length co9) t911) ∧ Aside0 (w'.heap[gb907]? = some (.cells #[.int .i64 a0_0, .int .i64 a0_1] 28 (0, 0))) ∧ Aside0 (Below w.heap.size w w'))
  case atStart => refine ⟨(y908), (0), (by first | rfl | (simp; done) | (simp [*]; done)), H', ⟨Nat.le_refl _⟩, ⟨?_⟩, ⟨?_⟩, ⟨?_⟩, ⟨bB HB⟩⟩ <;> (with_reducible repeat (first | refine g_d ?_ _ | refine g_e ?_ | refine g_a ?_ _ | apply r_a | apply r_d | apply r_e)) <;> first | exact BK907.out | exact HO910.out | exact HO913.out
  clear H'
  try clear hcz7_0
  try clear hcz7_1
  try clear hfz7_0
  try clear hfz7_1
  obtain ⟨x5_1, x13_1, rfl, HA, HK1, HO_5, HO_11, BK907, HB⟩ := hrel
  rcases gk with _ | k1
  · exact absurd HA.out (by simp [impl_Lock_next.l0])
  have H := HA.out
  clear HA
  simp only [impl_Lock_next.l0] at H
  by_cases c10 : x13_1 < (t911.length : Int)
  rotate_left
  · rw [if_neg c10] at H
    have c10b0 : decide (x13_1 < (t911.length : Int)) = false := decide_eq_false c10
    clear c10
    replace H := Option.bind_eq_some_iff.mp H
    obtain ⟨t920, A210, H⟩ := H
    try dsimp only at H
    have A21 := Aside0.mk A210
    clear A210
    obtain rfl := Option.some.inj H
    obtain ⟨Ao22, co22, eo22⟩ := Kd.R_slice HO_5.out
    subst eo22
    go_wp2_with (first | ((with_reducible refine gate_callee (f := 101) rfl ?_); refine goesL_ (some 26) rfl rfl Try.func101 (by kernel_rfl) rfl #[.slice Ao22 x5_1.length co22] rfl (by (try simp only [m_1, m_2, m_3]); first | done | rfl | (simp only [m_4, m_5]; rfl)) ?_; (with_reducible refine (impl_sorted.calls (fun k_ => some k_ = (.slice Ao22 x5_1.length co22 : Value).ownBlock) (.slice Ao22 x5_1.length co22) x5_1 t920 w _ ?side1 ?side2 A21.out).mono ?_); (case side1 => exact bB HB); (case side2 => exact Kd.R_tight rfl HO_5.out); rintro e w23 ⟨v921, rfl, ho0, hb, hkp⟩; refine ⟨_, rfl, ?_⟩; have n0_ := Aside0.mk (Kd.R_mono (ok' := fun k_ => True) (Kd.R_keptB ((Kd.R_apart' HO_11.out (Kd.R_typed HO_5.out) (by decide))) hkp (fun k_ hk_ hs_ => (hk_.2) hs_)) (fun k_ hk_ => trivial)); have n1_ := Aside0.mk (blk_kept (bK BK907) hkp (fun hs_ => (fun e_ => (Kd.R_ne HO_5.out BK907.out (by decide)) e_) hs_)); have n2_ := Aside0.mk (Kd.R_mono (ok' := fun k_ => True) ho0 (fun k_ hk_ => trivial)); have n3_ := Aside0.mk (hb); clear HO_11; clear BK907; clear HB; clear HO_5; have HO_11 := n0_; have BK907 := n1_; have HO922 := n2_; have HB := n3_; clear n0_ n1_ n2_ n3_; (try clear hb); (try clear hkp); (try clear ho0)))
    go_ret
    exact ⟨_, by first | rfl | (simp [errW_none, errW_some] <;> rfl) | (simp [*, errW_none, errW_some] <;> rfl), by (with_reducible repeat (first | apply r_a | apply r_d | apply r_e)); exact HO922.out, bB HB⟩

  rw [if_pos c10] at H
  have c10b0 : decide (x13_1 < (t911.length : Int)) = true := decide_eq_true c10
  clear c10
  by_cases c11 : 0 ≤ x13_1
  rotate_left
  · rw [if_neg c11] at H
    exact absurd H (by simp)
  rw [if_pos c11] at H
  have c11b0 : decide (0 ≤ x13_1) = true := decide_eq_true c11
  clear c11
  by_cases c12 : x13_1 < (t911.length : Int)
  rotate_left
  · rw [if_neg c12] at H
    exact absurd H (by simp)
  rw [if_pos c12] at H
  have c12b0 : decide (x13_1 < (t911.length : Int)) = true := decide_eq_true c12
  clear c12
  replace H := Option.bind_eq_some_iff.mp H
  obtain ⟨t916, A130, H⟩ := H
  try dsimp only at H
  have A13 := Aside0.mk A130
  clear A130
  by_cases c14 : x5_1.length < 8796093022208
  rotate_left
  · rw [if_neg c14] at H
    exact absurd H (by simp)
  rw [if_pos c14] at H
  have LMc14 := Aside0.mk c14
  clear c14
  obtain ⟨y917, hy917⟩ : ∃ y_ : List ByteArray, y_ = (x5_1 ++ [t916]) := ⟨_, rfl⟩
  replace H : (impl_Lock_next.l0 k1 a1 y917 t911 (t911.length : Int) (wrap64 (x13_1 + 1)) a0_0 a0_1) = some r := by first | (rw [hy917]; with_reducible exact H) | (have H2_ := (Option.bind_some _ _).symm.trans H; rw [hy917]; with_reducible exact H2_) | (have H2_ := (Option.bind_some _ _).symm.trans H; with_reducible exact H2_) | with_reducible exact H | (rw [hy917]; exact H) | exact H
  have Ny917 := Aside0.mk hy917
  clear hy917
  have H' := Aside0.mk H
  clear H
  have p914 : 0 ≤ (x13_1 : Int) := of_decide_eq_true (by first | (with_reducible assumption) | assumption)
  have q914 : x13_1 < (t911.length : Int) := of_decide_eq_true (by first | (with_reducible assumption) | assumption)
  obtain ⟨ad914, e914, hx914_0, hx914_1⟩ := at_T66 (Kd.R_reads' HO_11.out).2.2 x13_1 p914 q914
  cases e914
  replace p914 := eq_true p914
  replace q914 := eq_true q914
  go_wp2_with (first | ((with_reducible refine gate_dst (N := 7) rfl ?_); refine box_event ?hg (N := 7) ?hd (cs := #[.int .i64 0, .int .i64 0]) (t := 66) ?hr ?_; (case hd => rfl); (case hg => rfl); (case hr => first | (go_simp; done) | (go_simp; rfl)); intro gb915 hg w15 hbox hb; have n0_ := Aside0.mk (Kd.R_below (by (with_reducible repeat (first | apply r_a | apply r_d | apply r_e)); exact HO_5.out) hb); have n1_ := Aside0.mk (Kd.R_below (Kd.R_elderB (by (with_reducible repeat (first | apply r_a | apply r_d | apply r_e)); exact HO_11.out) gb915 (Nat.le_of_eq hg.symm)) hb); have n2_ := bbx hb BK907; have n3_ := bsx hb HB; have n4_ := Aside0.mk (hbox); have n5_ := gwx hg HB; have n6_ := gwx hg HB; have n7_ := nlx hg BK907; have n8_ := ngx hg BK907; clear HO_5; clear HO_11; clear BK907; clear HB; have HO_5 := n0_; have HO_11 := n1_; have BK907 := n2_; have HB := n3_; have BK915 := n4_; have GW915 := n5_; have GE915 := n6_; have NB907_915 := n7_; have NB915_907 := n8_; clear n0_ n1_ n2_ n3_ n4_ n5_ n6_ n7_ n8_; clear hb hbox hg; have hnb16 := NB915_907.out; have hnc16 := NB907_915.out; have hcz17_0 := cz0 BK915; have hcz17_1 := cz1 BK915; have hfz17_0 := blk_frozen BK915.out 0; have hfz17_1 := blk_frozen BK915.out 1; have hcz18_0 := cz0 BK907; have hcz18_1 := cz1 BK907; have hfz18_0 := blk_frozen BK907.out 0; have hfz18_1 := blk_frozen BK907.out 1) | ((with_reducible refine gate_callee (f := 99) rfl ?_); refine goesL_ (some 21) rfl rfl Try.func99 (by kernel_rfl) rfl #[.agg #[.int .i64 a0_0, .int .i64 a0_1], .string a1, .agg #[.int .i64 ((rd_T66 t911 x13_1).f0), .int .i64 ((rd_T66 t911 x13_1).f1)]] rfl (by (try simp only [m_1, m_2, m_3]); first | done | rfl | (simp only [m_4, m_5]; rfl)) ?_; (with_reducible refine (impl_Lock_turned.calls k1 a0_0 a0_1 a1 ((rd_T66 t911 x13_1).f0) ((rd_T66 t911 x13_1).f1) t916 _ A13.out).mono ?_); rintro e w19 ⟨rfl, hb⟩; refine ⟨_, rfl, ?_⟩; have n0_ := Aside0.mk (Kd.R_below (by (with_reducible repeat (first | apply r_a | apply r_d | apply r_e)); exact (Kd.R_mono (Kd.R_far (p := ⟨gb915, 1, none⟩) (Kd.R_far (p := ⟨gb915, 0, none⟩) (Kd.R_types HO_5.out BK915.out (by decide)) (fun _ hk => hk.2) (.int .i64 ((rd_T66 t911 x13_1).f0))) (fun _ hk => hk.2) (.int .i64 ((rd_T66 t911 x13_1).f1))) (fun _ h_ => h_.1))) hb); have n1_ := Aside0.mk (Kd.R_below (by (with_reducible repeat (first | apply r_a | apply r_d | apply r_e)); exact (Kd.R_mono (Kd.R_far (p := ⟨gb915, 1, none⟩) (Kd.R_far (p := ⟨gb915, 0, none⟩) (Kd.R_mono HO_11.out (fun k_ hk => (⟨hk, hk.2⟩ : _ ∧ k_ ≠ gb915))) (fun _ hk => hk.2) (.int .i64 ((rd_T66 t911 x13_1).f0))) (fun _ hk => hk.2) (.int .i64 ((rd_T66 t911 x13_1).f1))) (fun _ h_ => h_.1))) hb); have n2_ := Aside0.mk (blk_below (g := gb907) (o := .cells #[.int .i64 a0_0, .int .i64 a0_1] 28 (0, 0)) (bF) hb); have n3_ := Aside0.mk (blk_below (g := gb915) (o := .cells #[.int .i64 ((rd_T66 t911 x13_1).f0), .int .i64 ((rd_T66 t911 x13_1).f1)] 66 (0, 0)) (by (with_reducible repeat (first | refine g_d ?_ _ | refine g_e ?_ | refine g_a ?_ _)); refine blk_put (cs := #[.int .i64 ((rd_T66 t911 x13_1).f0), .int .i64 0]) ?_ 1 _ rfl; (with_reducible repeat (first | refine g_d ?_ _ | refine g_e ?_ | refine g_a ?_ _)); refine blk_put (cs := #[.int .i64 0, .int .i64 0]) ?_ 0 _ rfl; (with_reducible repeat (first | refine g_d ?_ _ | refine g_e ?_ | refine g_a ?_ _)); exact BK915.out) hb); replace HB := bsx hb HB; clear HO_5; clear HO_11; clear BK907; clear BK915; have HO_5 := n0_; have HO_11 := n1_; have BK907 := n2_; have BK915 := n3_; clear n0_ n1_ n2_ n3_; (try clear hb); (try clear hb2); (try clear hk); (try clear hi)) | ((with_reducible refine gate_builtin (b := .append) (xs := #[.tmp 17, .tmp 22]) rfl ?_); at_builtin; refine Kd.R_append Kd.string (w0 := w) w.heap.size rfl (.tmp 17) (.tmp 22) 24 9 (.string ⟨#[]⟩) 16 rfl Try.underlying24 info9 rfl (by decide) (by omega) u5 x5_1 t916 [.string t916] (fun _ => True) (fun _ => False) rfl rfl ?aP (fun _ hk => hk.elim) ?aF ?aO ?aB ?aS ?aL ?_; (case aP => exact rfl); (case aB => exact (bB HB)); (case aF => exact (fun _ _ => trivial)); (case aO => exact (by (with_reducible repeat (first | apply r_a | apply r_d | apply r_e)); exact HO_5.out)); (case aS => exact (below_size (bB HB))); (case aL => have := LMc14.out; omega); intro v918 w20 ho hb hg hat; rw [← Ny917.out] at ho; have n0_ := Aside0.mk (Kd.R_over' (by (with_reducible repeat (first | apply r_a | apply r_d | apply r_e)); exact HO_11.out) (Kd.R_typed (by (with_reducible repeat (first | apply r_a | apply r_d | apply r_e)); exact HO_5.out)) (by decide) hg); have n1_ := Aside0.mk (blk_grown (g := gb907) (o := .cells #[.int .i64 a0_0, .int .i64 a0_1] 28 (0, 0)) (bK BK907) hg (Kd.R_ne HO_5.out BK907.out (by decide))); have n2_ := Aside0.mk (blk_grown (g := gb915) (o := .cells #[.int .i64 ((rd_T66 t911 x13_1).f0), .int .i64 ((rd_T66 t911 x13_1).f1)] 66 (0, 0)) (bK BK915) hg (Kd.R_ne HO_5.out BK915.out (by decide))); have n3_ := Aside0.mk (hb); have n4_ := Aside0.mk (ho); clear HO_11; clear BK907; clear BK915; clear HB; clear HO_5; have HO_11 := n0_; have BK907 := n1_; have BK915 := n2_; have HB := n3_; have HO919 := n4_; clear n0_ n1_ n2_ n3_ n4_; clear ho hb hg hat))
  go_roundg k1
  case measure => have := HK1.out; omega
  case rel => refine ⟨(y917), (wrap64 (x13_1 + 1)), (by first | rfl | (simp; done) | (simp [*]; done)), H', ⟨by have := HK1.out; omega⟩, ⟨?_⟩, ⟨by (with_reducible repeat (first | apply r_a | apply r_d | apply r_e)); exact Kd.R_mono HO_11.out (fun _ hk => trivial)⟩, ⟨?_⟩, ⟨bB HB⟩⟩ <;> (with_reducible repeat (first | refine g_d ?_ _ | refine g_e ?_ | refine g_a ?_ _ | apply r_a | apply r_d | apply r_e)) <;> first | exact BK907.out | exact HO919.out
/-! ### slices_Contains_string_string: function 91 (a text of our own) -/
def slices_Contains_string_string.f (l0 : List ByteArray) (a1 : ByteArray) : Option Bool := if l0.length ≤ 9223372036854775807 then some (Lib.containsS l0 a1) else none
theorem slices_Contains_string_string.open_ {w : World} {A : Option Addr} {l : List ByteArray} (h : Kd.C Kd.string w A l.length l) (hp : 0 < l.length) : ∃ b o, A = some ⟨b, o, none⟩ ∧ ∀ j, j < l.length → w.cell? ⟨b, o + j, none⟩ = some (.string (l.getD j ByteArray.empty)) := by
  obtain ⟨ad, e, hx⟩ := Kd.at_string h 0 (by omega) (by omega)
  obtain ⟨bk, o, sp⟩ := ad
  have hsp : sp = none := by
    have hx' : w.cell? ⟨bk, o, sp⟩ = some (.string (rdOf ByteArray.empty l 0)) := hx
    unfold World.cell? at hx'
    cases sp with
    | none => rfl
    | some q =>
      exfalso
      simp only [Option.isSome_some, if_true] at hx'
      split at hx' <;> exact absurd hx' (by simp)
  subst hsp
  refine ⟨bk, o, e, fun j hj => ?_⟩
  obtain ⟨ad, e2, hc⟩ := Kd.at_string h (j : Int) (by omega) (by omega)
  rw [e] at e2
  obtain rfl := Option.some.inj e2
  rw [Int.toNat_natCast] at hc
  have e3 : rdOf ByteArray.empty l (j : Int) = l.getD j ByteArray.empty := by unfold rdOf; rw [Int.toNat_natCast]
  rw [e3] at hc
  rw [← hc]
  congr 1
  unfold Addr.add
  split
  · subst_vars; rfl
  · rfl
theorem slices_Contains_string_string.same (A0 : Option Addr) (c0 : Nat) (l0 : List ByteArray) (a1 : ByteArray) (w : World) (hr0 : Kd.C Kd.string w A0 l0.length l0) (hl : l0.length ≤ 9223372036854775807) :
    Calls Try.prog 91 #[.slice A0 l0.length c0, .string a1] w fun e w' => e = .returned (.bool (Lib.containsS l0 a1)) ∧ w' = w := by
  by_cases hp : 0 < l0.length
  · obtain ⟨b, o, rfl, hc⟩ := slices_Contains_string_string.open_ hr0 hp
    have := Try.slices_Contains_string b o l0.length c0 l0 a1 w (Nat.le_refl _) hl hc
    rwa [List.take_of_length_le (Nat.le_refl _)] at this
  · obtain rfl : l0 = [] := List.length_eq_zero_iff.mp (by omega)
    refine (Try.slices_Contains_string_empty A0 c0 a1 w).mono fun e w' ⟨he, hw⟩ => ⟨?_, hw⟩
    rw [he]; rfl
theorem slices_Contains_string_string.calls (A0 : Option Addr) (c0 : Nat) (l0 : List ByteArray) (a1 : ByteArray) (r : Bool) (w : World) (hr0 : Kd.C Kd.string w A0 l0.length l0) (hc0 : l0.length ≤ c0) (h : slices_Contains_string_string.f l0 a1 = some r) :
    Calls Try.prog 91 #[.slice A0 l0.length c0, .string a1] w fun e w' => e = .returned (.bool r) ∧ Drawn0 w w' := by
  unfold slices_Contains_string_string.f at h
  by_cases hl : l0.length ≤ 9223372036854775807
  · rw [if_pos hl] at h
    obtain rfl := Option.some.inj h
    exact (slices_Contains_string_string.same A0 c0 l0 a1 w hr0 hl).mono fun e w' ⟨he, hw⟩ => ⟨he, by rw [hw]; exact Drawn0.refl _⟩
  · rw [if_neg hl] at h; exact absurd h (by simp)


/-! ### impl_Lock_code: function 132 -/
def impl_Lock_code.l0 : Nat → Int → List Int → Int → Int → Int → Option (ByteArray)
  | 0, _, _, _, _, _ => none
  | k + 1, x1, x5, x6, x924000, x924001 => if x6 ≥ 0 then (if x924001 = 0 then (none) else (if 0 ≤ x6 then (if x6 < (x5.length : Int) then (impl_Lock_code.l0 k (wrap64 (Int.tdiv x1 x924001)) (x5.set (x6 : Int).toNat (Int.tmod x1 x924001)) (wrap64 (x6 - 1)) x924000 x924001) else (none)) else (none))) else ((impl_text.f k x5).bind fun t928 => (some t928))
def impl_Lock_code.f (k : Nat) (a0_0 : Int) (a0_1 : Int) (a1 : Int) : Option (ByteArray) := if 0 ≤ a0_0 then (if (a0_0 : Int).toNat ≤ 35184372088832 then (impl_Lock_code.l0 k a1 (List.replicate (a0_0 : Int).toNat 0) (wrap64 (a0_0 - 1)) a0_0 a0_1) else (none)) else (none)
theorem impl_Lock_code.mono_l : ∀ k, (∀ y0 y1 y2 y3 y4, LeO (impl_Lock_code.l0 k y0 y1 y2 y3 y4) (impl_Lock_code.l0 (k + 1) y0 y1 y2 y3 y4))
  | 0 => fun _ _ _ _ _ r h => by simp [impl_Lock_code.l0] at h
  | k + 1 => by
    have ih0 := impl_Lock_code.mono_l k
    · intro y0 y1 y2 y3 y4
      unfold impl_Lock_code.l0
      repeat' first
      | (with_reducible exact ih0 _ _ _ _ _)
      | (with_reducible exact impl_text.mono _ _)
      | (with_reducible exact LeO.refl _)
      | (with_reducible exact LeO.none _)
      | (with_reducible refine LeO.ite ?_ ?_)
      | (with_reducible refine LeO.bind ?_ (fun _ => ?_))
      | exact ih0 _ _ _ _ _
      | exact impl_text.mono _ _
      | exact LeO.none _
      | refine LeO.ite ?_ ?_
      | refine LeO.bind ?_ (fun _ => ?_)
theorem impl_Lock_code.mono : ∀ a0 a1 a2 k, LeO (impl_Lock_code.f k a0 a1 a2) (impl_Lock_code.f (k + 1) a0 a1 a2) := by
  intro a0 a1 a2 k
  have ih0 := impl_Lock_code.mono_l k
  unfold impl_Lock_code.f
  repeat' first
      | (with_reducible exact ih0 _ _ _ _ _)
      | (with_reducible exact impl_text.mono _ _)
      | (with_reducible exact LeO.refl _)
      | (with_reducible exact LeO.none _)
      | (with_reducible refine LeO.ite ?_ ?_)
      | (with_reducible refine LeO.bind ?_ (fun _ => ?_))
      | exact ih0 _ _ _ _ _
      | exact impl_text.mono _ _
      | exact LeO.none _
      | refine LeO.ite ?_ ?_
      | refine LeO.bind ?_ (fun _ => ?_)
def impl_Lock_code.T5 : Bool × List (List Nat × List Nat) := (true, [([], []), ([], []), ([], []), ([], []), ([3], [3]), ([2, 4], [2, 4]), ([], []), ([], []), ([7], [7]), ([6, 8], [6, 8]), ([0, 1, 0, 1, 2, 3, 4, 5], [0, 1]), ([10, 5, 0, 1, 2, 3, 4, 5], [5, 10]), ([9, 11, 0, 1, 2, 3, 4, 5, 6, 7, 8, 9, 10, 11], [2, 6, 9])])
def impl_Lock_code.B5 : List Nat := [0, 0, 0, 0, 8, 28, 0, 0, 128, 448, 63, 1087, 4095]
theorem impl_Lock_code.tab5 : rtab .any (opsOf Try.f132 5) = impl_Lock_code.T5 := by kernel_rfl
theorem impl_Lock_code.bits5 : waitsOk impl_Lock_code.T5.2 impl_Lock_code.B5 = true := by kernel_rfl
set_option maxHeartbeats 8000000 in
set_option maxRecDepth 100000 in
theorem impl_Lock_code.calls (k : Nat) (a0_0 : Int) (a0_1 : Int) (a1 : Int) (r : ByteArray) (w : World) (h : impl_Lock_code.f k a0_0 a0_1 a1 = some r) :
    Calls Try.prog 132 #[.agg #[.int .i64 a0_0, .int .i64 a0_1], .int .i64 a1] w fun e w' => e = .returned (.string r) ∧ Below w.heap.size w w' := by
  have hu28 := Try.underlying28
  have HB := Aside0.mk (Below.refl w.heap.size w)
  have H : (if 0 ≤ a0_0 then (if (a0_0 : Int).toNat ≤ 35184372088832 then (impl_Lock_code.l0 k a1 (List.replicate (a0_0 : Int).toNat 0) (wrap64 (a0_0 - 1)) a0_0 a0_1) else (none)) else (none)) = some r := h
  clear h
  by_cases c3 : 0 ≤ a0_0
  rotate_left
  · rw [if_neg c3] at H
    exact absurd H (by simp)

  rw [if_pos c3] at H
  have c3b0 := eq_true c3
  have c3b1 : decide (0 ≤ a0_0) = true := decide_eq_true c3
  clear c3
  by_cases c4 : (a0_0 : Int).toNat ≤ 35184372088832
  rotate_left
  · rw [if_neg c4] at H
    exact absurd H (by simp)
  rw [if_pos c4] at H
  have c4b0 := eq_true c4
  have c4b1 : decide ((a0_0 : Int).toNat ≤ 35184372088832) = true := decide_eq_true c4
  clear c4
  obtain ⟨y924, hy924⟩ : ∃ y_ : List Int, y_ = (List.replicate (a0_0 : Int).toNat 0) := ⟨_, rfl⟩
  replace H : (impl_Lock_code.l0 k a1 y924 (wrap64 (a0_0 - 1)) a0_0 a0_1) = some r := by first | (rw [hy924]; with_reducible exact H) | (have H2_ := (Option.bind_some _ _).symm.trans H; rw [hy924]; with_reducible exact H2_) | (have H2_ := (Option.bind_some _ _).symm.trans H; with_reducible exact H2_) | with_reducible exact H | (rw [hy924]; exact H) | exact H
  have Ny924 := Aside0.mk hy924
  clear hy924
  have H' := Aside0.mk H
  clear H
  go_enter Try.func132, Try.ntmps132
  go_wp2_with (first | ((with_reducible refine gate_dst (N := 2) rfl ?_); refine box_event ?hg (N := 2) ?hd (cs := #[.int .i64 a0_0, .int .i64 a0_1]) (t := 28) ?hr ?_; (case hd => rfl); (case hg => rfl); (case hr => first | (go_simp; done) | (go_simp; rfl)); intro gb923 hg w5 hbox hb; have n0_ := bsx hb HB; have n1_ := Aside0.mk (hbox); have n2_ := gwx hg HB; have n3_ := n2_; clear HB; have HB := n0_; have BK923 := n1_; have GW923 := n2_; have GE923 := n3_; clear n0_ n1_ n2_ n3_; clear hb hbox hg; have hcz6_0 := cz0 BK923; have hcz6_1 := cz1 BK923; have hfz6_0 := blk_frozen BK923.out 0; have hfz6_1 := blk_frozen BK923.out 1) | ((with_reducible refine gate_dst (N := 9) rfl ?_); refine Kd.R_make (Kd.int .i64) _ 3 rfl (N := 9) rfl 72 _ _ rfl a0_0 rfl rfl Try.underlying72 (.int .i64 0) 8 info3 rfl (by decide) (by omega) 0 (ok := fun _ => True) (okp := fun _ => True) rfl (fun _ hk => hk) trivial (of_decide_eq_true (by first | (with_reducible assumption) | assumption)) (Nat.le_trans (Nat.mul_le_mul_right _ (of_decide_eq_true (by first | (with_reducible assumption) | assumption) : a0_0.toNat ≤ 35184372088832)) (by omega)) (Below.refl _ _) (Nat.le_refl _) ?_; intro v925 w7 ho8 hb hg_ hnew_; clear hg_ hnew_; (first | rw [← Ny924.out] at ho8 | (simp only [Int.reduceToNat] at ho8; rw [← Ny924.out] at ho8)); have n0_ := Aside0.mk (Kd.R_lower ho8 (below_size (bB HB))); replace BK923 := bbx hb BK923; have n2_ := bsx hb HB; clear HB; have HO926 := n0_; have HB := n2_; clear n0_ n2_; clear hb ho8; have hcz9_0 := cz0 BK923; have hcz9_1 := cz1 BK923; have hfz9_0 := blk_frozen BK923.out 0; have hfz9_1 := blk_frozen BK923.out 1))
  go_loopg [1, 6] k (fun kq v1 v6 w' => ∃ (x1_1 : Int) (x5_1 : List Int) (x6_1 : Int), v1 = .int .i64 x1_1 ∧ v6 = .int .i64 x6_1 ∧ Aside0 (impl_Lock_code.l0 kq x1_1 x5_1 x6_1 a0_0 a0_1 = some r) ∧ Aside0 (kq ≤ k) ∧ Aside0 (Kd.R (Kd.int .i64) 3 w' w.heap.size (fun _ => True) v925 x5_1) ∧ Aside0 (w'.heap[gb923]? = some (.cells #[.int .i64 a0_0, .int .i64 a0_1] 28 (0, 0))) ∧ Aside0 (Below w.heap.size w w'))
  case atStart => refine ⟨(a1), (y924), (wrap64 (a0_0 - 1)), (by first | rfl | (simp; done) | (simp [*]; done)), (by first | rfl | (simp; done) | (simp [*]; done)), H', ⟨Nat.le_refl _⟩, ⟨?_⟩, ⟨?_⟩, ⟨bB HB⟩⟩ <;> (with_reducible repeat (first | refine g_d ?_ _ | refine g_e ?_ | refine g_a ?_ _ | apply r_a | apply r_d | apply r_e)) <;> first | exact BK923.out | exact HO926.out
  clear H'
  try clear c3
  try clear c3b0
  try clear c3b1
  try clear c4
  try clear c4b0
  try clear c4b1
  try clear hcz6_0
  try clear hcz6_1
  try clear hcz9_0
  try clear hcz9_1
  try clear hfz6_0
  try clear hfz6_1
  try clear hfz9_0
  try clear hfz9_1
  obtain ⟨x1_1, x5_1, x6_1, rfl, rfl, HA, HK1, HO_5, BK923, HB⟩ := hrel
  rcases gk with _ | k1
  · exact absurd HA.out (by simp [impl_Lock_code.l0])
  have H := HA.out
  clear HA
  simp only [impl_Lock_code.l0] at H
  by_cases c10 : x6_1 ≥ 0
  rotate_left
  · rw [if_neg c10] at H
    have c10b0 : decide (0 ≤ x6_1) = false := decide_eq_false c10
    clear c10
    replace H := Option.bind_eq_some_iff.mp H
    obtain ⟨t928, A170, H⟩ := H
    try dsimp only at H
    have A17 := Aside0.mk A170
    clear A170
    obtain rfl := Option.some.inj H
    obtain ⟨Ao18, co18, eo18⟩ := Kd.R_slice HO_5.out
    subst eo18
    go_wp2_with (first | ((with_reducible refine gate_callee (f := 123) rfl ?_); refine goesL_ (some 29) rfl rfl Try.func123 (by kernel_rfl) rfl #[.slice Ao18 x5_1.length co18] rfl (by (try simp only [m_1, m_2, m_3]); first | done | rfl | (simp only [m_4, m_5]; rfl)) ?_; (with_reducible refine (impl_text.calls k1 _ _ x5_1 t928 _ ?side1 ?side2 A17.out).mono ?_); (case side1 => repeat (first | exact (Kd.R_reads' HO_5.out).2.2 | (with_reducible refine Kd.C_alloc ?_ _) | (with_reducible refine Kd.C_drewN ?_ _) | (with_reducible refine Kd.C_drew ?_))); (case side2 => exact (Kd.R_reads' HO_5.out).2.1); rintro e w19 ⟨rfl, hb⟩; refine ⟨_, rfl, ?_⟩; have n0_ := Aside0.mk (Kd.R_below (by (with_reducible repeat (first | apply r_a | apply r_d | apply r_e)); exact HO_5.out) hb); replace BK923 := bbx hb BK923; replace HB := bsx hb HB; clear HO_5; have HO_5 := n0_; clear n0_; (try clear hb); (try clear hb2); (try clear hk); (try clear hi)))
    go_ret
    exact ⟨by first | rfl | (simp [errW_none, errW_some] <;> rfl) | (simp [*, errW_none, errW_some] <;> rfl), bB HB⟩
  rw [if_pos c10] at H
  have c10b0 : decide (0 ≤ x6_1) = true := decide_eq_true c10
  clear c10
  by_cases c11 : a0_1 = 0
  · rw [if_pos c11] at H
    exact absurd H (by simp)
  rw [if_neg c11] at H
  have c11b0 : (a0_1 == 0) = false := beq_eq_false_iff_ne.mpr c11
  have c11b1 : (a0_1 != 0) = true := bne_iff_ne.mpr c11
  by_cases c12 : 0 ≤ x6_1
  rotate_left
  · rw [if_neg c12] at H
    exact absurd H (by simp)
  rw [if_pos c12] at H
  have c12b0 : decide (0 ≤ x6_1) = true := decide_eq_true c12
  clear c12
  by_cases c13 : x6_1 < (x5_1.length : Int)
  rotate_left
  · rw [if_neg c13] at H
    exact absurd H (by simp)
  rw [if_pos c13] at H
  have c13b0 : decide (x6_1 < (x5_1.length : Int)) = true := decide_eq_true c13
  clear c13
  obtain ⟨y927, hy927⟩ : ∃ y_ : List Int, y_ = (x5_1.set (x6_1 : Int).toNat (Int.tmod x1_1 a0_1)) := ⟨_, rfl⟩
  replace H : (impl_Lock_code.l0 k1 (wrap64 (Int.tdiv x1_1 a0_1)) y927 (wrap64 (x6_1 - 1)) a0_0 a0_1) = some r := by first | (rw [hy927]; with_reducible exact H) | (have H2_ := (Option.bind_some _ _).symm.trans H; rw [hy927]; with_reducible exact H2_) | (have H2_ := (Option.bind_some _ _).symm.trans H; with_reducible exact H2_) | with_reducible exact H | (rw [hy927]; exact H) | exact H
  have Ny927 := Aside0.mk hy927
  clear hy927
  have H' := Aside0.mk H
  clear H
  try go_wp2
  have n0_ := Aside0.mk (r_e HO_5.out)
  have n1_ := Aside0.mk (g_e BK923.out)
  have n2_ := Aside0.mk (b_e HB.out)
  clear HO_5
  clear BK923
  clear HB
  have HO_5 := n0_
  have BK923 := n1_
  have HB := n2_
  clear n0_ n1_ n2_
  have p14 : 0 ≤ (x6_1 : Int) := of_decide_eq_true (by first | (with_reducible assumption) | assumption)
  have q14 : (x6_1 : Int) < ((x5_1.length : Int) : Int) := of_decide_eq_true (by first | (with_reducible assumption) | assumption)
  obtain ⟨go14, co14, eo14, gb14, gl14, cl14, HG14⟩ := Kd.R_form HO_5.out (by omega)
  (first | cases eo14 | (injection eo14 with ea_ en_ ec_; (first | subst ea_ | (injection ea_ with ea_; subst ea_)); subst ec_; clear en_))
  have GB14 := Aside0.mk gb14
  have GG14 := Aside0.mk HG14
  clear gb14 gl14 HG14
  obtain ⟨hx14_0, hf14_0⟩ := Kd.R_celln 0 HO_5.out (x6_1 : Int) p14 q14
  replace p14 := eq_true p14
  replace q14 := eq_true q14
  have HP16 := Kd.R_putn HO_5.out (x6_1 : Int) (Int.tmod x1_1 a0_1)
  rw [← Ny927.out] at HP16
  have HQ16 := Aside0.mk HP16
  clear HP16
  refine start_ (n := 13) (S := fun w' => w'.cell? ⟨gb923, 0, none⟩ = some (.int .i64 a0_0) ∧ w'.cell? ⟨gb923, 1, none⟩ = some (.int .i64 a0_1)) (ds := []) (bs_ 13 0) (by kernel_rfl) rfl rfl ⟨(blk_cell BK923.out 0).trans rfl, (blk_cell BK923.out 1).trans rfl⟩ (fun hHeld => ?_); refine with_tabW impl_Lock_code.tab5 impl_Lock_code.bits5 (fun HT_ HW_ => ?_)
  generalize wr.drew = w15 at HO_5 BK923 HB GG14 HQ16 hf14_0 hx14_0 hHeld ⊢
  refine pua 0 17 (bs_ 13 1) HT_ ?_
  refine pua 1 18 (bs_ 13 3) HT_ ?_
  refine pua 2 19 (bs_ 13 7) HT_ ?_
  refine pua 3 20 (bs_ 13 15) HT_ ?_
  refine pua 6 23 (bs_ 13 79) HT_ ?_
  refine pua 7 24 (bs_ 13 207) HT_ ?_
  refine tk_ 4 21 (bs_ 13 223) rfl rfl HT_ HW_ (by kernel_rfl) (fun _ _ _ h => h) (by rfl) hHeld (by rintro w' ⟨s0, s1⟩; go_simp; with_reducible rfl) (by simp only [Act.put, s_1, s_2, s_3, i64_w, i32_w]; rfl) ?_
  refine pua 5 22 (bs_ 13 255) HT_ ?_
  refine pua 10 27 (bs_ 13 1279) HT_ ?_
  refine tk_ 8 25 (bs_ 13 1535) rfl rfl HT_ HW_ (by kernel_rfl) (fun _ _ _ h => h) (by rfl) hHeld (by rintro w' ⟨s0, s1⟩; go_simp; with_reducible rfl) (by simp only [Act.put, s_1, s_2, s_3, i64_w, i32_w]; rfl) ?_
  refine pua 9 26 (bs_ 13 2047) HT_ ?_
  refine one_ (i := 11) (N := none) (bs_ 13 4095) rfl rfl (one_of HT_.out (by kernel_rfl)) (by decide) (fun K hK => ?_)
  refine skip_ (w1 := ?_) (by rfl) rfl ?_ ?_
  rotate_left
  · go_simp
    rfl
  refine hK.out _ _ ⟨((cell_far (p := ⟨go14, _, none⟩) (fun e_ => (Kd.R_ne HO_5.out BK923.out (by decide)) (congrArg some e_)) _).trans (hHeld.1)), ((cell_far (p := ⟨go14, _, none⟩) (fun e_ => (Kd.R_ne HO_5.out BK923.out (by decide)) (congrArg some e_)) _).trans (hHeld.2))⟩ (fun hHeld => ?_)
  clear hK K
  refine pua 12 1 (bs_ 13 8191) HT_ ?_
  refine done_ (done_of HT_.out (by kernel_rfl)) ?_
  try go_wp2
  go_roundg k1
  case measure => have := HK1.out; omega
  case rel => exact ⟨(wrap64 (Int.tdiv x1_1 a0_1)), (y927), (wrap64 (x6_1 - 1)), (by first | rfl | (simp; done) | (simp [*]; done)), (by first | rfl | (simp; done) | (simp [*]; done)), H', ⟨by have := HK1.out; omega⟩, ⟨by (with_reducible repeat (first | apply r_a | apply r_d | apply r_e)); exact HQ16.out⟩, ⟨by (with_reducible repeat (first | refine g_d ?_ _ | refine g_e ?_ | refine g_a ?_ _)); refine blk_far ?_ (by have h_ := Kd.R_ne HO_5.out BK923.out (by decide); intro e_; exact h_ (by rw [e_]; rfl)) _; (with_reducible repeat (first | refine g_d ?_ _ | refine g_e ?_ | refine g_a ?_ _)); exact BK923.out⟩, ⟨by repeat (first | (with_reducible first | exact HB.out | apply b_a | apply b_d | apply b_e | refine b_s ?_ GB14.out | refine b_s ?_ GE923.out) | exact HB.out)⟩⟩
/-! ### slices_Clone_string_string: function 134 (a text of our own) -/
def slices_Clone_string_string.f (l0 : List ByteArray) : Option (List ByteArray) := if 0 < l0.length then (if l0.length < 8796093022208 then some l0 else none) else none
set_option maxHeartbeats 8000000 in
set_option maxRecDepth 100000 in
theorem slices_Clone_string_string.calls (A0 : Option Addr) (c0 : Nat) (l0 : List ByteArray) (r : List ByteArray) (w : World) (hr0 : Kd.C Kd.string w A0 l0.length l0) (hc0 : l0.length ≤ c0) (h : slices_Clone_string_string.f l0 = some r) :
    Calls Try.prog 134 #[.slice A0 l0.length c0] w fun e w' => ∃ v0_ : Value, e = .returned (v0_) ∧ Kd.R Kd.string 9 w' w.heap.size (fun _ => True) v0_ r ∧ Below w.heap.size w w' := by
  have HR0 := Aside0.mk hr0
  clear hc0
  have HB := Aside0.mk (Below.refl w.heap.size w)
  unfold slices_Clone_string_string.f at h
  by_cases c1 : 0 < l0.length
  rotate_left
  · rw [if_neg c1] at h; exact absurd h (by simp)
  rw [if_pos c1] at h
  by_cases c2 : l0.length < 8796093022208
  rotate_left
  · rw [if_neg c2] at h; exact absurd h (by simp)
  rw [if_pos c2] at h
  obtain rfl := Option.some.inj h
  clear h
  have LM := Aside0.mk c2
  clear c2
  obtain ⟨ad, e_, _⟩ := Kd.at_string hr0 0 (by omega) (by omega)
  subst e_
  clear hr0 c1
  have hnil := fun (w : World) (a : Option Addr) (n c : Nat) => Lib.run_eql_slice_nil (P := Try.prog) w 24 9 a n c 0 0 Try.underlying24
  go_enter Try.func134, Try.ntmps134
  go_wp2_with (first | ((with_reducible refine gate_dst (N := 5) rfl ?_); refine Kd.R_lit Kd.string _ 9 ?hg (N := 5) ?hd (xs := ([] : List ByteArray)) (inner := []) (ok := fun _ => True) (okp := fun _ => True) ?hr ?hp (fun _ hk => hk) trivial (Below.refl _ _) (Nat.le_refl _) (by simp) ?_; (case hd => rfl); (case hg => rfl); (case hr => first | (go_simp; done) | (go_simp; rfl)); (case hp => exact (Reps.none _ _)); intro v849 w3 ho4 hb hg_ hnew_; clear hg_ hnew_; have HO := Aside0.mk (Kd.R_lower ho4 (below_size HB.out)); replace HB := Aside0.mk (below_step HB.out hb); clear hb ho4) | ((with_reducible refine gate_builtin (b := .append) (xs := #[.tmp 5, .tmp 6]) rfl ?_); at_builtin; refine Kd.R_append_rows Kd.string (w0 := w) w.heap.size rfl (.tmp 5) (.tmp 6) 24 9 (.string ⟨#[]⟩) 16 rfl Try.underlying24 info9 rfl (by decide) (by omega) v849 [] l0 _ _ _ (fun _ => True) (fun _ => False) rfl rfl ?aO ?aR (fun _ _ h => h) (fun _ h => h.elim) ?aF ?aB ?aS ?aL ?_; (case aR => exact (Kd.C_below HR0.out HB.out)); (case aB => exact HB.out); (case aF => exact (fun _ _ => trivial)); (case aO => exact HO.out); (case aS => exact (below_size HB.out)); (case aL => have := LM.out; simp only [List.length_nil]; omega); intro v852 w5 ho hb hg hat; rw [List.nil_append] at ho; replace HB := Aside0.mk hb; replace HO := Aside0.mk ho; clear ho hb hg hat))
  go_ret
  exact ⟨_, rfl, HO.out, HB.out⟩


end Go.Proofs.Ytihhiolflbieaaa.P
