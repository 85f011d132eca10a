-- Texts of this session's own program (wip/dr.py), which runs the kit's printer.
import Derived.Test.YtmpcefcgboljkaaPx0
import Derived.Test.YtmpcefcgboljkaaPx1
import Derived.Test.YtmpcefcgboljkaaPx20
namespace Go.Proofs.Ytmpcefcgboljkaa.P
open Go.RowKit Go.Proofs.YtmpcefcgboljkaaW.PrintWords Go.Proofs.YtmpcefcgboljkaaW.PrintLast Go.Proofs.YtmpcefcgboljkaaW.PrintMore
attribute [local go_sem] max2_int min2_int max_two min_two max_three min_three max_four min_four   -- for this text's walks alone
set_option linter.unusedVariables false
set_option linter.unusedSimpArgs false

/-! ### impl_PlaceInRing: function 7 -/
def impl_PlaceInRing.j0 : Nat → ByteArray → Bool → Int → Int → Option (Int × Bool)
  | 0, _, _, _, _ => none
  | k + 1, x1, x16, x183000, x183001 => if x16 = true then (some (0, false)) else ((impl_Lock_ring.f k x183000 x183001).bind fun t188 => (if 0 ≤ (wrap64 (x183000 - 1)) then (if (wrap64 (x183000 - 1)) ≤ (t188.size : Int) then (if t188.size + (t188.extract 0 ((wrap64 (x183000 - 1)) : Int).toNat).size ≤ 9223372036854775807 then ((strings_Index.f (t188 ++ (t188.extract 0 ((wrap64 (x183000 - 1)) : Int).toNat)) x1).bind fun t189 => (some (t189, true))) else (none)) else (none)) else (none)))
def impl_PlaceInRing.f (k : Nat) (a0_0 : Int) (a0_1 : Int) (a1 : ByteArray) : Option (Int × Bool) := (impl_isRounded.f k a0_0 a0_1).bind fun t183 => (if t183 = true then ((impl_has.f k a0_0 a0_1 (([a1] : List ByteArray))).bind fun t187 => (impl_PlaceInRing.j0 k a1 (!t187) a0_0 a0_1)) else (impl_PlaceInRing.j0 k a1 true a0_0 a0_1))
theorem impl_PlaceInRing.mono_l : ∀ k, (∀ y0 y1 y2 y3, LeO (impl_PlaceInRing.j0 k y0 y1 y2 y3) (impl_PlaceInRing.j0 (k + 1) y0 y1 y2 y3))
  | 0 => fun _ _ _ _ r h => by simp [impl_PlaceInRing.j0] at h
  | k + 1 => by
    have ih0 := impl_PlaceInRing.mono_l k
    · intro y0 y1 y2 y3
      unfold impl_PlaceInRing.j0
      repeat' first
      | (with_reducible exact ih0 _ _ _ _)
      | (with_reducible exact impl_Lock_ring.mono _ _ _)
      | (with_reducible exact impl_has.mono _ _ _ _)
      | (with_reducible exact impl_isRounded.mono _ _ _)
      | (with_reducible exact LeO.refl _)
      | (with_reducible exact LeO.none _)
      | (with_reducible refine LeO.ite ?_ ?_)
      | (with_reducible refine LeO.bind ?_ (fun _ => ?_))
      | exact ih0 _ _ _ _
      | exact impl_Lock_ring.mono _ _ _
      | exact impl_has.mono _ _ _ _
      | exact impl_isRounded.mono _ _ _
      | exact LeO.none _
      | refine LeO.ite ?_ ?_
      | refine LeO.bind ?_ (fun _ => ?_)
theorem impl_PlaceInRing.mono : ∀ a0 a1 a2 k, LeO (impl_PlaceInRing.f k a0 a1 a2) (impl_PlaceInRing.f (k + 1) a0 a1 a2) := by
  intro a0 a1 a2 k
  have ih0 := impl_PlaceInRing.mono_l k
  unfold impl_PlaceInRing.f
  repeat' first
      | (with_reducible exact ih0 _ _ _ _)
      | (with_reducible exact impl_Lock_ring.mono _ _ _)
      | (with_reducible exact impl_has.mono _ _ _ _)
      | (with_reducible exact impl_isRounded.mono _ _ _)
      | (with_reducible exact LeO.refl _)
      | (with_reducible exact LeO.none _)
      | (with_reducible refine LeO.ite ?_ ?_)
      | (with_reducible refine LeO.bind ?_ (fun _ => ?_))
      | exact ih0 _ _ _ _
      | exact impl_Lock_ring.mono _ _ _
      | exact impl_has.mono _ _ _ _
      | exact impl_isRounded.mono _ _ _
      | exact LeO.none _
      | refine LeO.ite ?_ ?_
      | refine LeO.bind ?_ (fun _ => ?_)
set_option maxHeartbeats 8000000 in
set_option maxRecDepth 100000 in
theorem impl_PlaceInRing.calls (k : Nat) (a0_0 : Int) (a0_1 : Int) (a1 : ByteArray) (r1 : Int) (r2 : Bool) (w : World) (hG : strings_Index.Gl w) (h : impl_PlaceInRing.f k a0_0 a0_1 a1 = some (r1, r2)) :
    Calls Try.prog 7 #[.agg #[.int .i64 a0_0, .int .i64 a0_1], .string a1] w fun e w' => e = .returned (.tuple #[.int .i64 r1, .bool r2]) ∧ Below w.heap.size w w' := by
  have HG := Aside0.mk hG
  clear hG
  have hu26 := Try.underlying26
  have HB := Aside0.mk (Below.refl w.heap.size w)
  have H : ((impl_isRounded.f k a0_0 a0_1).bind fun t183 => (if t183 = true then ((impl_has.f k a0_0 a0_1 (([a1] : List ByteArray))).bind fun t187 => (impl_PlaceInRing.j0 k a1 (!t187) a0_0 a0_1)) else (impl_PlaceInRing.j0 k a1 true a0_0 a0_1))) = some (r1, r2) := h
  clear h
  have HC3 := Aside0.mk H
  clear H
  go_enter Try.func7, Try.ntmps7
  go_upto_region 1 with (first | ((with_reducible refine gate_dst (N := 2) rfl ?_); (try (refine gate_guard (by rfl) ?_; dsimp only)); refine box_event ?hg (N := 2) ?hd (cs := #[.int .i64 a0_0, .int .i64 a0_1]) (t := 26) ?hr ?_; (case hd => rfl); (case hg => rfl); (case hr => first | (go_simp; done) | (go_simp; rfl)); intro gb182 hg w4 hbox hb; have n0_ := bsx hb HB; have n1_ := Aside0.mk (hbox); have n2_ := gwx hg HB; have n3_ := n2_; clear HB; have HB := n0_; have BK182 := n1_; have GW182 := n2_; have GE182 := n3_; clear n0_ n1_ n2_ n3_; clear hb hbox hg))
  (try simp only [Act.put, s_1, s_2, s_3])
  go_cut [16] (fun v16 wc => ∃ (kq : Nat) (x16_2 : Bool), v16 = .bool x16_2 ∧ Aside0 (impl_PlaceInRing.j0 kq a1 x16_2 a0_0 a0_1 = some (r1, r2)) ∧ Aside0 (kq ≤ k) ∧ Aside0 (wc.heap[gb182]? = some (.cells #[.int .i64 a0_0, .int .i64 a0_1] 26 (0, 0))) ∧ Aside0 (Below w.heap.size w wc))
  case first =>
    have H := HC3.out
    clear HC3
    replace H := Option.bind_eq_some_iff.mp H
    obtain ⟨t183, A50, H⟩ := H
    try dsimp only at H
    have A5 := Aside0.mk A50
    clear A50
    by_cases c6 : t183 = true
    rotate_left
    · replace c6 := Bool.eq_false_iff.mpr c6
      subst c6
      rw [if_neg (show ¬ (false = true) by decide)] at H
      have H' := Aside0.mk H
      clear H
      have hcz15_0 := cz0 BK182
      have hcz15_1 := cz1 BK182
      have hfz15_0 := blk_frozen BK182.out 0
      have hfz15_1 := blk_frozen BK182.out 1
      go_wp2_with (first | ((with_reducible refine gate_callee (f := 29) rfl ?_); refine goesL_ (some 8) rfl rfl Try.func29 (by kernel_rfl) rfl #[.agg #[.int .i64 a0_0, .int .i64 a0_1]] rfl (by (try simp only [m_1, m_2, m_3]); first | done | rfl | (simp only [m_4, m_5]; rfl)) ?_; (with_reducible refine (impl_isRounded.calls k a0_0 a0_1 false _ A5.out).mono ?_); rintro e w16 ⟨rfl, hb⟩; refine ⟨_, rfl, ?_⟩; replace BK182 := bbx hb BK182; replace HB := bsx hb HB; skip; (try clear hb); (try clear hb2); (try clear hk); (try clear hi)))
      go_meet
      case rel => exact ⟨_, (true), (by first | rfl | (simp; done) | (simp [*]; done)), H', ⟨by first | omega | exact Nat.le_refl _⟩, ⟨bK BK182⟩, ⟨bB HB⟩⟩
    subst c6
    rw [if_pos rfl] at H
    obtain ⟨y184, hy184⟩ : ∃ y_ : List ByteArray, y_ = (([a1] : List ByteArray)) := ⟨_, rfl⟩
    replace H : ((impl_has.f k a0_0 a0_1 y184).bind fun t187 => (impl_PlaceInRing.j0 k a1 (!t187) a0_0 a0_1)) = some (r1, r2) := by first | (rw [hy184]; with_reducible exact H) | (have H2_ := (Option.bind_some _ _).symm.trans H; rw [hy184]; with_reducible exact H2_) | (have H2_ := (Option.bind_some _ _).symm.trans H; with_reducible exact H2_) | with_reducible exact H | (rw [hy184]; exact H) | exact H
    have Ny184 := Aside0.mk hy184
    clear hy184
    replace H := Option.bind_eq_some_iff.mp H
    obtain ⟨t187, A70, H⟩ := H
    try dsimp only at H
    have A7 := Aside0.mk A70
    clear A70
    have H' := Aside0.mk H
    clear H
    have hcz8_0 := cz0 BK182
    have hcz8_1 := cz1 BK182
    have hfz8_0 := blk_frozen BK182.out 0
    have hfz8_1 := blk_frozen BK182.out 1
    go_wp2_with (first | ((with_reducible refine gate_callee (f := 29) rfl ?_); refine goesL_ (some 8) rfl rfl Try.func29 (by kernel_rfl) rfl #[.agg #[.int .i64 a0_0, .int .i64 a0_1]] rfl (by (try simp only [m_1, m_2, m_3]); first | done | rfl | (simp only [m_4, m_5]; rfl)) ?_; (with_reducible refine (impl_isRounded.calls k a0_0 a0_1 true _ A5.out).mono ?_); rintro e w9 ⟨rfl, hb⟩; refine ⟨_, rfl, ?_⟩; replace BK182 := bbx hb BK182; replace HB := bsx hb HB; skip; (try clear hb); (try clear hb2); (try clear hk); (try clear hi); have hcz10_0 := cz0 BK182; have hcz10_1 := cz1 BK182; have hfz10_0 := blk_frozen BK182.out 0; have hfz10_1 := blk_frozen BK182.out 1) | ((with_reducible refine gate_dst (N := 13) rfl ?_); (try (refine gate_guard (by rfl) ?_; dsimp only)); refine Kd.R_lit Kd.string _ 9 ?hg (N := 13) ?hd (xs := ([a1] : List ByteArray)) (inner := [.string a1]) (ok := fun _ => True) (okp := fun _ => True) ?hr ?hp (fun _ hk => hk) trivial (Below.refl _ _) (Nat.le_refl _) (by simp) ?_; (case hd => rfl); (case hg => rfl); (case hr => first | (go_simp; done) | (go_simp; rfl)); (case hp => exact (Reps.one (show Kd.M Kd.string _ _ _ a1 [.string a1] from rfl) (Reps.none _ _))); intro v185 w11 ho12 hb hg_ hnew_; clear hg_ hnew_; (first | rw [← Ny184.out] at ho12 | (simp only [Int.reduceToNat] at ho12; rw [← Ny184.out] at ho12)); have n0_ := Aside0.mk (Kd.R_lower ho12 (below_size (bB HB))); replace BK182 := bbx hb BK182; have n2_ := bsx hb HB; clear HB; have HO186 := n0_; have HB := n2_; clear n0_ n2_; clear hb ho12; obtain ⟨Ao13, co13, eo13⟩ := Kd.R_slice HO186.out; subst eo13) | (go_at_call 30; (with_reducible refine (impl_has.calls k a0_0 a0_1 _ _ y184 t187 _ ?side1 ?side2 A7.out).mono ?_); (case side1 => repeat (first | exact (Kd.R_reads' HO186.out).2.2 | (with_reducible refine Kd.C_alloc ?_ _) | (with_reducible refine Kd.C_drewN ?_ _) | (with_reducible refine Kd.C_drew ?_))); (case side2 => exact (Kd.R_reads' HO186.out).2.1); rintro e w14 ⟨rfl, hb⟩; have n0_ := Aside0.mk (Kd.R_below (by (with_reducible repeat (first | apply r_a | apply r_d | apply r_e)); exact HO186.out) hb); replace BK182 := bbx hb BK182; replace HB := bsx hb HB; clear HO186; have HO186 := n0_; clear n0_; (try clear hb); (try clear hb2); (try clear hk); (try clear hi)))
    go_meet
    case rel => exact ⟨_, (!t187), (by first | rfl | (simp; done) | (simp [*]; done)), H', ⟨by first | omega | exact Nat.le_refl _⟩, ⟨bK BK182⟩, ⟨bB HB⟩⟩
  clear HC3
  obtain ⟨kq, x16_2, rfl, HA, HJ2, BK182, HB⟩ := hcut
  rcases kq with _ | kj2
  · exact absurd HA.out (by simp [impl_PlaceInRing.j0])
  have H := HA.out
  clear HA
  simp only [impl_PlaceInRing.j0] at H
  by_cases c17 : x16_2 = true
  · subst c17
    rw [if_pos rfl] at H
    simp only [Option.some.injEq, Prod.mk.injEq] at H
    obtain ⟨rfl, rfl⟩ := H
    go_wp2
    go_ret2
    exact ⟨by first | rfl | (simp [errW_none, errW_some] <;> rfl) | (simp [*, errW_none, errW_some] <;> rfl), bB HB⟩
  replace c17 := Bool.eq_false_iff.mpr c17
  subst c17
  rw [if_neg (show ¬ (false = true) by decide)] at H
  replace H := Option.bind_eq_some_iff.mp H
  obtain ⟨t188, A180, H⟩ := H
  try dsimp only at H
  have A18 := Aside0.mk A180
  clear A180
  obtain ⟨ji19, hji19⟩ : ∃ j_ : Int, (wrap64 (a0_0 - 1)) = j_ := ⟨_, rfl⟩
  replace H : (if 0 ≤ (ji19) then (if (ji19) ≤ (t188.size : Int) then (if t188.size + (t188.extract 0 ((ji19) : Int).toNat).size ≤ 9223372036854775807 then ((strings_Index.f (t188 ++ (t188.extract 0 ((ji19) : Int).toNat)) a1).bind fun t189 => (some (t189, true))) else (none)) else (none)) else (none)) = some (r1, r2) := by first | (rw [hji19] at H; exact H) | (simp only [hji19] at H ⊢; exact H)
  (try rw [hji19] at A18)
  have hji19w : (IntKind.i64.wrap (a0_0 - 1)) = ji19 := (i64_w _).trans hji19
  by_cases c20 : 0 ≤ (ji19)
  rotate_left
  · rw [if_neg c20] at H
    exact absurd H (by simp)

  rw [if_pos c20] at H
  have c20b0 := eq_true c20
  have c20b1 : decide (0 ≤ (ji19)) = true := decide_eq_true c20
  clear c20
  by_cases c21 : (ji19) ≤ (t188.size : Int)
  rotate_left
  · rw [if_neg c21] at H
    exact absurd H (by simp)
  rw [if_pos c21] at H
  have c21b0 := eq_true c21
  have c21b1 : decide ((ji19) ≤ (t188.size : Int)) = true := decide_eq_true c21
  clear c21
  by_cases c22 : t188.size + (t188.extract 0 ((ji19) : Int).toNat).size ≤ 9223372036854775807
  rotate_left
  · rw [if_neg c22] at H
    exact absurd H (by simp)
  rw [if_pos c22] at H
  have c22b0 := eq_true c22
  have c22b1 : decide (t188.size + (t188.extract 0 ((ji19) : Int).toNat).size ≤ 9223372036854775807) = true := decide_eq_true c22
  try have c22b2 : (9223372036854775807 < t188.size + (t188.extract 0 ((ji19) : Int).toNat).size) = False := eq_false (Nat.not_lt.2 c22)
  have c22b3 : (9223372036854775807 < t188.size + ji19.toNat) = False := eq_false (by have e0_ : (t188.extract 0 ji19.toNat).size = ji19.toNat := (by rw [ByteArray.size_extract]; have q_ : ji19 ≤ (t188.size : Int) := of_eq_true (by assumption); omega); have h_ := c22; rw [e0_] at h_; omega)
  replace H := Option.bind_eq_some_iff.mp H
  obtain ⟨t189, A230, H⟩ := H
  try dsimp only at H
  have A23 := Aside0.mk A230
  clear A230
  simp only [Option.some.injEq, Prod.mk.injEq] at H
  obtain ⟨rfl, rfl⟩ := H
  have hcz24_0 := cz0 BK182
  have hcz24_1 := cz1 BK182
  have hfz24_0 := blk_frozen BK182.out 0
  have hfz24_1 := blk_frozen BK182.out 1
  go_wp2_with (first | ((with_reducible refine gate_callee (f := 31) rfl ?_); refine goesL_ (some 18) rfl rfl Try.func31 (by kernel_rfl) rfl #[.agg #[.int .i64 a0_0, .int .i64 a0_1]] rfl (by (try simp only [m_1, m_2, m_3]); first | done | rfl | (simp only [m_4, m_5]; rfl)) ?_; (with_reducible refine (impl_Lock_ring.calls kj2 a0_0 a0_1 t188 _ A18.out).mono ?_); rintro e w25 ⟨rfl, hb⟩; refine ⟨_, rfl, ?_⟩; replace BK182 := bbx hb BK182; replace HB := bsx hb HB; skip; (try clear hb); (try clear hb2); (try clear hk); (try clear hi); have hcz26_0 := cz0 BK182; have hcz26_1 := cz1 BK182; have hfz26_0 := blk_frozen BK182.out 0; have hfz26_1 := blk_frozen BK182.out 1) | ((with_reducible refine gate_callee (f := 32) rfl ?_); refine goesL_ (some 27) rfl rfl Try.func32 (by kernel_rfl) rfl #[.string (t188 ++ (t188.extract 0 ((ji19) : Int).toNat)), .string a1] rfl (by (try simp only [m_1, m_2, m_3]); first | done | (simp only [hji19]; rfl) | rfl | (simp only [m_4, m_5]; rfl)) ?_; (with_reducible refine (strings_Index.calls (t188 ++ (t188.extract 0 ((ji19) : Int).toNat)) a1 t189 _ (strings_Index.gl_below HG.out (bB HB)) A23.out).mono ?_); rintro e w' ⟨rfl, ⟨nd, rfl⟩⟩; refine ⟨_, rfl, ?_⟩))
  go_ret2
  exact ⟨by first | rfl | (simp [errW_none, errW_some] <;> rfl) | (simp only [← hji19]; first | rfl | (simp [errW_none, errW_some] <;> rfl)) | (simp [*, errW_none, errW_some] <;> rfl), bB HB⟩
end Go.Proofs.Ytmpcefcgboljkaa.P
