-- Texts of this session's own program (wip/dr.py), which runs the kit's printer.
import Derived.Test.YtihhiolflbieaaaPx0
import Derived.Test.YtihhiolflbieaaaPx75
import Derived.Test.YtihhiolflbieaaaPx164
namespace Go.Proofs.Ytihhiolflbieaaa.P
open Go.RowKit Go.Proofs.YtihhiolflbieaaaW.PrintWords Go.Proofs.YtihhiolflbieaaaW.PrintLast Go.Proofs.YtihhiolflbieaaaW.PrintMore
attribute [local go_sem] max2_int min2_int max_two min_two max_three min_three max_four min_four   -- for this text's walks alone
set_option linter.unusedVariables false
set_option linter.unusedSimpArgs false

/-! ### impl_field_far: function 100 -/
mutual
def impl_field_far.l0 : Nat → List Int → List Int → Int → Int → List Bool → Option (List Int)
  | 0, _, _, _, _, _ => none
  | k + 1, x5, x6, x1264000, x1264001, x1264002 => if (x6.length : Int) > 0 then (if 0 < (x6.length : Int) then ((impl_field_steps.f k x1264000 x1264001 x1264002 (rd x6 0)).bind fun t1275 => (impl_field_far.l1 k x5 x6 t1275 (t1275.length : Int) 0 x1264000 x1264001 x1264002)) else (none)) else (some x5)
def impl_field_far.l1 : Nat → List Int → List Int → List Int → Int → Int → Int → Int → List Bool → Option (List Int)
  | 0, _, _, _, _, _, _, _, _ => none
  | k + 1, x5, x6, x28, x29, x30, x1264000, x1264001, x1264002 => if x30 < x29 then (if 0 ≤ x30 then (if x30 < (x28.length : Int) then (if 0 ≤ (rd x28 x30) then (if (rd x28 x30) < (x5.length : Int) then (if (rd x5 (rd x28 x30)) < 0 then (if (rd x28 x30) < (x1264002.length : Int) then (if (rdOf false x1264002 (rd x28 x30) = true) then (impl_field_far.l1 k x5 x6 x28 x29 (wrap64 (x30 + 1)) x1264000 x1264001 x1264002) else (if 0 < (x6.length : Int) then (if 0 ≤ (rd x6 0) then (if (rd x6 0) < (x5.length : Int) then (if x6.length < 17592186044416 then (impl_field_far.l1 k (x5.set ((rd x28 x30) : Int).toNat (wrap64 ((rd x5 (rd x6 0)) + 1))) (x6 ++ [rd x28 x30]) x28 x29 (wrap64 (x30 + 1)) x1264000 x1264001 x1264002) else (none)) else (none)) else (none)) else (none))) else (none)) else (impl_field_far.l1 k x5 x6 x28 x29 (wrap64 (x30 + 1)) x1264000 x1264001 x1264002)) else (none)) else (none)) else (none)) else (none)) else (if 1 ≤ (x6.length : Int) then (impl_field_far.l0 k x5 (x6.drop (1 : Int).toNat) x1264000 x1264001 x1264002) else (none))
end
def impl_field_far.f (k : Nat) (a0_0 : Int) (a0_1 : Int) (l0_2 : List Bool) (a1 : Int) : Option (List Int) := (slices_Repeat_int_int.f (([(-1)] : List Int)) (l0_2.length : Int)).bind fun t1267 => (if 0 ≤ a1 then (if a1 < (t1267.length : Int) then (impl_field_far.l0 k (t1267.set (a1 : Int).toNat 0) (([a1] : List Int)) a0_0 a0_1 l0_2) else (none)) else (none))
theorem impl_field_far.mono_l : ∀ k, (∀ y0 y1 y2 y3 y4, LeO (impl_field_far.l0 k y0 y1 y2 y3 y4) (impl_field_far.l0 (k + 1) y0 y1 y2 y3 y4)) ∧ (∀ y0 y1 y2 y3 y4 y5 y6 y7, LeO (impl_field_far.l1 k y0 y1 y2 y3 y4 y5 y6 y7) (impl_field_far.l1 (k + 1) y0 y1 y2 y3 y4 y5 y6 y7))
  | 0 => ⟨fun _ _ _ _ _ r h => by simp [impl_field_far.l0] at h, fun _ _ _ _ _ _ _ _ r h => by simp [impl_field_far.l1] at h⟩
  | k + 1 => by
    obtain ⟨ih0, ih1⟩ := impl_field_far.mono_l k
    refine ⟨?_, ?_⟩
    rotate_left
    · intro y0 y1 y2 y3 y4 y5 y6 y7
      unfold impl_field_far.l1
      repeat' first
      | (with_reducible exact ih0 _ _ _ _ _)
      | (with_reducible exact ih1 _ _ _ _ _ _ _ _)
      | (with_reducible exact impl_field_steps.mono _ _ _ _ _)
      | (with_reducible exact LeO.refl _)
      | (with_reducible exact LeO.none _)
      | (with_reducible refine LeO.ite ?_ ?_)
      | (with_reducible refine LeO.bind ?_ (fun _ => ?_))
      | exact ih0 _ _ _ _ _
      | exact ih1 _ _ _ _ _ _ _ _
      | exact impl_field_steps.mono _ _ _ _ _
      | exact LeO.none _
      | refine LeO.ite ?_ ?_
      | refine LeO.bind ?_ (fun _ => ?_)
    intro y0 y1 y2 y3 y4
    unfold impl_field_far.l0
    repeat' first
    | (with_reducible exact ih0 _ _ _ _ _)
    | (with_reducible exact ih1 _ _ _ _ _ _ _ _)
    | (with_reducible exact impl_field_steps.mono _ _ _ _ _)
    | (with_reducible exact LeO.refl _)
    | (with_reducible exact LeO.none _)
    | (with_reducible refine LeO.ite ?_ ?_)
    | (with_reducible refine LeO.bind ?_ (fun _ => ?_))
    | exact ih0 _ _ _ _ _
    | exact ih1 _ _ _ _ _ _ _ _
    | exact impl_field_steps.mono _ _ _ _ _
    | exact LeO.none _
    | refine LeO.ite ?_ ?_
    | refine LeO.bind ?_ (fun _ => ?_)
theorem impl_field_far.mono : ∀ a0 a1 a2 a3 k, LeO (impl_field_far.f k a0 a1 a2 a3) (impl_field_far.f (k + 1) a0 a1 a2 a3) := by
  intro a0 a1 a2 a3 k
  obtain ⟨ih0, ih1⟩ := impl_field_far.mono_l k
  unfold impl_field_far.f
  repeat' first
      | (with_reducible exact ih0 _ _ _ _ _)
      | (with_reducible exact ih1 _ _ _ _ _ _ _ _)
      | (with_reducible exact impl_field_steps.mono _ _ _ _ _)
      | (with_reducible exact LeO.refl _)
      | (with_reducible exact LeO.none _)
      | (with_reducible refine LeO.ite ?_ ?_)
      | (with_reducible refine LeO.bind ?_ (fun _ => ?_))
      | exact ih0 _ _ _ _ _
      | exact ih1 _ _ _ _ _ _ _ _
      | exact impl_field_steps.mono _ _ _ _ _
      | exact LeO.none _
      | refine LeO.ite ?_ ?_
      | refine LeO.bind ?_ (fun _ => ?_)
set_option maxHeartbeats 8000000 in
set_option maxRecDepth 100000 in
theorem impl_field_far.calls (k : Nat) (a0_0 : Int) (a0_1 : Int) (A0_2 : Option Addr) (c0_2 : Nat) (l0_2 : List Bool) (a1 : Int) (r : List Int) (w : World) (hr0_2 : Kd.C Kd.bool w A0_2 l0_2.length l0_2) (hc0_2 : l0_2.length ≤ c0_2) (h : impl_field_far.f k a0_0 a0_1 l0_2 a1 = some r) :
    Calls Try.prog 100 #[.agg #[.int .i64 a0_0, .int .i64 a0_1, .slice A0_2 l0_2.length c0_2], .int .i64 a1] w fun e w' => ∃ v0_ : Value, e = .returned (v0_) ∧ Kd.R (Kd.int .i64) 3 w' w.heap.size (fun _ => True) v0_ r ∧ Below w.heap.size w w' := by
  have hu105 := Try.underlying105
  have HR0_2 := Aside0.mk hr0_2
  have HC0_2 := Aside0.mk hc0_2
  clear hr0_2 hc0_2
  have HB := Aside0.mk (Below.refl w.heap.size w)
  have H : ((slices_Repeat_int_int.f (([(-1)] : List Int)) (l0_2.length : Int)).bind fun t1267 => (if 0 ≤ a1 then (if a1 < (t1267.length : Int) then (impl_field_far.l0 k (t1267.set (a1 : Int).toNat 0) (([a1] : List Int)) a0_0 a0_1 l0_2) else (none)) else (none))) = some r := h
  clear h
  obtain ⟨y1264, hy1264⟩ : ∃ y_ : List Int, y_ = (([(-1)] : List Int)) := ⟨_, rfl⟩
  replace H : ((slices_Repeat_int_int.f y1264 (l0_2.length : Int)).bind fun t1267 => (if 0 ≤ a1 then (if a1 < (t1267.length : Int) then (impl_field_far.l0 k (t1267.set (a1 : Int).toNat 0) (([a1] : List Int)) a0_0 a0_1 l0_2) else (none)) else (none))) = some r := by first | (rw [hy1264]; with_reducible exact H) | (have H2_ := (Option.bind_some _ _).symm.trans H; rw [hy1264]; with_reducible exact H2_) | (have H2_ := (Option.bind_some _ _).symm.trans H; with_reducible exact H2_) | with_reducible exact H | (rw [hy1264]; exact H) | exact H
  have Ny1264 := Aside0.mk hy1264
  clear hy1264
  replace H := Option.bind_eq_some_iff.mp H
  obtain ⟨t1267, A30, H⟩ := H
  try dsimp only at H
  have A3 := Aside0.mk A30
  clear A30
  by_cases c4 : 0 ≤ a1
  rotate_left
  · rw [if_neg c4] at H
    exact absurd H (by simp)

  rw [if_pos c4] at H
  have c4b0 : decide (0 ≤ a1) = true := decide_eq_true c4
  clear c4
  by_cases c5 : a1 < (t1267.length : Int)
  rotate_left
  · rw [if_neg c5] at H
    exact absurd H (by simp)
  rw [if_pos c5] at H
  have c5b0 : decide (a1 < (t1267.length : Int)) = true := decide_eq_true c5
  clear c5
  obtain ⟨y1270, hy1270⟩ : ∃ y_ : List Int, y_ = (t1267.set (a1 : Int).toNat 0) := ⟨_, rfl⟩
  replace H : (impl_field_far.l0 k y1270 (([a1] : List Int)) a0_0 a0_1 l0_2) = some r := by first | (rw [hy1270]; with_reducible exact H) | (have H2_ := (Option.bind_some _ _).symm.trans H; rw [hy1270]; with_reducible exact H2_) | (have H2_ := (Option.bind_some _ _).symm.trans H; with_reducible exact H2_) | with_reducible exact H | (rw [hy1270]; exact H) | exact H
  have Ny1270 := Aside0.mk hy1270
  clear hy1270
  obtain ⟨y1271, hy1271⟩ : ∃ y_ : List Int, y_ = (([a1] : List Int)) := ⟨_, rfl⟩
  replace H : (impl_field_far.l0 k y1270 y1271 a0_0 a0_1 l0_2) = some r := by first | (rw [hy1271]; with_reducible exact H) | (have H2_ := (Option.bind_some _ _).symm.trans H; rw [hy1271]; with_reducible exact H2_) | (have H2_ := (Option.bind_some _ _).symm.trans H; with_reducible exact H2_) | with_reducible exact H | (rw [hy1271]; exact H) | exact H
  have Ny1271 := Aside0.mk hy1271
  clear hy1271
  have H' := Aside0.mk H
  clear H
  go_enter Try.func100, Try.ntmps100
  go_wp2_with (first | ((with_reducible refine gate_dst (N := 2) rfl ?_); refine box_event ?hg (N := 2) ?hd (cs := #[.int .i64 a0_0, .int .i64 a0_1, .slice A0_2 l0_2.length c0_2]) (t := 105) ?hr ?_; (case hd => rfl); (case hg => rfl); (case hr => first | (go_simp; done) | (go_simp; rfl)); intro gb1263 hg w7 hbox hb; have n0_ := bsx hb HB; have n1_ := Aside0.mk (hbox); have n2_ := gwx hg HB; have n3_ := n2_; clear HB; have HB := n0_; have BK1263 := n1_; have GW1263 := n2_; have GE1263 := n3_; clear n0_ n1_ n2_ n3_; clear hb hbox hg) | ((with_reducible refine gate_dst (N := 9) rfl ?_); refine Kd.R_lit (Kd.int .i64) _ 3 ?hg (N := 9) ?hd (xs := ([(-1)] : List Int)) (inner := [.int .i64 (-1)]) (ok := fun _ => True) (okp := fun _ => True) ?hr ?hp (fun _ hk => hk) trivial (Below.refl _ _) (Nat.le_refl _) (by simp) ?_; (case hd => rfl); (case hg => rfl); (case hr => first | (go_simp; done) | (go_simp; rfl)); (case hp => exact (Reps.one (show Kd.M (Kd.int .i64) _ _ _ (-1) [.int .i64 (-1)] from rfl) (Reps.none _ _))); intro v1265 w8 ho9 hb hg_ hnew_; clear hg_ hnew_; (first | rw [← Ny1264.out] at ho9 | (simp only [Int.reduceToNat] at ho9; rw [← Ny1264.out] at ho9)); have n0_ := Aside0.mk (Kd.R_lower ho9 (below_size (bB HB))); replace BK1263 := bbx hb BK1263; have n2_ := bsx hb HB; clear HB; have HO1266 := n0_; have HB := n2_; clear n0_ n2_; clear hb ho9; have hcz10_0 : w8.cell? ⟨gb1263, 0, none⟩ = some (.int .i64 a0_0) := (blk_cell BK1263.out 0).trans rfl; have hcz10_1 : w8.cell? ⟨gb1263, 1, none⟩ = some (.int .i64 a0_1) := (blk_cell BK1263.out 1).trans rfl; have hcz10_2 : w8.cell? ⟨gb1263, 2, none⟩ = some (.slice A0_2 l0_2.length c0_2) := (blk_cell BK1263.out 2).trans rfl; have hfz10_0 := blk_frozen BK1263.out 0; have hfz10_1 := blk_frozen BK1263.out 1; have hfz10_2 := blk_frozen BK1263.out 2; obtain ⟨Ao11, co11, eo11⟩ := Kd.R_slice HO1266.out; subst eo11) | ((with_reducible refine gate_callee (f := 120) rfl ?_); refine goesL_ (some 13) rfl rfl Try.func120 (by kernel_rfl) rfl #[.slice Ao11 y1264.length co11, .int .i64 (l0_2.length : Int)] rfl (by (try simp only [m_1, m_2, m_3]); first | done | rfl | (simp only [m_4, m_5]; rfl)) ?_; (with_reducible refine (slices_Repeat_int_int.calls _ _ y1264 (l0_2.length : Int) t1267 _ ?side1 ?side2 A3.out).mono ?_); (case side1 => repeat (first | exact (Kd.R_reads' HO1266.out).2.2 | (with_reducible refine Kd.C_alloc ?_ _) | (with_reducible refine Kd.C_drewN ?_ _) | (with_reducible refine Kd.C_drew ?_))); (case side2 => exact (Kd.R_reads' HO1266.out).2.1); rintro e w12 ⟨v1268, rfl, ho0, hb⟩; refine ⟨_, rfl, ?_⟩; have n0_ := Aside0.mk (Kd.R_elder' (by (with_reducible repeat (first | apply r_a | apply r_d | apply r_e)); exact HO1266.out) (Kd.R_base ho0) hb); have n1_ := Aside0.mk (Kd.R_lower (Kd.R_new' ho0 (Kd.R_lt (by (with_reducible repeat (first | apply r_a | apply r_d | apply r_e)); exact HO1266.out))) (below_size (bB HB))); replace BK1263 := bbx hb BK1263; have n3_ := bsx hb HB; clear HO1266; clear HB; have HO1266 := n0_; have HO1269 := n1_; have HB := n3_; clear n0_ n1_ n3_; (try clear hb); (try clear hb2); (try clear hk); (try clear hi); (try clear ho0); have p6 : 0 ≤ (a1 : Int) := of_decide_eq_true (by first | (with_reducible assumption) | assumption); have q6 : (a1 : Int) < ((t1267.length : Int) : Int) := of_decide_eq_true (by first | (with_reducible assumption) | assumption); obtain ⟨go6, co6, eo6, gb6, gl6, cl6, HG6⟩ := Kd.R_form HO1269.out (by omega); (first | cases eo6 | (injection eo6 with ea_ en_ ec_; (first | subst ea_ | (injection ea_ with ea_; subst ea_)); subst ec_; clear en_)); have GB6 := Aside0.mk gb6; have GG6 := Aside0.mk HG6; clear gb6 gl6 HG6; obtain ⟨hx6_0, hf6_0⟩ := Kd.R_celln 0 HO1269.out (a1 : Int) p6 q6; replace p6 := eq_true p6; replace q6 := eq_true q6; have n_ := Aside0.mk (Kd.R_mono (ok' := (fun k_ => some k_ ≠ (.slice Ao11 y1264.length co11 : Value).ownBlock)) HO1269.out (fun k_ hk => hk.2)); clear HO1269; have HO1269 := n_; clear n_; obtain ⟨hy13_, hz13_⟩ := Kd.R_celln 0 HO1269.out (a1 : Int) (of_decide_eq_true (by first | (with_reducible assumption) | assumption)) (of_decide_eq_true (by first | (with_reducible assumption) | assumption)); have HP13 := Kd.R_putg HO1269.out (a1 : Int) 0) | ((with_reducible refine gate_store (t := 3) (p := 16) rfl ?_); refine store_event (t := 3) (p := 16) (v := ?vo_w14) (w1 := (w12.setCell ⟨go6, (a1 : Int).toNat, none⟩ (.int .i64 0))) ?hg ?ho ?hn ?hr ?_; (case ho => rfl); (case hg => rfl); (case hn => rfl); (case hr => first | (go_simp; done) | (go_simp; rfl)); intro w14 hw; have hg : w12.grownBy w14 (some go6) := (by rw [hw]; exact HP13.2); have hp_ : Kd.R (Kd.int .i64) 3 w14 w.heap.size (fun k_ => some k_ ≠ (.slice Ao11 y1264.length co11 : Value).ownBlock) (.slice (some ⟨go6, 0, none⟩) t1267.length co6) y1270 := (by rw [hw, Ny1270.out]; exact HP13.1); clear HP13; have n0_ := Aside0.mk (blk_grown (g := gb1263) (o := .cells #[.int .i64 a0_0, .int .i64 a0_1, .slice A0_2 l0_2.length c0_2] 105 (0, 0)) (bK BK1263) hg (Kd.R_ne HO1269.out BK1263.out (by decide))); have n1_ := Aside0.mk (Kd.R_after (v := (.slice (some ⟨go6, 0, none⟩) t1267.length co6)) (v1 := (.slice (some ⟨go6, 0, none⟩) t1267.length co6)) (ok := (fun _ => True)) (by (with_reducible repeat (first | apply r_a | apply r_d | apply r_e)); exact HO1266.out) hg (.inl rfl)); have n2_ := Aside0.mk (hp_); have n3_ := Aside0.mk ((by rw [hw]; exact b_s (HB.out) GB6.out : Below w.heap.size w w14)); clear BK1263; clear HO1266; clear HO1269; clear HB; have BK1263 := n0_; have HO1266 := n1_; have HO1269 := n2_; have HB := n3_; clear n0_ n1_ n2_ n3_; clear hg hw hp_) | ((with_reducible refine gate_dst (N := 18) rfl ?_); refine Kd.R_lit (Kd.int .i64) _ 3 ?hg (N := 18) ?hd (xs := ([a1] : List Int)) (inner := [.int .i64 a1]) (ok := fun _ => True) (okp := fun _ => True) ?hr ?hp (fun _ hk => hk) trivial (Below.refl _ _) (Nat.le_refl _) (by simp) ?_; (case hd => rfl); (case hg => rfl); (case hr => first | (go_simp; done) | (go_simp; rfl)); (case hp => exact (Reps.one (show Kd.M (Kd.int .i64) _ _ _ a1 [.int .i64 a1] from rfl) (Reps.none _ _))); intro v1272 w15 ho16 hb hg_ hnew_; clear hg_ hnew_; (first | rw [← Ny1271.out] at ho16 | (simp only [Int.reduceToNat] at ho16; rw [← Ny1271.out] at ho16)); have n0_ := Aside0.mk (Kd.R_elder' (by (with_reducible repeat (first | apply r_a | apply r_d | apply r_e)); exact HO1266.out) (Kd.R_base ho16) hb); have n1_ := Aside0.mk (Kd.R_elder' (by (with_reducible repeat (first | apply r_a | apply r_d | apply r_e)); exact HO1269.out) (Kd.R_base ho16) hb); have n2_ := Aside0.mk (Kd.R_lower (Kd.R_new' (Kd.R_new' ho16 (Kd.R_lt (by (with_reducible repeat (first | apply r_a | apply r_d | apply r_e)); exact HO1266.out))) (Kd.R_lt (by (with_reducible repeat (first | apply r_a | apply r_d | apply r_e)); exact HO1269.out))) (below_size (bB HB))); replace BK1263 := bbx hb BK1263; have n4_ := bsx hb HB; clear HO1266; clear HO1269; clear HB; have HO1266 := n0_; have HO1269 := n1_; have HO1273 := n2_; have HB := n4_; clear n0_ n1_ n2_ n4_; clear hb ho16))
  go_loopg [6] k (fun kq v6 w' => ∃ (x5_1 : List Int) (x6_1 : List Int), Aside0 (impl_field_far.l0 kq x5_1 x6_1 a0_0 a0_1 l0_2 = some r) ∧ Aside0 (kq ≤ k) ∧ Aside0 (Kd.R (Kd.int .i64) 3 w' w.heap.size (fun k_ => some k_ ≠ (v6 : Value).ownBlock) (.slice (some ⟨go6, 0, none⟩) t1267.length co6) x5_1) ∧ Aside0 (Kd.Q (Kd.int .i64) 3 w' w.heap.size (fun k_ => some k_ ≠ ((.slice (some ⟨go6, 0, none⟩) t1267.length co6) : Value).ownBlock) v6 x6_1) ∧ Aside0 (w'.heap[gb1263]? = some (.cells #[.int .i64 a0_0, .int .i64 a0_1, (.slice A0_2 l0_2.length c0_2)] 105 (0, 0))) ∧ Aside0 (Below w.heap.size w w'))
  case atStart => exact ⟨(y1270), (y1271), H', ⟨Nat.le_refl _⟩, ⟨by (with_reducible repeat (first | apply r_a | apply r_d | apply r_e)); exact Kd.R_mono HO1269.out (fun _ hk => hk.2)⟩, ⟨Kd.Q_of_R (by (with_reducible repeat (first | apply r_a | apply r_d | apply r_e)); exact Kd.R_mono HO1273.out (fun _ hk => hk.2))⟩, ⟨bK BK1263⟩, ⟨bB HB⟩⟩
  clear H'
  try clear c4
  try clear c4b0
  try clear c5
  try clear c5b0
  try clear p6
  try clear q6
  try clear hcz10_0
  try clear hcz10_1
  try clear hcz10_2
  try clear hfz10_0
  try clear hfz10_1
  try clear hfz10_2
  try clear hx6_0
  obtain ⟨x5_1, x6_1, HA, HK1, HO_5, HO_6, BK1263, HB⟩ := hrel
  have hl5_1 := (Kd.R_reads' HO_5.out).1
  rw [hl5_1] at HO_5
  (try simp only [hl5_1])
  (try simp only [hl5_1] at BK1263)
  (try simp only [hl5_1] at HO_6)
  rcases gk with _ | k1
  · exact absurd HA.out (by simp [impl_field_far.l0])
  have H := HA.out
  clear HA
  simp only [impl_field_far.l0] at H
  by_cases c17 : (x6_1.length : Int) > 0
  rotate_left
  · rw [if_neg c17] at H
    have c17b0 : decide (0 < (x6_1.length : Int)) = false := decide_eq_false c17
    have c17b1 : decide (0 < x6_1.length) = false := decide_eq_false (by omega)
    clear c17
    obtain rfl := Option.some.inj H
    obtain ⟨Ao47, co47, eo47, _⟩ := Kd.Q_slice HO_6.out
    subst eo47
    go_wp2
    go_ret
    exact ⟨_, by first | rfl | (simp [errW_none, errW_some] <;> rfl) | (simp [*, errW_none, errW_some] <;> rfl), by (with_reducible repeat (first | apply r_a | apply r_d | apply r_e)); exact Kd.R_mono HO_5.out (fun _ hk => trivial), bB HB⟩
  rw [if_pos c17] at H
  have c17b0 : decide (0 < (x6_1.length : Int)) = true := decide_eq_true c17
  have c17b1 : decide (0 < x6_1.length) = true := decide_eq_true (by omega)
  clear c17
  by_cases c18 : 0 < (x6_1.length : Int)
  rotate_left
  · rw [if_neg c18] at H
    exact absurd H (by simp)
  rw [if_pos c18] at H
  have c18b0 : decide (0 < (x6_1.length : Int)) = true := decide_eq_true c18
  have c18b1 : decide (0 < x6_1.length) = true := decide_eq_true (by omega)
  clear c18
  replace H := Option.bind_eq_some_iff.mp H
  obtain ⟨t1275, A190, H⟩ := H
  try dsimp only at H
  have A19 := Aside0.mk A190
  clear A190
  have H' := Aside0.mk H
  clear H
  obtain ⟨Ao20, co20, eo20, _⟩ := Kd.Q_slice HO_6.out
  subst eo20
  try go_wp2
  have n0_ := Aside0.mk (r_e HO_5.out)
  have n1_ := Aside0.mk (Kd.Q_drew HO_6.out)
  have n2_ := Aside0.mk (g_e BK1263.out)
  have n3_ := Aside0.mk (b_e HB.out)
  clear HO_5
  clear HO_6
  clear BK1263
  clear HB
  have HO_5 := n0_
  have HO_6 := n1_
  have BK1263 := n2_
  have HB := n3_
  clear n0_ n1_ n2_ n3_
  have p1274 : 0 ≤ (0 : Int) := (by omega)
  have q1274 : 0 < (x6_1.length : Int) := of_decide_eq_true (by first | (with_reducible assumption) | assumption)
  obtain ⟨ad1274, e1274, hx1274_0⟩ := Kd.at_int (Kd.Q_reads' HO_6.out).2.2 0 p1274 q1274
  cases e1274
  have qi1274 : (0 < x6_1.length) = True := eq_true (by omega)
  (try rw [show ((0 : Int)).toNat = 0 from rfl] at hx1274_0)
  (try rw [Addr.add_zero'] at hx1274_0)
  replace p1274 := eq_true p1274
  replace q1274 := eq_true q1274
  refine start_ (n := 7) (S := fun w' => w'.cell? ⟨gb1263, 0, none⟩ = some (.int .i64 a0_0) ∧ w'.cell? ⟨gb1263, 1, none⟩ = some (.int .i64 a0_1) ∧ w'.cell? ⟨gb1263, 2, none⟩ = some (.slice A0_2 l0_2.length c0_2) ∧ w'.cell? ad1274 = some (.int .i64 (rd x6_1 0))) (ds := []) (bs_ 7 0) (by kernel_rfl) rfl rfl ⟨(blk_cell BK1263.out 0).trans rfl, (blk_cell BK1263.out 1).trans rfl, (blk_cell BK1263.out 2).trans rfl, hx1274_0⟩ (fun hHeld => ?_)
  generalize wr.drew = w21 at HO_5 HO_6 BK1263 HB hx1274_0 hHeld ⊢
  refine pure_ (i := 1) (N := some 25) (v := ?_) (a' := ?_) (bs_ 7 2) rfl rfl (by kernel_rfl) (fun _ _ _ h => h) (Or.inl ⟨by rfl, ?_⟩) ?_ ?_
  rotate_left
  · intro w'
    go_simp
    with_reducible rfl
  rotate_left
  · simp only [Act.put, s_1, s_2, s_3, i64_w, i32_w]
    rfl
  refine pure_ (i := 2) (N := some 26) (v := ?_) (a' := ?_) (bs_ 7 6) rfl rfl (by kernel_rfl) (fun _ _ _ h => h) (Or.inl ⟨by rfl, ?_⟩) ?_ ?_
  rotate_left
  · intro w'
    go_simp
    with_reducible rfl
  rotate_left
  · simp only [Act.put, s_1, s_2, s_3, i64_w, i32_w]
    rfl
  refine pure_ (i := 6) (N := some 30) (v := ?_) (a' := ?_) (bs_ 7 70) rfl rfl (by kernel_rfl) (fun _ _ _ h => h) (Or.inl ⟨by rfl, ?_⟩) ?_ ?_
  rotate_left
  · intro w'
    go_simp
    with_reducible rfl
  rotate_left
  · simp only [Act.put, s_1, s_2, s_3, i64_w, i32_w]
    rfl
  refine take_ (i := 0) (N := some 24) (v := ?_) (a' := ?_) (bs_ 7 71) rfl rfl (by kernel_rfl) (fun _ _ _ h => h) (Or.inl ⟨by rfl, ?_⟩) hHeld ?_ ?_
  rotate_left
  · rintro w' ⟨s0, s1, s2, s3⟩
    go_simp
    with_reducible rfl
  rotate_left
  · simp only [Act.put, s_1, s_2, s_3, i64_w, i32_w]
    rfl
  refine take_ (i := 3) (N := some 27) (v := ?_) (a' := ?_) (bs_ 7 79) rfl rfl (by kernel_rfl) (fun _ _ _ h => h) (Or.inl ⟨by rfl, ?_⟩) hHeld ?_ ?_
  rotate_left
  · rintro w' ⟨s0, s1, s2, s3⟩
    go_simp
    with_reducible rfl
  rotate_left
  · simp only [Act.put, s_1, s_2, s_3, i64_w, i32_w]
    rfl
  refine one_ (i := 4) (N := some 28) (bs_ 7 95) rfl rfl (by kernel_rfl) (by decide) (fun K hK => ?_)
  refine goes_ Try.func146 (by kernel_rfl) rfl #[.agg #[.int .i64 a0_0, .int .i64 a0_1, .slice A0_2 l0_2.length c0_2], .int .i64 (rd x6_1 0)] (by rfl) rfl rfl (by (try simp only [m_1, m_2, m_3]); first | done | rfl | (simp only [m_4, m_5]; rfl)) ?_
  with_reducible refine (impl_field_steps.calls k1 a0_0 a0_1 _ _ l0_2 (rd x6_1 0) t1275 _ ?side1 ?side2 A19.out).mono ?_
  (case side1 => repeat (first | exact (Kd.C_below HR0_2.out HB.out) | (with_reducible refine Kd.C_alloc ?_ _) | (with_reducible refine Kd.C_drewN ?_ _) | (with_reducible refine Kd.C_drew ?_)))
  (case side2 => exact HC0_2.out)
  rintro e w22 ⟨v1276, rfl, ho0, hb⟩
  have HS3_ := (hb.cell (World.block_lt_of_cell? _ _ (hHeld.2.2.2))).trans (hHeld.2.2.2)
  refine ⟨_, rfl, ?_⟩
  have n0_ := Aside0.mk (Kd.R_elder' (by (with_reducible repeat (first | apply r_a | apply r_d | apply r_e)); exact HO_5.out) (Kd.R_base ho0) hb)
  have n1_ := Aside0.mk (Kd.Q_elder' (by (with_reducible repeat (first | apply Kd.Q_alloc | apply Kd.Q_drewN | apply Kd.Q_drew)); exact HO_6.out) (Kd.R_base ho0) hb)
  have n2_ := Aside0.mk (Kd.R_lower (Kd.R_new' (Kd.R_new' ho0 (Kd.R_lt (by (with_reducible repeat (first | apply r_a | apply r_d | apply r_e)); exact HO_5.out))) (Kd.Q_lt (by (with_reducible repeat (first | apply Kd.Q_alloc | apply Kd.Q_drewN | apply Kd.Q_drew)); exact HO_6.out))) (below_size (bB HB)))
  have n3_ := bbx hb BK1263
  have n4_ := bsx hb HB
  clear HO_5
  clear HO_6
  clear BK1263
  clear HB
  have HO_5 := n0_
  have HO_6 := n1_
  have HO1277 := n2_
  have BK1263 := n3_
  have HB := n4_
  clear n0_ n1_ n2_ n3_ n4_
  (try clear hb)
  (try clear hb2)
  (try clear hk)
  (try clear hi)
  (try clear ho0)
  obtain ⟨Ao23, co23, eo23⟩ := Kd.R_slice HO1277.out
  (first | subst eo23 | (injection eo23 with f1_ f2_ f3_; have f4_ := f1_.symm; have f5_ := f3_.symm; clear f1_ f2_ f3_; subst f4_; subst f5_))
  refine hK.out _ _ ⟨(blk_cell BK1263.out 0).trans rfl, (blk_cell BK1263.out 1).trans rfl, (blk_cell BK1263.out 2).trans rfl, HS3_⟩ (fun hHeld => ?_)
  clear hK K
  refine norm_ (a' := ?_) ?_ ?_
  rotate_left
  · show Act.put _ (some 28) _ = _
    simp only [Act.put, s_1, s_2, s_3, i64_w, i32_w]
    rfl
  refine pure_ (i := 5) (N := some 29) (v := ?_) (a' := ?_) (bs_ 7 127) rfl rfl (by kernel_rfl) (fun _ _ _ h => h) (Or.inl ⟨by rfl, ?_⟩) ?_ ?_
  rotate_left
  · intro w'
    go_simp
    with_reducible rfl
  rotate_left
  · simp only [Act.put, s_1, s_2, s_3, i64_w, i32_w]
    rfl
  refine done_ (by kernel_rfl) ?_
  try go_wp2
  go_loopg [6, 30] k1 (fun kq v6 v30 w' => ∃ (x5_2 : List Int) (x6_2 : List Int) (x30_2 : Int), v30 = .int .i64 x30_2 ∧ Aside0 (impl_field_far.l1 kq x5_2 x6_2 t1275 (t1275.length : Int) x30_2 a0_0 a0_1 l0_2 = some r) ∧ Aside0 (kq ≤ k1) ∧ Aside0 (Kd.R (Kd.int .i64) 3 w' w.heap.size (fun k_ => some k_ ≠ (v6 : Value).ownBlock ∧ some k_ ≠ ((.slice Ao23 t1275.length co23) : Value).ownBlock) (.slice (some ⟨go6, 0, none⟩) x5_1.length co6) x5_2) ∧ Aside0 (Kd.Q (Kd.int .i64) 3 w' w.heap.size (fun k_ => some k_ ≠ ((.slice (some ⟨go6, 0, none⟩) x5_1.length co6) : Value).ownBlock ∧ some k_ ≠ ((.slice Ao23 t1275.length co23) : Value).ownBlock) v6 x6_2) ∧ Aside0 (Kd.R (Kd.int .i64) 3 w' w.heap.size (fun k_ => some k_ ≠ ((.slice (some ⟨go6, 0, none⟩) x5_1.length co6) : Value).ownBlock ∧ some k_ ≠ (v6 : Value).ownBlock) (.slice Ao23 t1275.length co23) t1275) ∧ Aside0 (w'.heap[gb1263]? = some (.cells #[.int .i64 a0_0, .int .i64 a0_1, (.slice A0_2 l0_2.length c0_2)] 105 (0, 0))) ∧ Aside0 (Below w.heap.size w w'))
  case atStart => exact ⟨(x5_1), (x6_1), (0), (by first | rfl | (simp; done) | (simp [*]; done)), H', ⟨Nat.le_refl _⟩, ⟨by (try simp only [hl5_1]); (with_reducible repeat (first | apply r_a | apply r_d | apply r_e)); exact HO_5.out⟩, ⟨by (try simp only [hl5_1]); (with_reducible repeat (first | apply Kd.Q_alloc | apply Kd.Q_drewN | apply Kd.Q_drew)); exact HO_6.out⟩, ⟨by (try simp only [hl5_1]); (with_reducible repeat (first | apply r_a | apply r_d | apply r_e)); exact Kd.R_mono HO1277.out (fun _ hk => ⟨hk.1.2, hk.2⟩)⟩, ⟨by (try simp only [hl5_1]); (with_reducible repeat (first | refine g_d ?_ _ | refine g_e ?_ | refine g_a ?_ _)); exact BK1263.out⟩, ⟨bB HB⟩⟩
  clear H'
  try clear c17
  try clear c17b0
  try clear c17b1
  try clear c18
  try clear c18b0
  try clear c18b1
  try clear hx1274_0
  try clear p1274
  try clear q1274
  obtain ⟨x5_2, x6_2, x30_2, rfl, HA, HK2, HO_5, HO_6, HO_28, BK1263, HB⟩ := hrel
  have hl5_2 := (Kd.R_reads' HO_5.out).1
  rw [hl5_2] at HO_5
  (try simp only [hl5_2])
  (try simp only [hl5_2] at BK1263)
  (try simp only [hl5_2] at HO_6)
  (try simp only [hl5_2] at HO_28)
  rcases gk with _ | k2
  · exact absurd HA.out (by simp [impl_field_far.l1])
  have H := HA.out
  clear HA
  simp only [impl_field_far.l1] at H
  by_cases c24 : x30_2 < (t1275.length : Int)
  rotate_left
  · rw [if_neg c24] at H
    have c24b0 : decide (x30_2 < (t1275.length : Int)) = false := decide_eq_false c24
    clear c24
    by_cases c44 : 1 ≤ (x6_2.length : Int)
    rotate_left
    · rw [if_neg c44] at H
      exact absurd H (by simp)
    rw [if_pos c44] at H
    have c44b0 := eq_true c44
    have c44b1 : decide (1 ≤ (x6_2.length : Int)) = true := decide_eq_true c44
    clear c44
    obtain ⟨y1287, hy1287⟩ : ∃ y_ : List Int, y_ = (x6_2.drop (1 : Int).toNat) := ⟨_, rfl⟩
    replace H : (impl_field_far.l0 k2 x5_2 y1287 a0_0 a0_1 l0_2) = some r := by first | (rw [hy1287]; with_reducible exact H) | (have H2_ := (Option.bind_some _ _).symm.trans H; rw [hy1287]; with_reducible exact H2_) | (have H2_ := (Option.bind_some _ _).symm.trans H; with_reducible exact H2_) | with_reducible exact H | (rw [hy1287]; exact H) | exact H
    have Ny1287 := Aside0.mk hy1287
    clear hy1287
    have H' := Aside0.mk H
    clear H
    obtain ⟨Ao45, co45, eo45, _⟩ := Kd.Q_slice HO_6.out
    subst eo45
    have q46 : (1 : Int) ≤ ((x6_2.length : Int) : Int) := of_decide_eq_true (by first | (with_reducible assumption) | assumption)
    obtain ⟨i046, hi046, _, hsz46, _⟩ := info_parts info3
    have hcut46 := cut_from (P := Try.prog) 72 3 .i64 Try.underlying72 hi046 1 hsz46 Ao45 x6_2.length co45 1 (by omega) q46
    have hr46 := Kd.Q_drop (k := (1 : Int).toNat) HO_6.out (by omega)
    obtain ⟨A46, hA46⟩ : ∃ A1, A1 = (if co45 = (1 : Int).toNat then Ao45 else (Ao45 : Option Addr).map (·.add ((1 : Int).toNat * 1))) := ⟨_, rfl⟩
    obtain ⟨c46, hc46⟩ : ∃ c1, c1 = co45 - (1 : Int).toNat := ⟨_, rfl⟩
    have hy46 : y1287.length = x6_2.length - (1 : Int).toNat := (by rw [Ny1287.out, m_4])
    rw [← Ny1287.out] at hr46
    rw [← hy46, ← hA46, ← hc46] at hcut46
    replace hr46 : Kd.Q (Kd.int .i64) 3 wr w.heap.size (fun k_ => some k_ ≠ (.slice (some ⟨go6, 0, none⟩) x5_2.length co6 : Value).ownBlock ∧ some k_ ≠ (.slice Ao23 t1275.length co23 : Value).ownBlock) (.slice A46 y1287.length c46) y1287 := (by rw [hA46, hc46, hy46]; exact hr46)
    have HE46 : Aside0 ((Value.slice A46 y1287.length c46).ownBlock = (.slice Ao45 x6_2.length co45 : Value).ownBlock) := ⟨by rw [hA46]; split <;> (cases (Ao45 : Option Addr) <;> rfl)⟩
    clear hy46 hi046 hsz46 HO_6 hA46 hc46
    have HO1289 := Aside0.mk hr46
    clear hr46
    replace q46 := eq_true q46
    have n_ := Aside0.mk (Kd.R_mono (ok' := fun k_ => (some k_ ≠ (.slice A46 y1287.length c46 : Value).ownBlock ∧ some k_ ≠ (.slice Ao23 t1275.length co23 : Value).ownBlock)) HO_5.out (fun k_ hk => ⟨(by rw [HE46.out]; exact hk.1), hk.2⟩))
    clear HO_5
    have HO_5 := n_
    clear n_
    have n_ := Aside0.mk (Kd.R_mono (ok' := fun k_ => (some k_ ≠ (.slice (some ⟨go6, 0, none⟩) x5_2.length co6 : Value).ownBlock ∧ some k_ ≠ (.slice A46 y1287.length c46 : Value).ownBlock)) HO_28.out (fun k_ hk => ⟨hk.1, (by rw [HE46.out]; exact hk.2)⟩))
    clear HO_28
    have HO_28 := n_
    clear n_
    go_wp2
    (try simp only [← hl5_1, ← hl5_2])
    go_roundg k2
    case measure => have := HK1.out; have := HK2.out; omega
    case rel => exact ⟨(x5_2), (y1287), H', ⟨by have := HK1.out; have := HK2.out; omega⟩, ⟨by (try simp only [hl5_1]); (try simp only [hl5_2]); (with_reducible repeat (first | apply r_a | apply r_d | apply r_e)); exact Kd.R_mono HO_5.out (fun _ hk => hk.1)⟩, ⟨by (try simp only [hl5_1]); (try simp only [hl5_2]); (with_reducible repeat (first | apply Kd.Q_alloc | apply Kd.Q_drewN | apply Kd.Q_drew)); exact Kd.Q_mono HO1289.out (fun _ hk => hk.1)⟩, ⟨by (try simp only [hl5_1]); (try simp only [hl5_2]); (with_reducible repeat (first | refine g_d ?_ _ | refine g_e ?_ | refine g_a ?_ _)); exact BK1263.out⟩, ⟨bB HB⟩⟩
  rw [if_pos c24] at H
  have c24b0 : decide (x30_2 < (t1275.length : Int)) = true := decide_eq_true c24
  clear c24
  by_cases c25 : 0 ≤ x30_2
  rotate_left
  · rw [if_neg c25] at H
    exact absurd H (by simp)
  rw [if_pos c25] at H
  have c25b0 : decide (0 ≤ x30_2) = true := decide_eq_true c25
  clear c25
  by_cases c26 : x30_2 < (t1275.length : Int)
  rotate_left
  · rw [if_neg c26] at H
    exact absurd H (by simp)
  rw [if_pos c26] at H
  have c26b0 : decide (x30_2 < (t1275.length : Int)) = true := decide_eq_true c26
  clear c26
  by_cases c27 : 0 ≤ (rd t1275 x30_2)
  rotate_left
  · rw [if_neg c27] at H
    exact absurd H (by simp)
  rw [if_pos c27] at H
  have c27b0 : decide (0 ≤ (rd t1275 x30_2)) = true := decide_eq_true c27
  clear c27
  by_cases c28 : (rd t1275 x30_2) < (x5_2.length : Int)
  rotate_left
  · rw [if_neg c28] at H
    exact absurd H (by simp)
  rw [if_pos c28] at H
  have c28b0 : decide ((rd t1275 x30_2) < (x5_2.length : Int)) = true := decide_eq_true c28
  clear c28
  by_cases c29 : (rd x5_2 (rd t1275 x30_2)) < 0
  rotate_left
  · rw [if_neg c29] at H
    have c29b0 : decide ((rd x5_2 (rd t1275 x30_2)) < 0) = false := decide_eq_false c29
    clear c29
    have H' := Aside0.mk H
    clear H
    have p1278 : 0 ≤ (x30_2 : Int) := of_decide_eq_true (by first | (with_reducible assumption) | assumption)
    have q1278 : x30_2 < (t1275.length : Int) := of_decide_eq_true (by first | (with_reducible assumption) | assumption)
    obtain ⟨ad1278, e1278, hx1278_0⟩ := Kd.at_int (Kd.R_reads' HO_28.out).2.2 x30_2 p1278 q1278
    cases e1278
    replace p1278 := eq_true p1278
    replace q1278 := eq_true q1278
    have p1279 : 0 ≤ ((rd t1275 x30_2) : Int) := of_decide_eq_true (by first | (with_reducible assumption) | assumption)
    have q1279 : (rd t1275 x30_2) < (x5_2.length : Int) := of_decide_eq_true (by first | (with_reducible assumption) | assumption)
    obtain ⟨ad1279, e1279, hx1279_0⟩ := Kd.at_int (Kd.R_reads' HO_5.out).2.2 (rd t1275 x30_2) p1279 q1279
    obtain rfl : (⟨go6, 0, none⟩ : Addr) = ad1279 := (by injection e1279)
    (first | simp only [add_plain] at hx1279_0 | simp only [add_at] at hx1279_0 | simp only [Addr.add, Nat.zero_add] at hx1279_0 | skip)
    replace p1279 := eq_true p1279
    replace q1279 := eq_true q1279
    go_wp2
    (try simp only [← hl5_2])
    go_roundg k2
    case measure => have := HK1.out; have := HK2.out; omega
    case rel => exact ⟨(x5_2), (x6_2), (wrap64 (x30_2 + 1)), (by first | rfl | (simp; done) | (simp [*]; done)), H', ⟨by have := HK1.out; have := HK2.out; omega⟩, ⟨by (try simp only [hl5_1]); (try simp only [hl5_2]); (with_reducible repeat (first | apply r_a | apply r_d | apply r_e)); exact HO_5.out⟩, ⟨by (try simp only [hl5_1]); (try simp only [hl5_2]); (with_reducible repeat (first | apply Kd.Q_alloc | apply Kd.Q_drewN | apply Kd.Q_drew)); exact HO_6.out⟩, ⟨by (try simp only [hl5_1]); (try simp only [hl5_2]); (with_reducible repeat (first | apply r_a | apply r_d | apply r_e)); exact HO_28.out⟩, ⟨by (try simp only [hl5_1]); (try simp only [hl5_2]); (with_reducible repeat (first | refine g_d ?_ _ | refine g_e ?_ | refine g_a ?_ _)); exact BK1263.out⟩, ⟨bB HB⟩⟩
  rw [if_pos c29] at H
  have c29b0 : decide ((rd x5_2 (rd t1275 x30_2)) < 0) = true := decide_eq_true c29
  clear c29
  by_cases c30 : (rd t1275 x30_2) < (l0_2.length : Int)
  rotate_left
  · rw [if_neg c30] at H
    exact absurd H (by simp)
  rw [if_pos c30] at H
  have c30b0 : decide ((rd t1275 x30_2) < (l0_2.length : Int)) = true := decide_eq_true c30
  clear c30
  obtain ⟨bq31, hbq31⟩ : ∃ b_ : Bool, b_ = (rdOf false l0_2 (rd t1275 x30_2)) := ⟨_, rfl⟩
  replace H : (if (bq31 = true) then (impl_field_far.l1 k2 x5_2 x6_2 t1275 (t1275.length : Int) (wrap64 (x30_2 + 1)) a0_0 a0_1 l0_2) else (if 0 < (x6_2.length : Int) then (if 0 ≤ (rd x6_2 0) then (if (rd x6_2 0) < (x5_2.length : Int) then (if x6_2.length < 17592186044416 then (impl_field_far.l1 k2 (x5_2.set ((rd t1275 x30_2) : Int).toNat (wrap64 ((rd x5_2 (rd x6_2 0)) + 1))) (x6_2 ++ [rd t1275 x30_2]) t1275 (t1275.length : Int) (wrap64 (x30_2 + 1)) a0_0 a0_1 l0_2) else (none)) else (none)) else (none)) else (none))) = some r := by rw [← hbq31] at H; exact H
  have Nbq31 := Aside0.mk hbq31
  clear hbq31
  by_cases c32 : (bq31 = true)
  · subst c32
    rw [if_pos rfl] at H
    have H' := Aside0.mk H
    clear H
    have p1278 : 0 ≤ (x30_2 : Int) := of_decide_eq_true (by first | (with_reducible assumption) | assumption)
    have q1278 : x30_2 < (t1275.length : Int) := of_decide_eq_true (by first | (with_reducible assumption) | assumption)
    obtain ⟨ad1278, e1278, hx1278_0⟩ := Kd.at_int (Kd.R_reads' HO_28.out).2.2 x30_2 p1278 q1278
    cases e1278
    replace p1278 := eq_true p1278
    replace q1278 := eq_true q1278
    have p1279 : 0 ≤ ((rd t1275 x30_2) : Int) := of_decide_eq_true (by first | (with_reducible assumption) | assumption)
    have q1279 : (rd t1275 x30_2) < (x5_2.length : Int) := of_decide_eq_true (by first | (with_reducible assumption) | assumption)
    obtain ⟨ad1279, e1279, hx1279_0⟩ := Kd.at_int (Kd.R_reads' HO_5.out).2.2 (rd t1275 x30_2) p1279 q1279
    obtain rfl : (⟨go6, 0, none⟩ : Addr) = ad1279 := (by injection e1279)
    (first | simp only [add_plain] at hx1279_0 | simp only [add_at] at hx1279_0 | simp only [Addr.add, Nat.zero_add] at hx1279_0 | skip)
    replace p1279 := eq_true p1279
    replace q1279 := eq_true q1279
    have hcz33_0 : wr.cell? ⟨gb1263, 0, none⟩ = some (.int .i64 a0_0) := (blk_cell BK1263.out 0).trans rfl
    have hcz33_1 : wr.cell? ⟨gb1263, 1, none⟩ = some (.int .i64 a0_1) := (blk_cell BK1263.out 1).trans rfl
    have hcz33_2 : wr.cell? ⟨gb1263, 2, none⟩ = some (.slice A0_2 l0_2.length c0_2) := (blk_cell BK1263.out 2).trans rfl
    have hfz33_0 := blk_frozen BK1263.out 0
    have hfz33_1 := blk_frozen BK1263.out 1
    have hfz33_2 := blk_frozen BK1263.out 2
    have p1280 : 0 ≤ ((rd t1275 x30_2) : Int) := of_decide_eq_true (by first | (with_reducible assumption) | assumption)
    have q1280 : (rd t1275 x30_2) < (l0_2.length : Int) := of_decide_eq_true (by first | (with_reducible assumption) | assumption)
    obtain ⟨ad1280, e1280, hx1280_0⟩ := Kd.at_bool HR0_2.out (rd t1275 x30_2) p1280 q1280
    (try rw [← Nbq31.out] at hx1280_0)
    cases e1280
    replace hx1280_0 := (HB.out.cell (World.block_lt_of_cell? w _ hx1280_0)).trans hx1280_0
    replace p1280 := eq_true p1280
    replace q1280 := eq_true q1280
    go_wp2
    (try simp only [← hl5_2])
    go_roundg k2
    case measure => have := HK1.out; have := HK2.out; omega
    case rel => exact ⟨(x5_2), (x6_2), (wrap64 (x30_2 + 1)), (by first | rfl | (simp; done) | (simp [*]; done)), H', ⟨by have := HK1.out; have := HK2.out; omega⟩, ⟨by (try simp only [hl5_1]); (try simp only [hl5_2]); (with_reducible repeat (first | apply r_a | apply r_d | apply r_e)); exact HO_5.out⟩, ⟨by (try simp only [hl5_1]); (try simp only [hl5_2]); (with_reducible repeat (first | apply Kd.Q_alloc | apply Kd.Q_drewN | apply Kd.Q_drew)); exact HO_6.out⟩, ⟨by (try simp only [hl5_1]); (try simp only [hl5_2]); (with_reducible repeat (first | apply r_a | apply r_d | apply r_e)); exact HO_28.out⟩, ⟨by (try simp only [hl5_1]); (try simp only [hl5_2]); (with_reducible repeat (first | refine g_d ?_ _ | refine g_e ?_ | refine g_a ?_ _)); exact BK1263.out⟩, ⟨bB HB⟩⟩
  replace c32 := Bool.eq_false_iff.mpr c32
  subst c32
  rw [if_neg (show ¬ (false = true) by decide)] at H
  by_cases c34 : 0 < (x6_2.length : Int)
  rotate_left
  · rw [if_neg c34] at H
    exact absurd H (by simp)
  rw [if_pos c34] at H
  have c34b0 : decide (0 < (x6_2.length : Int)) = true := decide_eq_true c34
  have c34b1 : decide (0 < x6_2.length) = true := decide_eq_true (by omega)
  clear c34
  by_cases c35 : 0 ≤ (rd x6_2 0)
  rotate_left
  · rw [if_neg c35] at H
    exact absurd H (by simp)
  rw [if_pos c35] at H
  have c35b0 : decide (0 ≤ (rd x6_2 0)) = true := decide_eq_true c35
  clear c35
  by_cases c36 : (rd x6_2 0) < (x5_2.length : Int)
  rotate_left
  · rw [if_neg c36] at H
    exact absurd H (by simp)
  rw [if_pos c36] at H
  have c36b0 : decide ((rd x6_2 0) < (x5_2.length : Int)) = true := decide_eq_true c36
  clear c36
  obtain ⟨y1283, hy1283⟩ : ∃ y_ : List Int, y_ = (x5_2.set ((rd t1275 x30_2) : Int).toNat (wrap64 ((rd x5_2 (rd x6_2 0)) + 1))) := ⟨_, rfl⟩
  replace H : (if x6_2.length < 17592186044416 then (impl_field_far.l1 k2 y1283 (x6_2 ++ [rd t1275 x30_2]) t1275 (t1275.length : Int) (wrap64 (x30_2 + 1)) a0_0 a0_1 l0_2) else (none)) = some r := by first | (rw [hy1283]; with_reducible exact H) | (have H2_ := (Option.bind_some _ _).symm.trans H; rw [hy1283]; with_reducible exact H2_) | (have H2_ := (Option.bind_some _ _).symm.trans H; with_reducible exact H2_) | with_reducible exact H | (rw [hy1283]; exact H) | exact H
  have Ny1283 := Aside0.mk hy1283
  clear hy1283
  by_cases c38 : x6_2.length < 17592186044416
  rotate_left
  · rw [if_neg c38] at H
    exact absurd H (by simp)
  rw [if_pos c38] at H
  have LMc38 := Aside0.mk c38
  clear c38
  obtain ⟨y1284, hy1284⟩ : ∃ y_ : List Int, y_ = (x6_2 ++ [rd t1275 x30_2]) := ⟨_, rfl⟩
  replace H : (impl_field_far.l1 k2 y1283 y1284 t1275 (t1275.length : Int) (wrap64 (x30_2 + 1)) a0_0 a0_1 l0_2) = some r := by first | (rw [hy1284]; with_reducible exact H) | (have H2_ := (Option.bind_some _ _).symm.trans H; rw [hy1284]; with_reducible exact H2_) | (have H2_ := (Option.bind_some _ _).symm.trans H; with_reducible exact H2_) | with_reducible exact H | (rw [hy1284]; exact H) | exact H
  have Ny1284 := Aside0.mk hy1284
  clear hy1284
  have H' := Aside0.mk H
  clear H
  have p1278 : 0 ≤ (x30_2 : Int) := of_decide_eq_true (by first | (with_reducible assumption) | assumption)
  have q1278 : x30_2 < (t1275.length : Int) := of_decide_eq_true (by first | (with_reducible assumption) | assumption)
  obtain ⟨ad1278, e1278, hx1278_0⟩ := Kd.at_int (Kd.R_reads' HO_28.out).2.2 x30_2 p1278 q1278
  cases e1278
  replace p1278 := eq_true p1278
  replace q1278 := eq_true q1278
  have p1279 : 0 ≤ ((rd t1275 x30_2) : Int) := of_decide_eq_true (by first | (with_reducible assumption) | assumption)
  have q1279 : (rd t1275 x30_2) < (x5_2.length : Int) := of_decide_eq_true (by first | (with_reducible assumption) | assumption)
  obtain ⟨ad1279, e1279, hx1279_0⟩ := Kd.at_int (Kd.R_reads' HO_5.out).2.2 (rd t1275 x30_2) p1279 q1279
  obtain rfl : (⟨go6, 0, none⟩ : Addr) = ad1279 := (by injection e1279)
  (first | simp only [add_plain] at hx1279_0 | simp only [add_at] at hx1279_0 | simp only [Addr.add, Nat.zero_add] at hx1279_0 | skip)
  replace p1279 := eq_true p1279
  replace q1279 := eq_true q1279
  have hcz39_0 : wr.cell? ⟨gb1263, 0, none⟩ = some (.int .i64 a0_0) := (blk_cell BK1263.out 0).trans rfl
  have hcz39_1 : wr.cell? ⟨gb1263, 1, none⟩ = some (.int .i64 a0_1) := (blk_cell BK1263.out 1).trans rfl
  have hcz39_2 : wr.cell? ⟨gb1263, 2, none⟩ = some (.slice A0_2 l0_2.length c0_2) := (blk_cell BK1263.out 2).trans rfl
  have hfz39_0 := blk_frozen BK1263.out 0
  have hfz39_1 := blk_frozen BK1263.out 1
  have hfz39_2 := blk_frozen BK1263.out 2
  have p1280 : 0 ≤ ((rd t1275 x30_2) : Int) := of_decide_eq_true (by first | (with_reducible assumption) | assumption)
  have q1280 : (rd t1275 x30_2) < (l0_2.length : Int) := of_decide_eq_true (by first | (with_reducible assumption) | assumption)
  obtain ⟨ad1280, e1280, hx1280_0⟩ := Kd.at_bool HR0_2.out (rd t1275 x30_2) p1280 q1280
  (try rw [← Nbq31.out] at hx1280_0)
  cases e1280
  replace hx1280_0 := (HB.out.cell (World.block_lt_of_cell? w _ hx1280_0)).trans hx1280_0
  replace p1280 := eq_true p1280
  replace q1280 := eq_true q1280
  obtain ⟨Ao40, co40, eo40, _⟩ := Kd.Q_slice HO_6.out
  subst eo40
  have p1281 : 0 ≤ (0 : Int) := (by omega)
  have q1281 : 0 < (x6_2.length : Int) := of_decide_eq_true (by first | (with_reducible assumption) | assumption)
  obtain ⟨ad1281, e1281, hx1281_0⟩ := Kd.at_int (Kd.Q_reads' HO_6.out).2.2 0 p1281 q1281
  cases e1281
  have qi1281 : (0 < x6_2.length) = True := eq_true (by omega)
  (try rw [show ((0 : Int)).toNat = 0 from rfl] at hx1281_0)
  (try rw [Addr.add_zero'] at hx1281_0)
  replace p1281 := eq_true p1281
  replace q1281 := eq_true q1281
  have p1282 : 0 ≤ ((rd x6_2 0) : Int) := of_decide_eq_true (by first | (with_reducible assumption) | assumption)
  have q1282 : (rd x6_2 0) < (x5_2.length : Int) := of_decide_eq_true (by first | (with_reducible assumption) | assumption)
  obtain ⟨ad1282, e1282, hx1282_0⟩ := Kd.at_int (Kd.R_reads' HO_5.out).2.2 (rd x6_2 0) p1282 q1282
  obtain rfl : (⟨go6, 0, none⟩ : Addr) = ad1282 := (by injection e1282)
  (first | simp only [add_plain] at hx1282_0 | simp only [add_at] at hx1282_0 | simp only [Addr.add, Nat.zero_add] at hx1282_0 | skip)
  replace p1282 := eq_true p1282
  replace q1282 := eq_true q1282
  have p37 : 0 ≤ ((rd t1275 x30_2) : Int) := of_decide_eq_true (by first | (with_reducible assumption) | assumption)
  have q37 : ((rd t1275 x30_2) : Int) < ((x5_2.length : Int) : Int) := of_decide_eq_true (by first | (with_reducible assumption) | assumption)
  obtain ⟨hx37_0, hf37_0⟩ := Kd.R_celln 0 HO_5.out ((rd t1275 x30_2) : Int) p37 q37
  replace p37 := eq_true p37
  replace q37 := eq_true q37
  have HP41 := Kd.R_putg HO_5.out ((rd t1275 x30_2) : Int) (wrap64 ((rd x5_2 (rd x6_2 0)) + 1))
  go_wp2_with (first | ((with_reducible refine gate_store (t := 3) (p := 56) rfl ?_); refine store_event (t := 3) (p := 56) (v := ?vo_w42) (w1 := (wr.setCell ⟨go6, ((rd t1275 x30_2) : Int).toNat, none⟩ (.int .i64 (wrap64 ((rd x5_2 (rd x6_2 0)) + 1))))) ?hg ?ho ?hn ?hr ?_; (case ho => rfl); (case hg => rfl); (case hn => rfl); (case hr => first | (go_simp; done) | (go_simp; rfl)); intro w42 hw; have hg : wr.grownBy w42 (some go6) := (by rw [hw]; exact HP41.2); have hp_ : Kd.R (Kd.int .i64) 3 w42 w.heap.size (fun k_ => some k_ ≠ (.slice (some ad1281) x6_2.length co40 : Value).ownBlock ∧ some k_ ≠ (.slice (some ad1278) t1275.length co23 : Value).ownBlock) (.slice (some ⟨go6, 0, none⟩) x5_2.length co6) y1283 := (by rw [hw, Ny1283.out]; exact HP41.1); clear HP41; have n0_ := Aside0.mk (hp_); have n1_ := Aside0.mk (Kd.Q_after (v := (.slice (some ⟨go6, 0, none⟩) x5_2.length co6)) (v1 := (.slice (some ⟨go6, 0, none⟩) x5_2.length co6)) (ok := (fun k_ => some k_ ≠ (.slice (some ad1278) t1275.length co23 : Value).ownBlock)) (by (with_reducible repeat (first | apply Kd.Q_alloc | apply Kd.Q_drewN | apply Kd.Q_drew)); exact Kd.Q_mono HO_6.out (fun _ hk => ⟨hk.2, hk.1⟩)) hg (.inl rfl)); have n2_ := Aside0.mk (Kd.R_after (v := (.slice (some ⟨go6, 0, none⟩) x5_2.length co6)) (v1 := (.slice (some ⟨go6, 0, none⟩) x5_2.length co6)) (ok := (fun k_ => some k_ ≠ (.slice (some ad1281) x6_2.length co40 : Value).ownBlock)) (by (with_reducible repeat (first | apply r_a | apply r_d | apply r_e)); exact Kd.R_mono HO_28.out (fun _ hk => ⟨hk.2, hk.1⟩)) hg (.inl rfl)); have n3_ := Aside0.mk (blk_grown (g := gb1263) (o := .cells #[.int .i64 a0_0, .int .i64 a0_1, .slice (some ad1280) l0_2.length c0_2] 105 (0, 0)) (bK BK1263) hg (Kd.R_ne HO_5.out BK1263.out (by decide))); have n4_ := Aside0.mk ((by rw [hw]; exact b_s (HB.out) GB6.out : Below w.heap.size w w42)); clear HO_5; clear HO_6; clear HO_28; clear BK1263; clear HB; have HO_5 := n0_; have HO_6 := n1_; have HO_28 := n2_; have BK1263 := n3_; have HB := n4_; clear n0_ n1_ n2_ n3_ n4_; clear hg hw hp_) | ((with_reducible refine gate_builtin (b := .append) (xs := #[.tmp 57, .tmp 59]) rfl ?_); at_builtin; refine Kd.Q_append (Kd.int .i64) (w0 := w) w.heap.size rfl (.tmp 57) (.tmp 59) 72 3 (.int .i64 0) 8 rfl Try.underlying72 info3 rfl (by decide) (by omega) (.slice (some ad1281) x6_2.length co40) x6_2 (rd t1275 x30_2) [.int .i64 (rd t1275 x30_2)] (fun k_ => some k_ ≠ (.slice (some ⟨go6, 0, none⟩) x5_2.length co6 : Value).ownBlock ∧ some k_ ≠ (.slice (some ad1278) t1275.length co23 : Value).ownBlock) (fun _ => False) rfl rfl ?aP (fun _ hk => hk.elim) ?aF ?aO ?aB ?aS ?aL ?_; (case aP => exact rfl); (case aB => exact (bB HB)); (case aF => exact (fun k_ hk => ⟨Kd.fresh' (Kd.R_lt (by (with_reducible repeat (first | apply r_a | apply r_d | apply r_e)); exact HO_5.out)) k_ hk, Kd.fresh' (Kd.R_lt (by (with_reducible repeat (first | apply r_a | apply r_d | apply r_e)); exact HO_28.out)) k_ hk⟩)); (case aO => exact (by (with_reducible repeat (first | apply Kd.Q_alloc | apply Kd.Q_drewN | apply Kd.Q_drew)); exact Kd.Q_mono HO_6.out (fun _ hk => ⟨hk.2, hk.1⟩))); (case aS => exact (below_size (bB HB))); (case aL => have := LMc38.out; omega); intro v1285 w43 ho hb hg hat; rw [← Ny1284.out] at ho; have n0_ := Aside0.mk (Kd.R_after (ok := (fun k_ => some k_ ≠ (.slice (some ad1278) t1275.length co23 : Value).ownBlock)) (by (with_reducible repeat (first | apply r_a | apply r_d | apply r_e)); exact Kd.R_mono HO_5.out (fun _ hk => ⟨hk.2, hk.1⟩)) hg hat); have n1_ := Aside0.mk (Kd.R_after (ok := (fun k_ => some k_ ≠ (.slice (some ⟨go6, 0, none⟩) x5_2.length co6 : Value).ownBlock)) (by (with_reducible repeat (first | apply r_a | apply r_d | apply r_e)); exact Kd.R_mono HO_28.out (fun _ hk => ⟨hk.2, hk.1⟩)) hg hat); have n2_ := Aside0.mk (blk_grown (g := gb1263) (o := .cells #[.int .i64 a0_0, .int .i64 a0_1, .slice (some ad1280) l0_2.length c0_2] 105 (0, 0)) (bK BK1263) hg (Kd.Q_ne HO_6.out BK1263.out (by decide))); have n3_ := Aside0.mk (hb); have n4_ := Aside0.mk (ho); clear HO_5; clear HO_28; clear BK1263; clear HB; clear HO_6; have HO_5 := n0_; have HO_28 := n1_; have BK1263 := n2_; have HB := n3_; have HO1286 := n4_; clear n0_ n1_ n2_ n3_ n4_; clear ho hb hg hat))
  (try simp only [← hl5_2])
  go_roundg k2
  case measure => have := HK1.out; have := HK2.out; omega
  case rel => exact ⟨(y1283), (y1284), (wrap64 (x30_2 + 1)), (by first | rfl | (simp; done) | (simp [*]; done)), H', ⟨by have := HK1.out; have := HK2.out; omega⟩, ⟨by (try simp only [hl5_1]); (try simp only [hl5_2]); (with_reducible repeat (first | apply r_a | apply r_d | apply r_e)); exact Kd.R_mono HO_5.out (fun _ hk => ⟨hk.2, hk.1⟩)⟩, ⟨by (try simp only [hl5_1]); (try simp only [hl5_2]); (with_reducible repeat (first | apply Kd.Q_alloc | apply Kd.Q_drewN | apply Kd.Q_drew)); exact HO1286.out⟩, ⟨by (try simp only [hl5_1]); (try simp only [hl5_2]); (with_reducible repeat (first | apply r_a | apply r_d | apply r_e)); exact HO_28.out⟩, ⟨by (try simp only [hl5_1]); (try simp only [hl5_2]); (with_reducible repeat (first | refine g_d ?_ _ | refine g_e ?_ | refine g_a ?_ _)); exact BK1263.out⟩, ⟨bB HB⟩⟩
/-! ### impl_farOf: function 145 -/
def impl_farOf.f (k : Nat) (a0_0 : Int) (a0_1 : Int) (l1 : List ByteArray) (a2 : ByteArray) : Option (Int × Int × List Bool × List Int) := (impl_fieldOf.f k a0_0 a0_1 l1).bind fun bt1292 => ((impl_Lock_number.f k a0_0 a0_1 a2).bind fun t1298 => ((impl_field_far.f k bt1292.1 bt1292.2.1 bt1292.2.2 t1298).bind fun t1299 => (some (bt1292.1, bt1292.2.1, bt1292.2.2, t1299))))
theorem impl_farOf.mono : ∀ a0 a1 a2 a3 k, LeO (impl_farOf.f k a0 a1 a2 a3) (impl_farOf.f (k + 1) a0 a1 a2 a3) := by
  intro a0 a1 a2 a3 k
  unfold impl_farOf.f
  repeat' first
      | (with_reducible exact impl_Lock_number.mono _ _ _ _)
      | (with_reducible exact impl_fieldOf.mono _ _ _ _)
      | (with_reducible exact impl_field_far.mono _ _ _ _ _)
      | (with_reducible exact LeO.refl _)
      | (with_reducible exact LeO.none _)
      | (with_reducible refine LeO.ite ?_ ?_)
      | (with_reducible refine LeO.bind ?_ (fun _ => ?_))
      | exact impl_Lock_number.mono _ _ _ _
      | exact impl_fieldOf.mono _ _ _ _
      | exact impl_field_far.mono _ _ _ _ _
      | exact LeO.none _
      | refine LeO.ite ?_ ?_
      | refine LeO.bind ?_ (fun _ => ?_)
def impl_farOf.T2 : Bool × List (List Nat × List Nat) := (true, [([], []), ([], []), ([], []), ([], []), ([2, 3], [2, 3]), ([1, 4, 4], [1, 4]), ([0, 5, 0], [0]), ([5, 6, 0, 1, 2, 3, 4, 5, 6], [5])])
def impl_farOf.B2 : List Nat := [0, 0, 0, 0, 12, 30, 63, 127]
theorem impl_farOf.tab2 : rtab .any (opsOf Try.f145 2) = impl_farOf.T2 := by kernel_rfl
theorem impl_farOf.bits2 : waitsOk impl_farOf.T2.2 impl_farOf.B2 = true := by kernel_rfl
set_option maxHeartbeats 8000000 in
set_option maxRecDepth 100000 in
theorem impl_farOf.calls (k : Nat) (a0_0 : Int) (a0_1 : Int) (A1 : Option Addr) (c1 : Nat) (l1 : List ByteArray) (a2 : ByteArray) (r1 : Int) (r2 : Int) (r3 : List Bool) (r4 : List Int) (w : World) (hr1 : Kd.C Kd.string w A1 l1.length l1) (hc1 : l1.length ≤ c1) (h : impl_farOf.f k a0_0 a0_1 l1 a2 = some (r1, r2, r3, r4)) :
    Calls Try.prog 145 #[.agg #[.int .i64 a0_0, .int .i64 a0_1], .slice A1 l1.length c1, .string a2] w fun e w' => ∃ v2_ v3_ : Value, e = .returned (.tuple #[.agg #[.int .i64 r1, .int .i64 r2, v2_], v3_]) ∧ Kd.R Kd.bool 4 w' w.heap.size (fun _ => True) v2_ r3 ∧ Kd.R (Kd.int .i64) 3 w' w.heap.size (fun _ => True) v3_ r4 ∧ Below w.heap.size w w' := by
  have hu28 := Try.underlying28
  have hu105 := Try.underlying105
  have HR1 := Aside0.mk hr1
  have HC1 := Aside0.mk hc1
  clear hr1 hc1
  have HB := Aside0.mk (Below.refl w.heap.size w)
  have H : ((impl_fieldOf.f k a0_0 a0_1 l1).bind fun bt1292 => ((impl_Lock_number.f k a0_0 a0_1 a2).bind fun t1298 => ((impl_field_far.f k bt1292.1 bt1292.2.1 bt1292.2.2 t1298).bind fun t1299 => (some (bt1292.1, bt1292.2.1, bt1292.2.2, t1299))))) = some (r1, r2, r3, r4) := h
  clear h
  replace H := Option.bind_eq_some_iff.mp H
  obtain ⟨⟨t1292, t1293, t1294⟩, A40, H⟩ := H
  try dsimp only at H
  have A4 := Aside0.mk A40
  clear A40
  replace H := Option.bind_eq_some_iff.mp H
  obtain ⟨t1298, A50, H⟩ := H
  try dsimp only at H
  have A5 := Aside0.mk A50
  clear A50
  replace H := Option.bind_eq_some_iff.mp H
  obtain ⟨t1299, A60, H⟩ := H
  try dsimp only at H
  have A6 := Aside0.mk A60
  clear A60
  simp only [Option.some.injEq, Prod.mk.injEq] at H
  obtain ⟨rfl, rfl, rfl, rfl⟩ := H
  go_enter Try.func145, Try.ntmps145
  try go_wp2_with (first | ((with_reducible refine gate_dst (N := 3) rfl ?_); refine box_event ?hg (N := 3) ?hd (cs := #[.int .i64 a0_0, .int .i64 a0_1]) (t := 28) ?hr ?_; (case hd => rfl); (case hg => rfl); (case hr => first | (go_simp; done) | (go_simp; rfl)); intro gb1290 hg w7 hbox hb; have n0_ := bsx hb HB; have n1_ := Aside0.mk (hbox); have n2_ := gwx hg HB; have n3_ := n2_; clear HB; have HB := n0_; have BK1290 := n1_; have GW1290 := n2_; have GE1290 := n3_; clear n0_ n1_ n2_ n3_; clear hb hbox hg) | ((with_reducible refine gate_dst (N := 6) rfl ?_); refine box_event ?hg (N := 6) ?hd (cs := #[.int .i64 0, .int .i64 0, .slice none 0 0]) (t := 105) ?hr ?_; (case hd => rfl); (case hg => rfl); (case hr => first | (go_simp; done) | (go_simp; rfl)); intro gb1291 hg w8 hbox hb; have n0_ := bbx hb BK1290; have n1_ := bsx hb HB; have n2_ := Aside0.mk (hbox); have n3_ := gwx hg HB; have n4_ := gwx hg HB; have n5_ := nlx hg BK1290; have n6_ := ngx hg BK1290; clear BK1290; clear HB; have BK1290 := n0_; have HB := n1_; have BK1291 := n2_; have GW1291 := n3_; have GE1291 := n4_; have NB1290_1291 := n5_; have NB1291_1290 := n6_; clear n0_ n1_ n2_ n3_ n4_ n5_ n6_; clear hb hbox hg; have hnb9 := NB1290_1291.out; have hnc9 := NB1291_1290.out; have hcz10_0 := cz0 BK1290; have hcz10_1 := cz1 BK1290; have hfz10_0 := blk_frozen BK1290.out 0; have hfz10_1 := blk_frozen BK1290.out 1) | ((with_reducible refine gate_callee (f := 98) rfl ?_); refine goesL_ (some 11) rfl rfl Try.func98 (by kernel_rfl) rfl #[.agg #[.int .i64 a0_0, .int .i64 a0_1], .slice A1 l1.length c1] rfl (by (try simp only [m_1, m_2, m_3]); first | done | rfl | (simp only [m_4, m_5]; rfl)) ?_; (with_reducible refine (impl_fieldOf.calls k a0_0 a0_1 _ _ l1 t1292 t1293 t1294 _ ?side1 ?side2 A4.out).mono ?_); (case side1 => repeat (first | exact (Kd.C_below HR1.out HB.out) | (with_reducible refine Kd.C_alloc ?_ _) | (with_reducible refine Kd.C_drewN ?_ _) | (with_reducible refine Kd.C_drew ?_))); (case side2 => exact HC1.out); rintro e w11 ⟨v1295, rfl, ho0, hb⟩; refine ⟨_, rfl, ?_⟩; have n0_ := Aside0.mk (Kd.R_lower ho0 (below_size (bB HB))); replace BK1290 := bbx hb BK1290; replace BK1291 := bbx hb BK1291; have n3_ := bsx hb HB; clear HB; have HO1296 := n0_; have HB := n3_; clear n0_ n3_; (try clear hb); (try clear hb2); (try clear hk); (try clear hi); (try clear ho0)) | ((with_reducible refine gate_dst (N := 8) rfl ?_); refine box_event ?hg (N := 8) ?hd (cs := #[.int .i64 0, .int .i64 0, .slice none 0 0]) (t := 105) ?hr ?_; (case hd => rfl); (case hg => rfl); (case hr => first | (go_simp; done) | (go_simp; rfl)); intro gb1297 hg w12 hbox hb; have n0_ := Aside0.mk (Kd.R_below (by (with_reducible repeat (first | apply r_a | apply r_d | apply r_e)); exact HO1296.out) hb); have n1_ := bbx hb BK1290; have n2_ := bbx hb BK1291; have n3_ := bsx hb HB; have n4_ := Aside0.mk (hbox); have n5_ := gwx hg HB; have n6_ := gwx hg HB; have n7_ := nlx hg BK1290; have n8_ := ngx hg BK1290; have n9_ := nlx hg BK1291; have n10_ := ngx hg BK1291; clear HO1296; clear BK1290; clear BK1291; clear HB; have HO1296 := n0_; have BK1290 := n1_; have BK1291 := n2_; have HB := n3_; have BK1297 := n4_; have GW1297 := n5_; have GE1297 := n6_; have NB1290_1297 := n7_; have NB1297_1290 := n8_; have NB1291_1297 := n9_; have NB1297_1291 := n10_; clear n0_ n1_ n2_ n3_ n4_ n5_ n6_ n7_ n8_ n9_ n10_; clear hb hbox hg; have hnb13 := NB1297_1290.out; have hnc13 := NB1290_1297.out; have hnb14 := NB1297_1291.out; have hnc14 := NB1291_1297.out; have hcz15_0 : w12.cell? ⟨gb1297, 0, none⟩ = some (.int .i64 0) := (blk_cell BK1297.out 0).trans rfl; have hcz15_1 : w12.cell? ⟨gb1297, 1, none⟩ = some (.int .i64 0) := (blk_cell BK1297.out 1).trans rfl; have hcz15_2 : w12.cell? ⟨gb1297, 2, none⟩ = some (.slice none 0 0) := (blk_cell BK1297.out 2).trans rfl; have hfz15_0 := blk_frozen BK1297.out 0; have hfz15_1 := blk_frozen BK1297.out 1; have hfz15_2 := blk_frozen BK1297.out 2; obtain ⟨Ao16, co16, eo16⟩ := Kd.R_slice HO1296.out; subst eo16))
  have n0_ : Aside0 (Kd.R Kd.bool 4 (((w12.setCell ⟨gb1297, 0, none⟩ (.int .i64 t1292)).setCell ⟨gb1297, 1, none⟩ (.int .i64 t1293)).setCell ⟨gb1297, 2, none⟩ (.slice Ao16 t1294.length co16)) w.heap.size (fun _ => True) (.slice Ao16 t1294.length co16) t1294) := ⟨by (with_reducible repeat (first | apply r_a | apply r_d | apply r_e)); exact Kd.R_mono (Kd.R_far (p := ⟨gb1297, 2, none⟩) (Kd.R_far (p := ⟨gb1297, 1, none⟩) (Kd.R_far (p := ⟨gb1297, 0, none⟩) (Kd.R_types HO1296.out BK1297.out (by decide)) (fun _ hk => hk.2) (.int .i64 t1292)) (fun _ hk => hk.2) (.int .i64 t1293)) (fun _ hk => hk.2) (.slice Ao16 t1294.length co16)) (fun _ hk => trivial)⟩
  have n1_ : Aside0 ((((w12.setCell ⟨gb1297, 0, none⟩ (.int .i64 t1292)).setCell ⟨gb1297, 1, none⟩ (.int .i64 t1293)).setCell ⟨gb1297, 2, none⟩ (.slice Ao16 t1294.length co16)).heap[gb1290]? = some (.cells #[.int .i64 a0_0, .int .i64 a0_1] 28 (0, 0))) := ⟨bF⟩
  have n2_ : Aside0 ((((w12.setCell ⟨gb1297, 0, none⟩ (.int .i64 t1292)).setCell ⟨gb1297, 1, none⟩ (.int .i64 t1293)).setCell ⟨gb1297, 2, none⟩ (.slice Ao16 t1294.length co16)).heap[gb1291]? = some (.cells #[.int .i64 0, .int .i64 0, .slice none 0 0] 105 (0, 0))) := ⟨bF⟩
  have n3_ : Aside0 ((((w12.setCell ⟨gb1297, 0, none⟩ (.int .i64 t1292)).setCell ⟨gb1297, 1, none⟩ (.int .i64 t1293)).setCell ⟨gb1297, 2, none⟩ (.slice Ao16 t1294.length co16)).heap[gb1297]? = some (.cells #[.int .i64 t1292, .int .i64 t1293, .slice Ao16 t1294.length co16] 105 (0, 0))) := ⟨by (with_reducible repeat (first | refine g_d ?_ _ | refine g_e ?_ | refine g_a ?_ _)); refine blk_put (cs := #[.int .i64 t1292, .int .i64 t1293, .slice none 0 0]) ?_ 2 _ rfl; (with_reducible repeat (first | refine g_d ?_ _ | refine g_e ?_ | refine g_a ?_ _)); refine blk_put (cs := #[.int .i64 t1292, .int .i64 0, .slice none 0 0]) ?_ 1 _ rfl; (with_reducible repeat (first | refine g_d ?_ _ | refine g_e ?_ | refine g_a ?_ _)); refine blk_put (cs := #[.int .i64 0, .int .i64 0, .slice none 0 0]) ?_ 0 _ rfl; (with_reducible repeat (first | refine g_d ?_ _ | refine g_e ?_ | refine g_a ?_ _)); exact BK1297.out⟩
  have n4_ : Aside0 (Below w.heap.size w (((w12.setCell ⟨gb1297, 0, none⟩ (.int .i64 t1292)).setCell ⟨gb1297, 1, none⟩ (.int .i64 t1293)).setCell ⟨gb1297, 2, none⟩ (.slice Ao16 t1294.length co16))) := ⟨bB HB⟩
  (try clear HO1296)
  (try clear BK1290)
  (try clear BK1291)
  (try clear BK1297)
  (try clear HB)
  generalize (((w12.setCell ⟨gb1297, 0, none⟩ (.int .i64 t1292)).setCell ⟨gb1297, 1, none⟩ (.int .i64 t1293)).setCell ⟨gb1297, 2, none⟩ (.slice Ao16 t1294.length co16)) = w17 at n0_ n1_ n2_ n3_ n4_ ⊢
  have HO1296 := n0_
  have BK1290 := n1_
  have BK1291 := n2_
  have BK1297 := n3_
  have HB := n4_
  clear n0_ n1_ n2_ n3_ n4_
  have n0_ := Aside0.mk (r_e HO1296.out)
  have n1_ := Aside0.mk (g_e BK1290.out)
  have n2_ := Aside0.mk (g_e BK1291.out)
  have n3_ := Aside0.mk (g_e BK1297.out)
  have n4_ := Aside0.mk (b_e HB.out)
  clear HO1296
  clear BK1290
  clear BK1291
  clear BK1297
  clear HB
  have HO1296 := n0_
  have BK1290 := n1_
  have BK1291 := n2_
  have BK1297 := n3_
  have HB := n4_
  clear n0_ n1_ n2_ n3_ n4_
  refine start_ (n := 8) (S := fun w' => w'.cell? ⟨gb1297, 0, none⟩ = some (.int .i64 t1292) ∧ w'.cell? ⟨gb1297, 1, none⟩ = some (.int .i64 t1293) ∧ w'.cell? ⟨gb1297, 2, none⟩ = some (.slice Ao16 t1294.length co16) ∧ w'.cell? ⟨gb1290, 0, none⟩ = some (.int .i64 a0_0) ∧ w'.cell? ⟨gb1290, 1, none⟩ = some (.int .i64 a0_1)) (ds := []) (bs_ 8 0) (by kernel_rfl) rfl rfl ⟨(blk_cell BK1297.out 0).trans rfl, (blk_cell BK1297.out 1).trans rfl, (blk_cell BK1297.out 2).trans rfl, (blk_cell BK1290.out 0).trans rfl, (blk_cell BK1290.out 1).trans rfl⟩ (fun hHeld => ?_); refine with_tabW impl_farOf.tab2 impl_farOf.bits2 (fun HT_ HW_ => ?_)
  generalize w17.drew = w18 at HO1296 BK1290 BK1291 BK1297 HB hHeld ⊢
  refine pua 3 15 (bs_ 8 8) HT_ ?_
  refine tk_ 0 12 (bs_ 8 9) rfl rfl HT_ HW_ (by kernel_rfl) (fun _ _ _ h => h) (by rfl) hHeld (by rintro w' ⟨s0, s1, s2, s3, s4⟩; go_simp; with_reducible rfl) (by simp only [Act.put, s_1, s_2, s_3, i64_w, i32_w]; rfl) ?_
  refine tk_ 1 13 (bs_ 8 11) rfl rfl HT_ HW_ (by kernel_rfl) (fun _ _ _ h => h) (by rfl) hHeld (by rintro w' ⟨s0, s1, s2, s3, s4⟩; go_simp; with_reducible rfl) (by simp only [Act.put, s_1, s_2, s_3, i64_w, i32_w]; rfl) ?_
  refine tk_ 2 14 (bs_ 8 15) rfl rfl HT_ HW_ (by kernel_rfl) (fun _ _ _ h => h) (by rfl) hHeld (by rintro w' ⟨s0, s1, s2, s3, s4⟩; go_simp; with_reducible rfl) (by simp only [Act.put, s_1, s_2, s_3, i64_w, i32_w]; rfl) ?_
  refine one_ (i := 4) (N := some 16) (bs_ 8 31) rfl rfl (one_of HT_.out (by kernel_rfl)) (by decide) (fun K hK => ?_)
  refine goes_ Try.func68 (by kernel_rfl) rfl #[.agg #[.int .i64 a0_0, .int .i64 a0_1], .string a2] (by rfl) rfl rfl (by (try simp only [m_1, m_2, m_3]); first | done | rfl | (simp only [m_4, m_5]; rfl)) ?_
  with_reducible refine (impl_Lock_number.calls k a0_0 a0_1 a2 t1298 _ A5.out).mono ?_
  rintro e w19 ⟨rfl, hb⟩
  refine ⟨_, rfl, ?_⟩
  have n0_ := Aside0.mk (Kd.R_below (by (with_reducible repeat (first | apply r_a | apply r_d | apply r_e)); exact HO1296.out) hb)
  have n1_ := bbx hb BK1290
  have n2_ := bbx hb BK1291
  have n3_ := bbx hb BK1297
  have n4_ := bsx hb HB
  clear HO1296
  clear BK1290
  clear BK1291
  clear BK1297
  clear HB
  have HO1296 := n0_
  have BK1290 := n1_
  have BK1291 := n2_
  have BK1297 := n3_
  have HB := n4_
  clear n0_ n1_ n2_ n3_ n4_
  (try clear hb)
  (try clear hb2)
  (try clear hk)
  (try clear hi)
  refine hK.out _ _ ⟨(blk_cell BK1297.out 0).trans rfl, (blk_cell BK1297.out 1).trans rfl, (blk_cell BK1297.out 2).trans rfl, (blk_cell BK1290.out 0).trans rfl, (blk_cell BK1290.out 1).trans rfl⟩ (fun hHeld => ?_)
  clear hK K
  refine norm_ (a' := ?_) ?_ ?_
  rotate_left
  · show Act.put _ (some 16) _ = _
    simp only [Act.put, s_1, s_2, s_3, i64_w, i32_w]
    rfl
  refine one_ (i := 5) (N := some 17) (bs_ 8 63) rfl rfl (one_of HT_.out (by kernel_rfl)) (by decide) (fun K hK => ?_)
  refine goes_ Try.func100 (by kernel_rfl) rfl #[.agg #[.int .i64 t1292, .int .i64 t1293, .slice Ao16 t1294.length co16], .int .i64 t1298] (by rfl) rfl rfl (by (try simp only [m_1, m_2, m_3]); first | done | rfl | (simp only [m_4, m_5]; rfl)) ?_
  with_reducible refine (impl_field_far.calls k t1292 t1293 _ _ t1294 t1298 t1299 _ ?side1 ?side2 A6.out).mono ?_
  (case side1 => repeat (first | exact (Kd.R_reads' HO1296.out).2.2 | (with_reducible refine Kd.C_alloc ?_ _) | (with_reducible refine Kd.C_drewN ?_ _) | (with_reducible refine Kd.C_drew ?_)))
  (case side2 => exact (Kd.R_reads' HO1296.out).2.1)
  rintro e w20 ⟨v1300, rfl, ho0, hb⟩
  refine ⟨_, rfl, ?_⟩
  have n0_ := Aside0.mk (Kd.R_below (by (with_reducible repeat (first | apply r_a | apply r_d | apply r_e)); exact HO1296.out) hb)
  have n1_ := Aside0.mk (Kd.R_lower ho0 (below_size (bB HB)))
  have n2_ := bbx hb BK1290
  have n3_ := bbx hb BK1291
  have n4_ := bbx hb BK1297
  have n5_ := bsx hb HB
  clear HO1296
  clear BK1290
  clear BK1291
  clear BK1297
  clear HB
  have HO1296 := n0_
  have HO1301 := n1_
  have BK1290 := n2_
  have BK1291 := n3_
  have BK1297 := n4_
  have HB := n5_
  clear n0_ n1_ n2_ n3_ n4_ n5_
  (try clear hb)
  (try clear hb2)
  (try clear hk)
  (try clear hi)
  (try clear ho0)
  refine hK.out _ _ ⟨(blk_cell BK1297.out 0).trans rfl, (blk_cell BK1297.out 1).trans rfl, (blk_cell BK1297.out 2).trans rfl, (blk_cell BK1290.out 0).trans rfl, (blk_cell BK1290.out 1).trans rfl⟩ (fun hHeld => ?_)
  clear hK K
  refine norm_ (a' := ?_) ?_ ?_
  rotate_left
  · show Act.put _ (some 17) _ = _
    simp only [Act.put, s_1, s_2, s_3, i64_w, i32_w]
    rfl
  refine one_ (i := 6) (N := none) (bs_ 8 127) rfl rfl (one_of HT_.out (by kernel_rfl)) (by decide) (fun K hK => ?_)
  have hs21 : w20.cell? ⟨gb1291, 0, none⟩ = some (.int .i64 0) := (blk_cell BK1291.out 0).trans rfl
  have hfs21 := blk_frozen BK1291.out 0
  have hns21_0 := NB1290_1291.out
  have hns21_2 := NB1297_1291.out
  have hms21_0 := NB1291_1290.out
  have hms21_2 := NB1291_1297.out
  have hs22 : w20.cell? ⟨gb1291, 1, none⟩ = some (.int .i64 0) := (blk_cell BK1291.out 1).trans rfl
  have hfs22 := blk_frozen BK1291.out 1
  have hns22_0 := NB1290_1291.out
  have hns22_2 := NB1297_1291.out
  have hms22_0 := NB1291_1290.out
  have hms22_2 := NB1291_1297.out
  have hs23 : w20.cell? ⟨gb1291, 2, none⟩ = some (.slice none 0 0) := (blk_cell BK1291.out 2).trans rfl
  have hfs23 := blk_frozen BK1291.out 2
  have hns23_0 := NB1290_1291.out
  have hns23_2 := NB1297_1291.out
  have hms23_0 := NB1291_1290.out
  have hms23_2 := NB1291_1297.out
  refine skip_ (w1 := ?_) (by rfl) rfl ?_ ?_
  rotate_left
  · go_simp
    rfl
  refine hK.out _ _ ⟨((cell_far (p := ⟨gb1291, _, none⟩) NB1297_1291.out _).trans (((cell_far (p := ⟨gb1291, _, none⟩) NB1297_1291.out _).trans (((cell_far (p := ⟨gb1291, _, none⟩) NB1297_1291.out _).trans (hHeld.1)))))), ((cell_far (p := ⟨gb1291, _, none⟩) NB1297_1291.out _).trans (((cell_far (p := ⟨gb1291, _, none⟩) NB1297_1291.out _).trans (((cell_far (p := ⟨gb1291, _, none⟩) NB1297_1291.out _).trans (hHeld.2.1)))))), ((cell_far (p := ⟨gb1291, _, none⟩) NB1297_1291.out _).trans (((cell_far (p := ⟨gb1291, _, none⟩) NB1297_1291.out _).trans (((cell_far (p := ⟨gb1291, _, none⟩) NB1297_1291.out _).trans (hHeld.2.2.1)))))), ((cell_far (p := ⟨gb1291, _, none⟩) NB1290_1291.out _).trans (((cell_far (p := ⟨gb1291, _, none⟩) NB1290_1291.out _).trans (((cell_far (p := ⟨gb1291, _, none⟩) NB1290_1291.out _).trans (hHeld.2.2.2.1)))))), ((cell_far (p := ⟨gb1291, _, none⟩) NB1290_1291.out _).trans (((cell_far (p := ⟨gb1291, _, none⟩) NB1290_1291.out _).trans (((cell_far (p := ⟨gb1291, _, none⟩) NB1290_1291.out _).trans (hHeld.2.2.2.2))))))⟩ (fun hHeld => ?_)
  clear hK K
  refine pua 7 7 (bs_ 8 255) HT_ ?_
  refine done_ (done_of HT_.out (by kernel_rfl)) ?_
  try go_wp2
  refine bodyPost_ret (results_ct rfl _ _ gb1291 105 #[.int .i64 t1292, .int .i64 t1293, .slice Ao16 t1294.length co16] (0, 0) _ rfl (by (with_reducible repeat (first | refine g_d ?_ _ | refine g_e ?_ | refine g_a ?_ _)); refine blk_put (cs := #[.int .i64 t1292, .int .i64 t1293, .slice none 0 0]) ?_ 2 _ rfl; (with_reducible repeat (first | refine g_d ?_ _ | refine g_e ?_ | refine g_a ?_ _)); refine blk_put (cs := #[.int .i64 t1292, .int .i64 0, .slice none 0 0]) ?_ 1 _ rfl; (with_reducible repeat (first | refine g_d ?_ _ | refine g_e ?_ | refine g_a ?_ _)); refine blk_put (cs := #[.int .i64 0, .int .i64 0, .slice none 0 0]) ?_ 0 _ rfl; (with_reducible repeat (first | refine g_d ?_ _ | refine g_e ?_ | refine g_a ?_ _)); exact BK1291.out) Try.underlying105 rfl (by kernel_rfl)) rfl ?_
  exact ⟨_, _, by first | rfl | (simp [errW_none, errW_some] <;> rfl) | (simp [*, errW_none, errW_some] <;> rfl), by (with_reducible repeat (first | apply r_a | apply r_d | apply r_e)); exact Kd.R_mono (Kd.R_far (p := ⟨gb1291, 2, none⟩) (Kd.R_far (p := ⟨gb1291, 1, none⟩) (Kd.R_far (p := ⟨gb1291, 0, none⟩) (Kd.R_types HO1296.out BK1291.out (by decide)) (fun _ hk => hk.2) (.int .i64 t1292)) (fun _ hk => hk.2) (.int .i64 t1293)) (fun _ hk => hk.2) (.slice Ao16 t1294.length co16)) (fun _ hk => trivial), by (with_reducible repeat (first | apply r_a | apply r_d | apply r_e)); exact Kd.R_mono (Kd.R_far (p := ⟨gb1291, 2, none⟩) (Kd.R_far (p := ⟨gb1291, 1, none⟩) (Kd.R_far (p := ⟨gb1291, 0, none⟩) (Kd.R_types HO1301.out BK1291.out (by decide)) (fun _ hk => hk.2) (.int .i64 t1292)) (fun _ hk => hk.2) (.int .i64 t1293)) (fun _ hk => hk.2) (.slice Ao16 t1294.length co16)) (fun _ hk => trivial), bB HB⟩

end Go.Proofs.Ytihhiolflbieaaa.P
