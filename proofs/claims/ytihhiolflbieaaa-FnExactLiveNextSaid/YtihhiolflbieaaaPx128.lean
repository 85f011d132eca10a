-- Texts of this session's own program (wip/dr.py), which runs the kit's printer.
import Derived.Test.YtihhiolflbieaaaPx0
import Derived.Test.YtihhiolflbieaaaPx2
import Derived.Test.YtihhiolflbieaaaPx5
import Derived.Test.YtihhiolflbieaaaPx62
import Derived.Test.YtihhiolflbieaaaPx71
namespace Go.Proofs.Ytihhiolflbieaaa.P
open Go.RowKit Go.Proofs.YtihhiolflbieaaaW.PrintWords Go.Proofs.YtihhiolflbieaaaW.PrintLast Go.Proofs.YtihhiolflbieaaaW.PrintMore
attribute [local go_sem] q_leq q_gtr q_geq max2_int min2_int max_two min_two max_three min_three max_four min_four   -- for this text's walks alone
set_option linter.unusedVariables false
set_option linter.unusedSimpArgs false

/-! ### spec_whAsked: function 137 -/
def spec_whAsked.f (k : Nat) (a0_0 : Int) (a0_1 : Int) (a1 : ByteArray) : Option (Bool) := (spec_whGood.f a0_0 a0_1).bind fun t868 => (if t868 = true then ((spec_whCode.f k a0_0 a0_1 a1).bind fun t869 => (some t869)) else (some false))
theorem spec_whAsked.mono : ∀ a0 a1 a2 k, LeO (spec_whAsked.f k a0 a1 a2) (spec_whAsked.f (k + 1) a0 a1 a2) := by
  intro a0 a1 a2 k
  unfold spec_whAsked.f
  repeat' first
      | (with_reducible exact spec_whCode.mono _ _ _ _)
      | (with_reducible exact LeO.refl _)
      | (with_reducible exact LeO.none _)
      | (with_reducible refine LeO.ite ?_ ?_)
      | (with_reducible refine LeO.bind ?_ (fun _ => ?_))
      | exact spec_whCode.mono _ _ _ _
      | exact LeO.none _
      | refine LeO.ite ?_ ?_
      | refine LeO.bind ?_ (fun _ => ?_)
set_option maxHeartbeats 8000000 in
set_option maxRecDepth 100000 in
theorem spec_whAsked.calls (k : Nat) (a0_0 : Int) (a0_1 : Int) (a1 : ByteArray) (r : Bool) (w : World) (h : spec_whAsked.f k a0_0 a0_1 a1 = some r) :
    Calls Try.prog 137 #[.agg #[.int .i64 a0_0, .int .i64 a0_1], .string a1] w fun e w' => e = .returned (.bool r) ∧ Below w.heap.size w w' := by
  have hu28 := Try.underlying28
  have HB := Aside0.mk (Below.refl w.heap.size w)
  have H : ((spec_whGood.f a0_0 a0_1).bind fun t868 => (if t868 = true then ((spec_whCode.f k a0_0 a0_1 a1).bind fun t869 => (some t869)) else (some false))) = some r := h
  clear h
  replace H := Option.bind_eq_some_iff.mp H
  obtain ⟨t868, A30, H⟩ := H
  try dsimp only at H
  have A3 := Aside0.mk A30
  clear A30
  by_cases c4 : t868 = true
  rotate_left
  · replace c4 := Bool.eq_false_iff.mpr c4
    subst c4
    rw [if_neg (show ¬ (false = true) by decide)] at H
    obtain rfl := Option.some.inj H
    go_enter Try.func137, Try.ntmps137
    go_wp2_with (first | ((with_reducible refine gate_dst (N := 2) rfl ?_); refine box_event ?hg (N := 2) ?hd (cs := #[.int .i64 a0_0, .int .i64 a0_1]) (t := 28) ?hr ?_; (case hd => rfl); (case hg => rfl); (case hr => first | (go_simp; done) | (go_simp; rfl)); intro gb867 hg w11 hbox hb; have n0_ := bsx hb HB; have n1_ := Aside0.mk (hbox); have n2_ := gwx hg HB; have n3_ := n2_; clear HB; have HB := n0_; have BK867 := n1_; have GW867 := n2_; have GE867 := n3_; clear n0_ n1_ n2_ n3_; clear hb hbox hg; have hcz12_0 := cz0 BK867; have hcz12_1 := cz1 BK867; have hfz12_0 := blk_frozen BK867.out 0; have hfz12_1 := blk_frozen BK867.out 1) | ((with_reducible refine gate_callee (f := 49) rfl ?_); refine goesL_ (some 6) rfl rfl Try.func49 (by kernel_rfl) rfl #[.agg #[.int .i64 a0_0, .int .i64 a0_1]] rfl (by (try simp only [m_1, m_2, m_3]); first | done | rfl | (simp only [m_4, m_5]; rfl)) ?_; (with_reducible refine (spec_whGood.calls a0_0 a0_1 false _ A3.out).mono ?_); rintro e w13 ⟨rfl, hb⟩; refine ⟨_, rfl, ?_⟩; replace BK867 := bbx hb BK867; replace HB := bsx hb HB; skip; (try clear hb); (try clear hb2); (try clear hk); (try clear hi)))
    go_ret
    exact ⟨by first | rfl | (simp [errW_none, errW_some] <;> rfl) | (simp [*, errW_none, errW_some] <;> rfl), bB HB⟩

  subst c4
  rw [if_pos rfl] at H
  replace H := Option.bind_eq_some_iff.mp H
  obtain ⟨t869, A50, H⟩ := H
  try dsimp only at H
  have A5 := Aside0.mk A50
  clear A50
  obtain rfl := Option.some.inj H
  go_enter Try.func137, Try.ntmps137
  go_wp2_with (first | ((with_reducible refine gate_dst (N := 2) rfl ?_); refine box_event ?hg (N := 2) ?hd (cs := #[.int .i64 a0_0, .int .i64 a0_1]) (t := 28) ?hr ?_; (case hd => rfl); (case hg => rfl); (case hr => first | (go_simp; done) | (go_simp; rfl)); intro gb867 hg w6 hbox hb; have n0_ := bsx hb HB; have n1_ := Aside0.mk (hbox); have n2_ := gwx hg HB; have n3_ := n2_; clear HB; have HB := n0_; have BK867 := n1_; have GW867 := n2_; have GE867 := n3_; clear n0_ n1_ n2_ n3_; clear hb hbox hg; have hcz7_0 := cz0 BK867; have hcz7_1 := cz1 BK867; have hfz7_0 := blk_frozen BK867.out 0; have hfz7_1 := blk_frozen BK867.out 1) | ((with_reducible refine gate_callee (f := 49) rfl ?_); refine goesL_ (some 6) rfl rfl Try.func49 (by kernel_rfl) rfl #[.agg #[.int .i64 a0_0, .int .i64 a0_1]] rfl (by (try simp only [m_1, m_2, m_3]); first | done | rfl | (simp only [m_4, m_5]; rfl)) ?_; (with_reducible refine (spec_whGood.calls a0_0 a0_1 true _ A3.out).mono ?_); rintro e w8 ⟨rfl, hb⟩; refine ⟨_, rfl, ?_⟩; replace BK867 := bbx hb BK867; replace HB := bsx hb HB; skip; (try clear hb); (try clear hb2); (try clear hk); (try clear hi); have hcz9_0 := cz0 BK867; have hcz9_1 := cz1 BK867; have hfz9_0 := blk_frozen BK867.out 0; have hfz9_1 := blk_frozen BK867.out 1) | (go_at_call 103; (with_reducible refine (spec_whCode.calls k a0_0 a0_1 a1 t869 _ A5.out).mono ?_); rintro e w10 ⟨rfl, hb⟩; replace BK867 := bbx hb BK867; replace HB := bsx hb HB; skip; (try clear hb); (try clear hb2); (try clear hk); (try clear hi)))
  go_ret
  exact ⟨by first | rfl | (simp [errW_none, errW_some] <;> rfl) | (simp [*, errW_none, errW_some] <;> rfl), bB HB⟩
/-! ### spec_NextCodes: function 85 -/
mutual
def spec_NextCodes.l0 : Nat → ByteArray → List ByteArray → Int → Int → Int → Option (List ByteArray × Bool)
  | 0, _, _, _, _, _ => none
  | k + 1, x1, x6, x7, x880000, x880001 => if x7 < x880000 then ((some (([1, (-1)] : List Int) : List Int)).bind fun y881 => (spec_NextCodes.l1 k x1 x6 x7 y881 (y881.length : Int) 0 x880000 x880001)) else (some (x6, true))
def spec_NextCodes.l1 : Nat → ByteArray → List ByteArray → Int → List Int → Int → Int → Int → Int → Option (List ByteArray × Bool)
  | 0, _, _, _, _, _, _, _, _ => none
  | k + 1, x1, x6, x7, x22, x23, x24, x880000, x880001 => if x24 < x23 then (if 0 ≤ x24 then (if x24 < (x22.length : Int) then ((spec_whMake.f k x880000 x880001 x1 x7 (rd x22 x24)).bind fun t885 => (spec_NextCodes.l2 k x1 x6 x7 t885 0 x22 x23 x24 x880000 x880001)) else (none)) else (none)) else (spec_NextCodes.l0 k x1 x6 (wrap64 (x7 + 1)) x880000 x880001)
def spec_NextCodes.l2 : Nat → ByteArray → List ByteArray → Int → ByteArray → Int → List Int → Int → Int → Int → Int → Option (List ByteArray × Bool)
  | 0, _, _, _, _, _, _, _, _, _, _ => none
  | k + 1, x1, x6, x7, x10, x11, x22, x23, x24, x880000, x880001 => if x11 < (x6.length : Int) then (if 0 ≤ x11 then (if (Op.bytesLess ((rdOf ByteArray.empty x6 x11).toList) x10.toList) = true then (spec_NextCodes.l2 k x1 x6 x7 x10 (wrap64 (x11 + 1)) x22 x23 x24 x880000 x880001) else (if x11 = (x6.length : Int) then (if x11 ≤ (x6.length : Int) then ((some (x6.take (x11 : Int).toNat : List ByteArray)).bind fun y887 => (if x6.length < 8796093022000 then (spec_NextCodes.l1 k x1 ((y887 ++ [x10]) ++ x6.drop (x11 : Int).toNat) x7 x22 x23 (wrap64 (x24 + 1)) x880000 x880001) else (none))) else (none)) else (if (rdOf ByteArray.empty x6 x11).toList = x10.toList then (spec_NextCodes.l1 k x1 x6 x7 x22 x23 (wrap64 (x24 + 1)) x880000 x880001) else (if x11 ≤ (x6.length : Int) then ((some (x6.take (x11 : Int).toNat : List ByteArray)).bind fun y894 => (if x6.length < 8796093022000 then (spec_NextCodes.l1 k x1 ((y894 ++ [x10]) ++ x6.drop (x11 : Int).toNat) x7 x22 x23 (wrap64 (x24 + 1)) x880000 x880001) else (none))) else (none))))) else (none)) else (if x11 = (x6.length : Int) then (if 0 ≤ x11 then (if x11 ≤ (x6.length : Int) then ((some (x6.take (x11 : Int).toNat : List ByteArray)).bind fun y900 => (if x6.length < 8796093022000 then (spec_NextCodes.l1 k x1 ((y900 ++ [x10]) ++ x6.drop (x11 : Int).toNat) x7 x22 x23 (wrap64 (x24 + 1)) x880000 x880001) else (none))) else (none)) else (none)) else (if 0 ≤ x11 then (none) else (none)))
end
def spec_NextCodes.f (k : Nat) (a0_0 : Int) (a0_1 : Int) (a1 : ByteArray) : Option (List ByteArray × Bool) := (spec_whAsked.f k a0_0 a0_1 a1).bind fun t880 => (if t880 = true then (spec_NextCodes.l0 k a1 ([] : List ByteArray) 0 a0_0 a0_1) else (some (([] : List ByteArray), false)))
theorem spec_NextCodes.mono_l : ∀ k, (∀ y0 y1 y2 y3 y4, LeO (spec_NextCodes.l0 k y0 y1 y2 y3 y4) (spec_NextCodes.l0 (k + 1) y0 y1 y2 y3 y4)) ∧ (∀ y0 y1 y2 y3 y4 y5 y6 y7, LeO (spec_NextCodes.l1 k y0 y1 y2 y3 y4 y5 y6 y7) (spec_NextCodes.l1 (k + 1) y0 y1 y2 y3 y4 y5 y6 y7)) ∧ (∀ y0 y1 y2 y3 y4 y5 y6 y7 y8 y9, LeO (spec_NextCodes.l2 k y0 y1 y2 y3 y4 y5 y6 y7 y8 y9) (spec_NextCodes.l2 (k + 1) y0 y1 y2 y3 y4 y5 y6 y7 y8 y9))
  | 0 => ⟨fun _ _ _ _ _ r h => by simp [spec_NextCodes.l0] at h, fun _ _ _ _ _ _ _ _ r h => by simp [spec_NextCodes.l1] at h, fun _ _ _ _ _ _ _ _ _ _ r h => by simp [spec_NextCodes.l2] at h⟩
  | k + 1 => by
    obtain ⟨ih0, ih1, ih2⟩ := spec_NextCodes.mono_l k
    refine ⟨?_, ?_, ?_⟩
    · intro y0 y1 y2 y3 y4
      unfold spec_NextCodes.l0
      repeat' first
      | (with_reducible exact ih0 _ _ _ _ _)
      | (with_reducible exact ih1 _ _ _ _ _ _ _ _)
      | (with_reducible exact ih2 _ _ _ _ _ _ _ _ _ _)
      | (with_reducible exact spec_whAsked.mono _ _ _ _)
      | (with_reducible exact spec_whMake.mono _ _ _ _ _ _)
      | (with_reducible exact LeO.refl _)
      | (with_reducible exact LeO.none _)
      | (with_reducible refine LeO.ite ?_ ?_)
      | (with_reducible refine LeO.bind ?_ (fun _ => ?_))
      | exact ih0 _ _ _ _ _
      | exact ih1 _ _ _ _ _ _ _ _
      | exact ih2 _ _ _ _ _ _ _ _ _ _
      | exact spec_whAsked.mono _ _ _ _
      | exact spec_whMake.mono _ _ _ _ _ _
      | exact LeO.none _
      | refine LeO.ite ?_ ?_
      | refine LeO.bind ?_ (fun _ => ?_)
    · intro y0 y1 y2 y3 y4 y5 y6 y7
      unfold spec_NextCodes.l1
      repeat' first
      | (with_reducible exact ih0 _ _ _ _ _)
      | (with_reducible exact ih1 _ _ _ _ _ _ _ _)
      | (with_reducible exact ih2 _ _ _ _ _ _ _ _ _ _)
      | (with_reducible exact spec_whAsked.mono _ _ _ _)
      | (with_reducible exact spec_whMake.mono _ _ _ _ _ _)
      | (with_reducible exact LeO.refl _)
      | (with_reducible exact LeO.none _)
      | (with_reducible refine LeO.ite ?_ ?_)
      | (with_reducible refine LeO.bind ?_ (fun _ => ?_))
      | exact ih0 _ _ _ _ _
      | exact ih1 _ _ _ _ _ _ _ _
      | exact ih2 _ _ _ _ _ _ _ _ _ _
      | exact spec_whAsked.mono _ _ _ _
      | exact spec_whMake.mono _ _ _ _ _ _
      | exact LeO.none _
      | refine LeO.ite ?_ ?_
      | refine LeO.bind ?_ (fun _ => ?_)
    · intro y0 y1 y2 y3 y4 y5 y6 y7 y8 y9
      unfold spec_NextCodes.l2
      repeat' first
      | (with_reducible exact ih0 _ _ _ _ _)
      | (with_reducible exact ih1 _ _ _ _ _ _ _ _)
      | (with_reducible exact ih2 _ _ _ _ _ _ _ _ _ _)
      | (with_reducible exact spec_whAsked.mono _ _ _ _)
      | (with_reducible exact spec_whMake.mono _ _ _ _ _ _)
      | (with_reducible exact LeO.refl _)
      | (with_reducible exact LeO.none _)
      | (with_reducible refine LeO.ite ?_ ?_)
      | (with_reducible refine LeO.bind ?_ (fun _ => ?_))
      | exact ih0 _ _ _ _ _
      | exact ih1 _ _ _ _ _ _ _ _
      | exact ih2 _ _ _ _ _ _ _ _ _ _
      | exact spec_whAsked.mono _ _ _ _
      | exact spec_whMake.mono _ _ _ _ _ _
      | exact LeO.none _
      | refine LeO.ite ?_ ?_
      | refine LeO.bind ?_ (fun _ => ?_)
theorem spec_NextCodes.mono : ∀ a0 a1 a2 k, LeO (spec_NextCodes.f k a0 a1 a2) (spec_NextCodes.f (k + 1) a0 a1 a2) := by
  intro a0 a1 a2 k
  obtain ⟨ih0, ih1, ih2⟩ := spec_NextCodes.mono_l k
  unfold spec_NextCodes.f
  repeat' first
      | (with_reducible exact ih0 _ _ _ _ _)
      | (with_reducible exact ih1 _ _ _ _ _ _ _ _)
      | (with_reducible exact ih2 _ _ _ _ _ _ _ _ _ _)
      | (with_reducible exact spec_whAsked.mono _ _ _ _)
      | (with_reducible exact spec_whMake.mono _ _ _ _ _ _)
      | (with_reducible exact LeO.refl _)
      | (with_reducible exact LeO.none _)
      | (with_reducible refine LeO.ite ?_ ?_)
      | (with_reducible refine LeO.bind ?_ (fun _ => ?_))
      | exact ih0 _ _ _ _ _
      | exact ih1 _ _ _ _ _ _ _ _
      | exact ih2 _ _ _ _ _ _ _ _ _ _
      | exact spec_whAsked.mono _ _ _ _
      | exact spec_whMake.mono _ _ _ _ _ _
      | exact LeO.none _
      | refine LeO.ite ?_ ?_
      | refine LeO.bind ?_ (fun _ => ?_)
set_option maxHeartbeats 8000000 in
set_option maxRecDepth 100000 in
theorem spec_NextCodes.calls (k : Nat) (a0_0 : Int) (a0_1 : Int) (a1 : ByteArray) (r1 : List ByteArray) (r2 : Bool) (w : World) (h : spec_NextCodes.f k a0_0 a0_1 a1 = some (r1, r2)) :
    Calls Try.prog 85 #[.agg #[.int .i64 a0_0, .int .i64 a0_1], .string a1] w fun e w' => ∃ v0_ : Value, e = .returned (.tuple #[v0_, .bool r2]) ∧ Kd.R Kd.string 9 w' w.heap.size (fun _ => True) v0_ r1 ∧ Below w.heap.size w w' := by
  have hu28 := Try.underlying28
  have hu66 := Try.underlying66
  have HB := Aside0.mk (Below.refl w.heap.size w)
  have H : ((spec_whAsked.f k a0_0 a0_1 a1).bind fun t880 => (if t880 = true then (spec_NextCodes.l0 k a1 ([] : List ByteArray) 0 a0_0 a0_1) else (some (([] : List ByteArray), false)))) = some (r1, r2) := h
  clear h
  replace H := Option.bind_eq_some_iff.mp H
  obtain ⟨t880, A30, H⟩ := H
  try dsimp only at H
  have A3 := Aside0.mk A30
  clear A30
  by_cases c4 : t880 = true
  rotate_left
  · replace c4 := Bool.eq_false_iff.mpr c4
    subst c4
    rw [if_neg (show ¬ (false = true) by decide)] at H
    simp only [Option.some.injEq, Prod.mk.injEq] at H
    obtain ⟨rfl, rfl⟩ := H
    go_enter Try.func85, Try.ntmps85
    go_wp2_with (first | ((with_reducible refine gate_dst (N := 2) rfl ?_); refine box_event ?hg (N := 2) ?hd (cs := #[.int .i64 a0_0, .int .i64 a0_1]) (t := 28) ?hr ?_; (case hd => rfl); (case hg => rfl); (case hr => first | (go_simp; done) | (go_simp; rfl)); intro gb879 hg w48 hbox hb; have n0_ := bsx hb HB; have n1_ := Aside0.mk (hbox); have n2_ := gwx hg HB; have n3_ := n2_; clear HB; have HB := n0_; have BK879 := n1_; have GW879 := n2_; have GE879 := n3_; clear n0_ n1_ n2_ n3_; clear hb hbox hg; have hcz49_0 := cz0 BK879; have hcz49_1 := cz1 BK879; have hfz49_0 := blk_frozen BK879.out 0; have hfz49_1 := blk_frozen BK879.out 1) | ((with_reducible refine gate_callee (f := 137) rfl ?_); refine goesL_ (some 14) rfl rfl Try.func137 (by kernel_rfl) rfl #[.agg #[.int .i64 a0_0, .int .i64 a0_1], .string a1] rfl (by (try simp only [m_1, m_2, m_3]); first | done | rfl | (simp only [m_4, m_5]; rfl)) ?_; (with_reducible refine (spec_whAsked.calls k a0_0 a0_1 a1 false _ A3.out).mono ?_); rintro e w50 ⟨rfl, hb⟩; refine ⟨_, rfl, ?_⟩; replace BK879 := bbx hb BK879; replace HB := bsx hb HB; skip; (try clear hb); (try clear hb2); (try clear hk); (try clear hi)))
    go_ret2
    exact ⟨_, by first | rfl | (simp [errW_none, errW_some] <;> rfl) | (simp [*, errW_none, errW_some] <;> rfl), by first | exact Kd.R_nil _ _ _ _ _ | exact Kd.N_nil _ _ _ _ _ | exact Kd.V_nil _ _ _ _ _ | exact Kd.Q_nil _ _ _ _ _ | exact Kd.S_nil _ _ _ _ _, bB HB⟩

  subst c4
  rw [if_pos rfl] at H
  have H' := Aside0.mk H
  clear H
  go_enter Try.func85, Try.ntmps85
  go_wp2_with (first | ((with_reducible refine gate_dst (N := 2) rfl ?_); refine box_event ?hg (N := 2) ?hd (cs := #[.int .i64 a0_0, .int .i64 a0_1]) (t := 28) ?hr ?_; (case hd => rfl); (case hg => rfl); (case hr => first | (go_simp; done) | (go_simp; rfl)); intro gb879 hg w5 hbox hb; have n0_ := bsx hb HB; have n1_ := Aside0.mk (hbox); have n2_ := gwx hg HB; have n3_ := n2_; clear HB; have HB := n0_; have BK879 := n1_; have GW879 := n2_; have GE879 := n3_; clear n0_ n1_ n2_ n3_; clear hb hbox hg; have hcz6_0 := cz0 BK879; have hcz6_1 := cz1 BK879; have hfz6_0 := blk_frozen BK879.out 0; have hfz6_1 := blk_frozen BK879.out 1) | ((with_reducible refine gate_callee (f := 137) rfl ?_); refine goesL_ (some 14) rfl rfl Try.func137 (by kernel_rfl) rfl #[.agg #[.int .i64 a0_0, .int .i64 a0_1], .string a1] rfl (by (try simp only [m_1, m_2, m_3]); first | done | rfl | (simp only [m_4, m_5]; rfl)) ?_; (with_reducible refine (spec_whAsked.calls k a0_0 a0_1 a1 true _ A3.out).mono ?_); rintro e w7 ⟨rfl, hb⟩; refine ⟨_, rfl, ?_⟩; replace BK879 := bbx hb BK879; replace HB := bsx hb HB; skip; (try clear hb); (try clear hb2); (try clear hk); (try clear hi)))
  go_loopg [6, 7] k (fun kq v6 v7 w' => ∃ (x6_1 : List ByteArray) (x7_1 : Int), v7 = .int .i64 x7_1 ∧ Aside0 (spec_NextCodes.l0 kq a1 x6_1 x7_1 a0_0 a0_1 = some (r1, r2)) ∧ Aside0 (kq ≤ k) ∧ Aside0 (Kd.R Kd.string 9 w' w.heap.size (fun _ => True) v6 x6_1) ∧ Aside0 (w'.heap[gb879]? = some (.cells #[.int .i64 a0_0, .int .i64 a0_1] 28 (0, 0))) ∧ Aside0 (Below w.heap.size w w'))
  case atStart => exact ⟨(([] : List ByteArray)), (0), (by first | rfl | (simp; done) | (simp [*]; done)), H', ⟨Nat.le_refl _⟩, ⟨by first | exact Kd.R_nil _ _ _ _ _ | exact Kd.N_nil _ _ _ _ _ | exact Kd.V_nil _ _ _ _ _ | exact Kd.Q_nil _ _ _ _ _ | exact Kd.S_nil _ _ _ _ _⟩, ⟨bK BK879⟩, ⟨bB HB⟩⟩
  clear H'
  try clear c4
  try clear hcz6_0
  try clear hcz6_1
  try clear hfz6_0
  try clear hfz6_1
  obtain ⟨x6_1, x7_1, rfl, HA, HK1, HO_6, BK879, HB⟩ := hrel
  rcases gk with _ | k1
  · exact absurd HA.out (by simp [spec_NextCodes.l0])
  have H := HA.out
  clear HA
  simp only [spec_NextCodes.l0] at H
  by_cases c8 : x7_1 < a0_0
  rotate_left
  · rw [if_neg c8] at H
    have c8b0 : decide (x7_1 < a0_0) = false := decide_eq_false c8
    clear c8
    simp only [Option.some.injEq, Prod.mk.injEq] at H
    obtain ⟨rfl, rfl⟩ := H
    have hcz47_0 := cz0 BK879
    have hcz47_1 := cz1 BK879
    have hfz47_0 := blk_frozen BK879.out 0
    have hfz47_1 := blk_frozen BK879.out 1
    go_wp2
    go_ret2
    exact ⟨_, by first | rfl | (simp [errW_none, errW_some] <;> rfl) | (simp [*, errW_none, errW_some] <;> rfl), by (with_reducible repeat (first | apply r_a | apply r_d | apply r_e)); exact HO_6.out, bB HB⟩
  rw [if_pos c8] at H
  have c8b0 : decide (x7_1 < a0_0) = true := decide_eq_true c8
  clear c8
  obtain ⟨y881, hy881⟩ : ∃ y_ : List Int, y_ = (([1, (-1)] : List Int)) := ⟨_, rfl⟩
  replace H : (spec_NextCodes.l1 k1 a1 x6_1 x7_1 y881 (y881.length : Int) 0 a0_0 a0_1) = some (r1, r2) := by first | (rw [hy881]; with_reducible exact H) | (have H2_ := (Option.bind_some _ _).symm.trans H; rw [hy881]; with_reducible exact H2_) | (have H2_ := (Option.bind_some _ _).symm.trans H; with_reducible exact H2_) | with_reducible exact H | (rw [hy881]; exact H) | exact H
  have Ny881 := Aside0.mk hy881
  clear hy881
  have H' := Aside0.mk H
  clear H
  have hcz9_0 := cz0 BK879
  have hcz9_1 := cz1 BK879
  have hfz9_0 := blk_frozen BK879.out 0
  have hfz9_1 := blk_frozen BK879.out 1
  go_wp2_with (first | ((with_reducible refine gate_dst (N := 22) rfl ?_); refine Kd.R_lit (Kd.int .i64) _ 3 ?hg (N := 22) ?hd (xs := ([1, (-1)] : List Int)) (inner := [.int .i64 1, .int .i64 (-1)]) (ok := fun _ => True) (okp := fun _ => True) ?hr ?hp (fun _ hk => hk) trivial (Below.refl _ _) (Nat.le_refl _) (by simp) ?_; (case hd => rfl); (case hg => rfl); (case hr => first | (go_simp; done) | (go_simp; rfl)); (case hp => exact (Reps.one (show Kd.M (Kd.int .i64) _ _ _ 1 [.int .i64 1] from rfl) (Reps.one (show Kd.M (Kd.int .i64) _ _ _ (-1) [.int .i64 (-1)] from rfl) (Reps.none _ _)))); intro v882 w10 ho11 hb hg_ hnew_; clear hg_ hnew_; (first | rw [← Ny881.out] at ho11 | (simp only [Int.reduceToNat] at ho11; rw [← Ny881.out] at ho11)); have n0_ := Aside0.mk (Kd.R_below (by (with_reducible repeat (first | apply r_a | apply r_d | apply r_e)); exact HO_6.out) hb); have n1_ := Aside0.mk (Kd.R_lower ho11 (below_size (bB HB))); replace BK879 := bbx hb BK879; have n3_ := bsx hb HB; clear HO_6; clear HB; have HO_6 := n0_; have HO883 := n1_; have HB := n3_; clear n0_ n1_ n3_; clear hb ho11; obtain ⟨Ao12, co12, eo12⟩ := Kd.R_slice HO883.out; subst eo12))
  go_loopg [6, 24] k1 (fun kq v6 v24 w' => ∃ (x6_2 : List ByteArray) (x24_2 : Int), v24 = .int .i64 x24_2 ∧ Aside0 (spec_NextCodes.l1 kq a1 x6_2 x7_1 y881 (y881.length : Int) x24_2 a0_0 a0_1 = some (r1, r2)) ∧ Aside0 (kq ≤ k1) ∧ Aside0 (Kd.R Kd.string 9 w' w.heap.size (fun _ => True) v6 x6_2) ∧ Aside0 (Kd.R (Kd.int .i64) 3 w' w.heap.size (fun _ => True) (.slice Ao12 y881.length co12) y881) ∧ Aside0 (w'.heap[gb879]? = some (.cells #[.int .i64 a0_0, .int .i64 a0_1] 28 (0, 0))) ∧ Aside0 (Below w.heap.size w w'))
  case atStart => refine ⟨(x6_1), (0), (by first | rfl | (simp; done) | (simp [*]; done)), H', ⟨Nat.le_refl _⟩, ⟨?_⟩, ⟨?_⟩, ⟨?_⟩, ⟨bB HB⟩⟩ <;> (with_reducible repeat (first | refine g_d ?_ _ | refine g_e ?_ | refine g_a ?_ _ | apply r_a | apply r_d | apply r_e)) <;> first | exact BK879.out | exact HO_6.out | exact HO883.out
  clear H'
  try clear c8
  try clear c8b0
  try clear hcz9_0
  try clear hcz9_1
  try clear hfz9_0
  try clear hfz9_1
  obtain ⟨x6_2, x24_2, rfl, HA, HK2, HO_6, HO_22, BK879, HB⟩ := hrel
  rcases gk with _ | k2
  · exact absurd HA.out (by simp [spec_NextCodes.l1])
  have H := HA.out
  clear HA
  simp only [spec_NextCodes.l1] at H
  by_cases c13 : x24_2 < (y881.length : Int)
  rotate_left
  · rw [if_neg c13] at H
    have c13b0 : decide (x24_2 < (y881.length : Int)) = false := decide_eq_false c13
    clear c13
    have H' := Aside0.mk H
    clear H
    go_wp2
    go_roundg k2
    case measure => have := HK1.out; have := HK2.out; omega
    case rel => refine ⟨(x6_2), (wrap64 (x7_1 + 1)), (by first | rfl | (simp; done) | (simp [*]; done)), H', ⟨by have := HK1.out; have := HK2.out; omega⟩, ⟨?_⟩, ⟨?_⟩, ⟨bB HB⟩⟩ <;> (with_reducible repeat (first | refine g_d ?_ _ | refine g_e ?_ | refine g_a ?_ _ | apply r_a | apply r_d | apply r_e)) <;> first | exact BK879.out | exact HO_6.out
  rw [if_pos c13] at H
  have c13b0 : decide (x24_2 < (y881.length : Int)) = true := decide_eq_true c13
  clear c13
  by_cases c14 : 0 ≤ x24_2
  rotate_left
  · rw [if_neg c14] at H
    exact absurd H (by simp)
  rw [if_pos c14] at H
  have c14b0 : decide (0 ≤ x24_2) = true := decide_eq_true c14
  clear c14
  by_cases c15 : x24_2 < (y881.length : Int)
  rotate_left
  · rw [if_neg c15] at H
    exact absurd H (by simp)
  rw [if_pos c15] at H
  have c15b0 : decide (x24_2 < (y881.length : Int)) = true := decide_eq_true c15
  clear c15
  replace H := Option.bind_eq_some_iff.mp H
  obtain ⟨t885, A160, H⟩ := H
  try dsimp only at H
  have A16 := Aside0.mk A160
  clear A160
  have H' := Aside0.mk H
  clear H
  have p884 : 0 ≤ (x24_2 : Int) := of_decide_eq_true (by first | (with_reducible assumption) | assumption)
  have q884 : x24_2 < (y881.length : Int) := of_decide_eq_true (by first | (with_reducible assumption) | assumption)
  obtain ⟨ad884, e884, hx884_0⟩ := Kd.at_int (Kd.R_reads' HO_22.out).2.2 x24_2 p884 q884
  cases e884
  replace p884 := eq_true p884
  replace q884 := eq_true q884
  have hcz17_0 := cz0 BK879
  have hcz17_1 := cz1 BK879
  have hfz17_0 := blk_frozen BK879.out 0
  have hfz17_1 := blk_frozen BK879.out 1
  go_wp2_with (first | ((with_reducible refine gate_callee (f := 138) rfl ?_); refine goesL_ (some 33) rfl rfl Try.func138 (by kernel_rfl) rfl #[.agg #[.int .i64 a0_0, .int .i64 a0_1], .string a1, .agg #[.int .i64 x7_1, .int .i64 (rd y881 x24_2)]] rfl (by (try simp only [m_1, m_2, m_3]); first | done | rfl | (simp only [m_4, m_5]; rfl)) ?_; (with_reducible refine (spec_whMake.calls k2 a0_0 a0_1 a1 x7_1 (rd y881 x24_2) t885 _ A16.out).mono ?_); rintro e w18 ⟨rfl, hb⟩; refine ⟨_, rfl, ?_⟩; have n0_ := Aside0.mk (Kd.R_below (by (with_reducible repeat (first | apply r_a | apply r_d | apply r_e)); exact HO_6.out) hb); have n1_ := Aside0.mk (Kd.R_below (by (with_reducible repeat (first | apply r_a | apply r_d | apply r_e)); exact HO_22.out) hb); replace BK879 := bbx hb BK879; replace HB := bsx hb HB; clear HO_6; clear HO_22; have HO_6 := n0_; have HO_22 := n1_; clear n0_ n1_; (try clear hb); (try clear hb2); (try clear hk); (try clear hi)))
  go_loopg [11] k2 (fun kq v11 w' => ∃ (x11_3 : Int), v11 = .int .i64 x11_3 ∧ Aside0 (spec_NextCodes.l2 kq a1 x6_2 x7_1 t885 x11_3 y881 (y881.length : Int) x24_2 a0_0 a0_1 = some (r1, r2)) ∧ Aside0 (kq ≤ k2) ∧ Aside0 (Kd.R Kd.string 9 w' w.heap.size (fun _ => True) u6 x6_2) ∧ Aside0 (Kd.R (Kd.int .i64) 3 w' w.heap.size (fun _ => True) (.slice (some ad884) y881.length co12) y881) ∧ Aside0 (w'.heap[gb879]? = some (.cells #[.int .i64 a0_0, .int .i64 a0_1] 28 (0, 0))) ∧ Aside0 (Below w.heap.size w w'))
  case atStart => refine ⟨(0), (by first | rfl | (simp; done) | (simp [*]; done)), H', ⟨Nat.le_refl _⟩, ⟨?_⟩, ⟨?_⟩, ⟨?_⟩, ⟨bB HB⟩⟩ <;> (with_reducible repeat (first | refine g_d ?_ _ | refine g_e ?_ | refine g_a ?_ _ | apply r_a | apply r_d | apply r_e)) <;> first | exact BK879.out | exact HO_6.out | exact HO_22.out
  clear H'
  try clear c13
  try clear c13b0
  try clear c14
  try clear c14b0
  try clear c15
  try clear c15b0
  try clear hcz17_0
  try clear hcz17_1
  try clear hfz17_0
  try clear hfz17_1
  try clear hx884_0
  try clear p884
  try clear q884
  obtain ⟨x11_3, rfl, HA, HK3, HO_6, HO_22, BK879, HB⟩ := hrel
  rcases gk with _ | k3
  · exact absurd HA.out (by simp [spec_NextCodes.l2])
  have H := HA.out
  clear HA
  simp only [spec_NextCodes.l2] at H
  by_cases c19 : x11_3 < (x6_2.length : Int)
  rotate_left
  · rw [if_neg c19] at H
    have c19b0 : decide (x11_3 < (x6_2.length : Int)) = false := decide_eq_false c19
    clear c19
    by_cases c38 : x11_3 = (x6_2.length : Int)
    rotate_left
    · rw [if_neg c38] at H
      have c38b0 : (x11_3 == (x6_2.length : Int)) = false := beq_eq_false_iff_ne.mpr c38
      have c38b1 : (x11_3 != (x6_2.length : Int)) = true := bne_iff_ne.mpr c38
      by_cases c46 : 0 ≤ x11_3
      rotate_left
      · rw [if_neg c46] at H
        exact absurd H (by simp)
      rw [if_pos c46] at H
      exact absurd H (by simp)
    rw [if_pos c38] at H
    have c38b0 : (x11_3 == (x6_2.length : Int)) = true := beq_iff_eq.mpr c38
    have c38b1 : (x11_3 != (x6_2.length : Int)) = false := bne_eq_false_iff_eq.mpr c38
    clear c38
    by_cases c39 : 0 ≤ x11_3
    rotate_left
    · rw [if_neg c39] at H
      exact absurd H (by simp)
    rw [if_pos c39] at H
    have c39b0 := eq_true c39
    have c39b1 : decide (0 ≤ x11_3) = true := decide_eq_true c39
    clear c39
    by_cases c40 : x11_3 ≤ (x6_2.length : Int)
    rotate_left
    · rw [if_neg c40] at H
      exact absurd H (by simp)
    rw [if_pos c40] at H
    have c40b0 := eq_true c40
    have c40b1 : decide (x11_3 ≤ (x6_2.length : Int)) = true := decide_eq_true c40
    clear c40
    obtain ⟨y900, hy900⟩ : ∃ y_ : List ByteArray, y_ = (x6_2.take (x11_3 : Int).toNat) := ⟨_, rfl⟩
    replace H : (if x6_2.length < 8796093022000 then (spec_NextCodes.l1 k3 a1 ((y900 ++ [t885]) ++ x6_2.drop (x11_3 : Int).toNat) x7_1 y881 (y881.length : Int) (wrap64 (x24_2 + 1)) a0_0 a0_1) else (none)) = some (r1, r2) := by first | (rw [hy900]; with_reducible exact H) | (have H2_ := (Option.bind_some _ _).symm.trans H; rw [hy900]; with_reducible exact H2_) | (have H2_ := (Option.bind_some _ _).symm.trans H; with_reducible exact H2_) | with_reducible exact H | (rw [hy900]; exact H) | exact H
    have Ny900 := Aside0.mk hy900
    clear hy900
    by_cases c41 : x6_2.length < 8796093022000
    rotate_left
    · rw [if_neg c41] at H
      exact absurd H (by simp)
    rw [if_pos c41] at H
    have LMc41 := Aside0.mk c41
    clear c41
    obtain ⟨y903, hy903⟩ : ∃ y_ : List ByteArray, y_ = ((y900 ++ [t885]) ++ x6_2.drop (x11_3 : Int).toNat) := ⟨_, rfl⟩
    replace H : (spec_NextCodes.l1 k3 a1 y903 x7_1 y881 (y881.length : Int) (wrap64 (x24_2 + 1)) a0_0 a0_1) = some (r1, r2) := by first | (rw [hy903]; with_reducible exact H) | (have H2_ := (Option.bind_some _ _).symm.trans H; rw [hy903]; with_reducible exact H2_) | (have H2_ := (Option.bind_some _ _).symm.trans H; with_reducible exact H2_) | with_reducible exact H | (rw [hy903]; exact H) | exact H
    have Ny903 := Aside0.mk hy903
    clear hy903
    have H' := Aside0.mk H
    clear H
    obtain ⟨Ao42, co42, eo42⟩ := Kd.R_slice HO_6.out
    subst eo42
    try go_wp2
    have n0_ := Aside0.mk (r_e HO_6.out)
    have n1_ := Aside0.mk (r_e HO_22.out)
    have n2_ := Aside0.mk (g_e BK879.out)
    have n3_ := Aside0.mk (b_e HB.out)
    clear HO_6
    clear HO_22
    clear BK879
    clear HB
    have HO_6 := n0_
    have HO_22 := n1_
    have BK879 := n2_
    have HB := n3_
    clear n0_ n1_ n2_ n3_
    have q44 : (x11_3 : Int) ≤ ((x6_2.length : Int) : Int) := of_decide_eq_true (by first | (with_reducible assumption) | assumption)
    obtain ⟨i044, hi044, _, hsz44, _⟩ := info_parts info9
    have h0q := (of_decide_eq_true (by first | (with_reducible assumption) | assumption) : 0 ≤ (x11_3 : Int))
    have hcut44 := cut_to (P := Try.prog) 24 9 .i64 Try.underlying24 hi044 Ao42 x6_2.length co42 x11_3 (of_decide_eq_true (by first | (with_reducible assumption) | assumption)) q44 (Kd.R_reads' HO_6.out).2.1
    have hcutD44 := cut_from (P := Try.prog) 24 9 .i64 Try.underlying24 hi044 1 hsz44 Ao42 x6_2.length co42 x11_3 h0q q44
    obtain ⟨XT_, hXT⟩ : ∃ y_ : List ByteArray, y_ = x6_2.take (x11_3 : Int).toNat := ⟨_, rfl⟩
    obtain ⟨XD_, hXD⟩ : ∃ y_ : List ByteArray, y_ = x6_2.drop (x11_3 : Int).toNat := ⟨_, rfl⟩
    have lT : XT_.length = (x11_3 : Int).toNat := by rw [hXT, m_5]; omega
    have lD : XD_.length = x6_2.length - (x11_3 : Int).toNat := by rw [hXD, m_4]
    have hCT := Kd.C_take (m := (x11_3 : Int).toNat) (Kd.R_reads' HO_6.out).2.2 (by omega)
    have hCD := Kd.C_drop (c := co42) (m := (x11_3 : Int).toNat) (Kd.R_reads' HO_6.out).2.2 (by omega) (Kd.R_reads' HO_6.out).2.1
    rw [← hXT] at hCT
    rw [← hXD] at hCD
    simp only [show Kd.string.sz = 1 from rfl, Nat.mul_one] at hCD
    simp only [Nat.mul_one] at hcutD44
    generalize hAD : (if co42 = (x11_3 : Int).toNat then Ao42 else Option.map (fun x => x.add (x11_3 : Int).toNat) Ao42) = AD_ at hcutD44 hCD
    clear hAD
    rw [← lT] at hcut44
    rw [← lD] at hcutD44
    have HCT := Aside0.mk hCT
    have HCD := Aside0.mk hCD
    have NXT := Aside0.mk hXT
    have NXD := Aside0.mk hXD
    have LMT := Aside0.mk lT
    have LMD := Aside0.mk lD
    have LMK := Aside0.mk (And.intro LMc41.out (show (x11_3 : Int).toNat ≤ x6_2.length by omega))
    clear hCT hCD hXT hXD lT lD h0q hi044 hsz44 HO_6
    replace q44 := eq_true q44
    have HBr := Aside0.mk (Below.refl wr.drew.heap.size wr.drew)
    refine start_ (n := 13) (S := fun w' => True) (ds := []) (bs_ 13 0) (by kernel_rfl) rfl rfl trivial (fun hHeld => ?_)
    generalize wr.drew = WB_ at HO_22 BK879 HB HCT HCD HBr hHeld ⊢
    refine pure_ (i := 1) (N := some 61) (v := ?_) (a' := ?_) (bs_ 13 2) rfl rfl (by kernel_rfl) (fun _ _ _ h => h) (Or.inl ⟨by rfl, ?_⟩) ?_ ?_
    rotate_left
    · intro w'
      go_simp
      with_reducible rfl
    rotate_left
    · simp only [Act.put, s_1, s_2, s_3, i64_w, i32_w]
      rfl
    refine pure_ (i := 2) (N := some 62) (v := ?_) (a' := ?_) (bs_ 13 6) rfl rfl (by kernel_rfl) (fun _ _ _ h => h) (Or.inl ⟨by rfl, ?_⟩) ?_ ?_
    rotate_left
    · intro w'
      go_simp
      with_reducible rfl
    rotate_left
    · simp only [Act.put, s_1, s_2, s_3, i64_w, i32_w]
      rfl
    refine pure_ (i := 3) (N := some 63) (v := ?_) (a' := ?_) (bs_ 13 14) rfl rfl (by kernel_rfl) (fun _ _ _ h => h) (Or.inl ⟨by rfl, ?_⟩) ?_ ?_
    rotate_left
    · intro w'
      go_simp
      with_reducible rfl
    rotate_left
    · simp only [Act.put, s_1, s_2, s_3, i64_w, i32_w]
      rfl
    refine pure_ (i := 5) (N := some 65) (v := ?_) (a' := ?_) (bs_ 13 46) rfl rfl (by kernel_rfl) (fun _ _ _ h => h) (Or.inl ⟨by rfl, ?_⟩) ?_ ?_
    rotate_left
    · intro w'
      go_simp
      with_reducible rfl
    rotate_left
    · simp only [Act.put, s_1, s_2, s_3, i64_w, i32_w]
      rfl
    refine pure_ (i := 8) (N := some 68) (v := ?_) (a' := ?_) (bs_ 13 302) rfl rfl (by kernel_rfl) (fun _ _ _ h => h) (Or.inl ⟨by rfl, ?_⟩) ?_ ?_
    rotate_left
    · intro w'
      go_simp
      with_reducible rfl
    rotate_left
    · simp only [Act.put, s_1, s_2, s_3, i64_w, i32_w]
      rfl
    refine pure_ (i := 9) (N := some 69) (v := ?_) (a' := ?_) (bs_ 13 814) rfl rfl (by kernel_rfl) (fun _ _ _ h => h) (Or.inl ⟨by rfl, ?_⟩) ?_ ?_
    rotate_left
    · intro w'
      go_simp
      with_reducible rfl
    rotate_left
    · simp only [Act.put, s_1, s_2, s_3, i64_w, i32_w]
      rfl
    refine pure_ (i := 10) (N := some 70) (v := ?_) (a' := ?_) (bs_ 13 1838) rfl rfl (by kernel_rfl) (fun _ _ _ h => h) (Or.inl ⟨by rfl, ?_⟩) ?_ ?_
    rotate_left
    · intro w'
      go_simp
      with_reducible rfl
    rotate_left
    · simp only [Act.put, s_1, s_2, s_3, i64_w, i32_w]
      rfl
    refine join_ (σ := Value × Value × Value) 3 (bs_ 13 1919) (fun s => [(60, s.1), (64, s.2.1), (66, s.2.2)]) (fun s w' => Kd.R Kd.string 9 w' WB_.heap.size (fun k_ => some k_ ≠ s.2.2.ownBlock) s.2.1 XT_ ∧ Kd.R Kd.string 9 w' WB_.heap.size (fun k_ => some k_ ≠ s.2.1.ownBlock) s.2.2 [t885] ∧ Below WB_.heap.size WB_ w') ?_ ?_
    rotate_left
    · intro hCont
      refine two_ (i := 0) (j := 6) (Ni := some 60) (Nj := some 66) (bs_ 13 1839) (bs_ 13 1902) rfl rfl rfl rfl (by kernel_rfl) (by decide) (by decide) (fun K hK => ?_) (fun K hK => ?_)
      rotate_left
      · skip
        refine Kd.R_lit_step Kd.string _ 9 ?hg (N := 66) ?hd (xs := ([t885] : List ByteArray)) (inner := [.string t885]) (ok := fun _ => True) (okp := fun _ => True) ?hr ?hp (fun _ hk => hk) trivial (Below.refl _ _) (Nat.le_refl _) (by simp) ?_; (case hd => rfl); (case hg => rfl); (case hr => first | (go_simp; done) | (go_simp; rfl)); (case hp => exact (Reps.one (show Kd.M Kd.string _ _ _ t885 [.string t885] from rfl) (Reps.none _ _)))
        intro v66 w66 ho hb hg_ hnew_
        clear hg_ hnew_
        have H66 := Aside0.mk (Kd.R_lower ho HBr.out.size)
        replace HBr := Aside0.mk (below_step HBr.out hb)
        clear hb ho
        refine hK.out _ _ trivial (fun hHeld => ?_)
        clear hK K
        refine norm_ (a' := ?_) ?_ ?_
        rotate_left
        · show Act.put _ (some 66) _ = _
          simp only [Act.put, s_1, s_2, s_3, i64_w, i32_w]
          rfl
        refine one_ (i := 0) (N := some 60) (bs_ 13 1903) rfl rfl (by kernel_rfl) (by decide) (fun K hK => ?_)
        refine Kd.R_lit_step Kd.string _ 9 ?hg (N := 60) ?hd (xs := ([] : List ByteArray)) (inner := []) (ok := fun _ => True) (okp := fun _ => True) ?hr ?hp (fun _ hk => hk) trivial (Below.refl _ _) (Nat.le_refl _) (by simp) ?_; (case hd => rfl); (case hg => rfl); (case hr => first | (go_simp; done) | (go_simp; rfl)); (case hp => exact Reps.none _ _)
        intro v60 w60 ho hb hg_ hnew_
        clear hg_ hnew_
        have H60 := Aside0.mk (Kd.R_mono (Kd.R_lower (Kd.R_new' ho (Kd.R_lt H66.out)) HBr.out.size) (fun _ hk => hk.2))
        replace H66 := Aside0.mk (Kd.R_mono (Kd.R_elder' H66.out (Kd.R_base ho) hb) (fun _ hk => hk.2))
        replace HBr := Aside0.mk (below_step HBr.out hb)
        clear hb ho
        refine hK.out _ _ trivial (fun hHeld => ?_)
        clear hK K
        refine norm_ (a' := ?_) ?_ ?_
        rotate_left
        · show Act.put _ (some 60) _ = _
          simp only [Act.put, s_1, s_2, s_3, i64_w, i32_w]
          rfl
        refine one_ (i := 4) (N := some 64) (bs_ 13 1919) rfl rfl (by kernel_rfl) (by decide) (fun K hK => ?_)
        refine Kd.R_append_rows_step Kd.string (w0 := WB_) WB_.heap.size (by rfl) (.tmp 60) (.tmp 63) 24 9 (.string ⟨#[]⟩) 16 rfl Try.underlying24 info9 rfl (by decide) (by omega) v60 [] XT_ _ _ _ (fun k_ => some k_ ≠ (v66 : Value).ownBlock) (fun _ => False) rfl rfl ?aO ?aR (fun _ _ h => h) (fun _ h => h.elim) ?aF ?aB ?aS ?aL ?_
        (case aR => exact (Kd.C_below HCT.out HBr.out))
        (case aB => exact HBr.out)
        (case aF => exact (fun k_ hk => Kd.fresh' (Kd.R_lt H66.out) k_ hk))
        (case aO => exact H60.out)
        (case aS => exact HBr.out.size)
        (case aL => have := LMK.out; have := LMT.out; simp only [List.length_nil]; omega)
        intro v64 w64 ho hb hg hat
        replace ho : Kd.R Kd.string 9 w64 WB_.heap.size (fun k_ => some k_ ≠ (v66 : Value).ownBlock) v64 XT_ := ho
        replace H66 := Aside0.mk (Kd.R_mono (Kd.R_after (ok := fun _ => True) (Kd.R_mono H66.out (fun _ hk => ⟨trivial, hk⟩)) hg hat) (fun _ hk => hk.2))
        have H64 := Aside0.mk ho
        clear H60
        replace HBr := Aside0.mk hb
        clear ho hb hg hat
        refine hK.out _ _ trivial (fun hHeld => ?_)
        clear hK K
        refine norm_ (a' := ?_) ?_ ?_
        rotate_left
        · show Act.put _ (some 64) _ = _
          simp only [Act.put, s_1, s_2, s_3, i64_w, i32_w]
          rfl
        exact norm_ (by simp only [putAll, Act.put, s_1, s_2, s_3]) (hCont (v60, v64, v66) _ ⟨H64.out, H66.out, HBr.out⟩)
      skip
      refine Kd.R_lit_step Kd.string _ 9 ?hg (N := 60) ?hd (xs := ([] : List ByteArray)) (inner := []) (ok := fun _ => True) (okp := fun _ => True) ?hr ?hp (fun _ hk => hk) trivial (Below.refl _ _) (Nat.le_refl _) (by simp) ?_; (case hd => rfl); (case hg => rfl); (case hr => first | (go_simp; done) | (go_simp; rfl)); (case hp => exact Reps.none _ _)
      intro v60 w60 ho hb hg_ hnew_
      clear hg_ hnew_
      have H60 := Aside0.mk (Kd.R_lower ho HBr.out.size)
      replace HBr := Aside0.mk (below_step HBr.out hb)
      clear hb ho
      refine hK.out _ _ trivial (fun hHeld => ?_)
      clear hK K
      refine norm_ (a' := ?_) ?_ ?_
      rotate_left
      · show Act.put _ (some 60) _ = _
        simp only [Act.put, s_1, s_2, s_3, i64_w, i32_w]
        rfl
      refine two_ (i := 4) (j := 6) (Ni := some 64) (Nj := some 66) (bs_ 13 1855) (bs_ 13 1903) rfl rfl rfl rfl (by kernel_rfl) (by decide) (by decide) (fun K hK => ?_) (fun K hK => ?_)
      · skip
        refine Kd.R_append_rows_step Kd.string (w0 := WB_) WB_.heap.size (by rfl) (.tmp 60) (.tmp 63) 24 9 (.string ⟨#[]⟩) 16 rfl Try.underlying24 info9 rfl (by decide) (by omega) v60 [] XT_ _ _ _ (fun _ => True) (fun _ => False) rfl rfl ?aO ?aR (fun _ _ h => h) (fun _ h => h.elim) ?aF ?aB ?aS ?aL ?_
        (case aR => exact (Kd.C_below HCT.out HBr.out))
        (case aB => exact HBr.out)
        (case aF => exact (fun _ _ => trivial))
        (case aO => exact H60.out)
        (case aS => exact HBr.out.size)
        (case aL => have := LMK.out; have := LMT.out; simp only [List.length_nil]; omega)
        intro v64 w64 ho hb hg hat
        replace ho : Kd.R Kd.string 9 w64 WB_.heap.size (fun _ => True) v64 XT_ := ho
        have H64 := Aside0.mk ho
        clear H60
        replace HBr := Aside0.mk hb
        clear ho hb hg hat
        refine hK.out _ _ trivial (fun hHeld => ?_)
        clear hK K
        refine norm_ (a' := ?_) ?_ ?_
        rotate_left
        · show Act.put _ (some 64) _ = _
          simp only [Act.put, s_1, s_2, s_3, i64_w, i32_w]
          rfl
        refine one_ (i := 6) (N := some 66) (bs_ 13 1919) rfl rfl (by kernel_rfl) (by decide) (fun K hK => ?_)
        refine Kd.R_lit_step Kd.string _ 9 ?hg (N := 66) ?hd (xs := ([t885] : List ByteArray)) (inner := [.string t885]) (ok := fun _ => True) (okp := fun _ => True) ?hr ?hp (fun _ hk => hk) trivial (Below.refl _ _) (Nat.le_refl _) (by simp) ?_; (case hd => rfl); (case hg => rfl); (case hr => first | (go_simp; done) | (go_simp; rfl)); (case hp => exact (Reps.one (show Kd.M Kd.string _ _ _ t885 [.string t885] from rfl) (Reps.none _ _)))
        intro v66 w66 ho hb hg_ hnew_
        clear hg_ hnew_
        have H66 := Aside0.mk (Kd.R_mono (Kd.R_lower (Kd.R_new' ho (Kd.R_lt H64.out)) HBr.out.size) (fun _ hk => hk.2))
        replace H64 := Aside0.mk (Kd.R_mono (Kd.R_elder' H64.out (Kd.R_base ho) hb) (fun _ hk => hk.2))
        replace HBr := Aside0.mk (below_step HBr.out hb)
        clear hb ho
        refine hK.out _ _ trivial (fun hHeld => ?_)
        clear hK K
        refine norm_ (a' := ?_) ?_ ?_
        rotate_left
        · show Act.put _ (some 66) _ = _
          simp only [Act.put, s_1, s_2, s_3, i64_w, i32_w]
          rfl
        exact norm_ (by simp only [putAll, Act.put, s_1, s_2, s_3]) (hCont (v60, v64, v66) _ ⟨H64.out, H66.out, HBr.out⟩)
      skip
      refine Kd.R_lit_step Kd.string _ 9 ?hg (N := 66) ?hd (xs := ([t885] : List ByteArray)) (inner := [.string t885]) (ok := fun _ => True) (okp := fun _ => True) ?hr ?hp (fun _ hk => hk) trivial (Below.refl _ _) (Nat.le_refl _) (by simp) ?_; (case hd => rfl); (case hg => rfl); (case hr => first | (go_simp; done) | (go_simp; rfl)); (case hp => exact (Reps.one (show Kd.M Kd.string _ _ _ t885 [.string t885] from rfl) (Reps.none _ _)))
      intro v66 w66 ho hb hg_ hnew_
      clear hg_ hnew_
      have H66 := Aside0.mk (Kd.R_mono (Kd.R_lower (Kd.R_new' ho (Kd.R_lt H60.out)) HBr.out.size) (fun _ hk => hk.2))
      replace H60 := Aside0.mk (Kd.R_mono (Kd.R_elder' H60.out (Kd.R_base ho) hb) (fun _ hk => hk.2))
      replace HBr := Aside0.mk (below_step HBr.out hb)
      clear hb ho
      refine hK.out _ _ trivial (fun hHeld => ?_)
      clear hK K
      refine norm_ (a' := ?_) ?_ ?_
      rotate_left
      · show Act.put _ (some 66) _ = _
        simp only [Act.put, s_1, s_2, s_3, i64_w, i32_w]
        rfl
      refine one_ (i := 4) (N := some 64) (bs_ 13 1919) rfl rfl (by kernel_rfl) (by decide) (fun K hK => ?_)
      refine Kd.R_append_rows_step Kd.string (w0 := WB_) WB_.heap.size (by rfl) (.tmp 60) (.tmp 63) 24 9 (.string ⟨#[]⟩) 16 rfl Try.underlying24 info9 rfl (by decide) (by omega) v60 [] XT_ _ _ _ (fun k_ => some k_ ≠ (v66 : Value).ownBlock) (fun _ => False) rfl rfl ?aO ?aR (fun _ _ h => h) (fun _ h => h.elim) ?aF ?aB ?aS ?aL ?_
      (case aR => exact (Kd.C_below HCT.out HBr.out))
      (case aB => exact HBr.out)
      (case aF => exact (fun k_ hk => Kd.fresh' (Kd.R_lt H66.out) k_ hk))
      (case aO => exact H60.out)
      (case aS => exact HBr.out.size)
      (case aL => have := LMK.out; have := LMT.out; simp only [List.length_nil]; omega)
      intro v64 w64 ho hb hg hat
      replace ho : Kd.R Kd.string 9 w64 WB_.heap.size (fun k_ => some k_ ≠ (v66 : Value).ownBlock) v64 XT_ := ho
      replace H66 := Aside0.mk (Kd.R_mono (Kd.R_after (ok := fun _ => True) (Kd.R_mono H66.out (fun _ hk => ⟨trivial, hk⟩)) hg hat) (fun _ hk => hk.2))
      have H64 := Aside0.mk ho
      clear H60
      replace HBr := Aside0.mk hb
      clear ho hb hg hat
      refine hK.out _ _ trivial (fun hHeld => ?_)
      clear hK K
      refine norm_ (a' := ?_) ?_ ?_
      rotate_left
      · show Act.put _ (some 64) _ = _
        simp only [Act.put, s_1, s_2, s_3, i64_w, i32_w]
        rfl
      exact norm_ (by simp only [putAll, Act.put, s_1, s_2, s_3]) (hCont (v60, v64, v66) _ ⟨H64.out, H66.out, HBr.out⟩)
    rintro ⟨v60, v64, v66⟩ w66 ⟨h0_, h1_, h2_⟩
    have H64 := Aside0.mk h0_
    have H66 := Aside0.mk h1_
    replace HBr := Aside0.mk h2_
    clear h0_ h1_ h2_
    have hHeld := trivial
    obtain ⟨A66, c66, e66⟩ := Kd.R_slice H66.out
    subst e66
    refine norm_ (a' := ?_) ?_ ?_
    rotate_left
    · simp only [putAll, Act.put, s_1, s_2, s_3]
      rfl
    refine one_ (i := 7) (N := some 67) (bs_ 13 2047) rfl rfl (by kernel_rfl) (by decide) (fun K hK => ?_)
    refine Kd.R_append_rows_step Kd.string (w0 := WB_) WB_.heap.size (by rfl) (.tmp 64) (.tmp 66) 24 9 (.string ⟨#[]⟩) 16 rfl Try.underlying24 info9 rfl (by decide) (by omega) v64 XT_ [t885] _ _ _ (fun k_ => some k_ ≠ (.slice A66 [t885].length c66 : Value).ownBlock) (fun _ => False) rfl rfl ?aO ?aR (fun _ _ h => h) (fun _ h => h.elim) ?aF ?aB ?aS ?aL ?_
    (case aR => exact ((Kd.R_reads' H66.out).2.2))
    (case aB => exact HBr.out)
    (case aF => exact (fun k_ hk => Kd.fresh' (Kd.R_lt H66.out) k_ hk))
    (case aO => exact H64.out)
    (case aS => exact HBr.out.size)
    (case aL => have := LMK.out; have := LMT.out; simp only [List.length_cons, List.length_nil]; omega)
    intro v67 w67 ho hb hg hat
    have H67 := Aside0.mk (Kd.R_mono (ok' := fun _ => True) ho (fun _ _ => trivial))
    replace HBr := Aside0.mk hb
    clear ho hb hg hat H64 H66
    refine hK.out _ _ trivial (fun hHeld => ?_)
    clear hK K
    refine norm_ (a' := ?_) ?_ ?_
    rotate_left
    · show Act.put _ (some 67) _ = _
      simp only [Act.put, s_1, s_2, s_3, i64_w, i32_w]
      rfl
    refine one_ (i := 11) (N := some 71) (bs_ 13 4095) rfl rfl (by kernel_rfl) (by decide) (fun K hK => ?_)
    refine Kd.R_append_rows_step Kd.string (w0 := WB_) WB_.heap.size (by rfl) (.tmp 67) (.tmp 70) 24 9 (.string ⟨#[]⟩) 16 rfl Try.underlying24 info9 rfl (by decide) (by omega) v67 (XT_ ++ [t885]) XD_ _ _ _ (fun _ => True) (fun _ => False) rfl rfl ?aO ?aR (fun _ _ h => h) (fun _ h => h.elim) ?aF ?aB ?aS ?aL ?_
    (case aR => exact (Kd.C_below HCD.out HBr.out))
    (case aB => exact HBr.out)
    (case aF => exact (fun _ _ => trivial))
    (case aO => exact H67.out)
    (case aS => exact HBr.out.size)
    (case aL => have := LMK.out; have := LMT.out; have := LMD.out; simp only [List.length_append, List.length_cons, List.length_nil]; omega)
    intro v71 w71 ho hb hg hat
    have H71 := Aside0.mk ho
    replace HBr := Aside0.mk hb
    clear ho hb hg hat H67
    refine hK.out _ _ trivial (fun hHeld => ?_)
    clear hK K
    refine norm_ (a' := ?_) ?_ ?_
    rotate_left
    · show Act.put _ (some 71) _ = _
      simp only [Act.put, s_1, s_2, s_3, i64_w, i32_w]
      rfl
    refine pure_ (i := 12) (N := some 6) (v := ?_) (a' := ?_) (bs_ 13 8191) rfl rfl (by kernel_rfl) (fun _ _ _ h => h) (Or.inl ⟨by rfl, ?_⟩) ?_ ?_
    rotate_left
    · intro w'
      go_simp
      with_reducible rfl
    rotate_left
    · simp only [Act.put, s_1, s_2, s_3, i64_w, i32_w]
      rfl
    refine done_ (by kernel_rfl) ?_
    have n0_ := Aside0.mk (Kd.R_lower H71.out (below_size HB.out))
    replace HO_22 := Aside0.mk (Kd.R_below HO_22.out HBr.out)
    replace BK879 := Aside0.mk (blk_below (g := gb879) (o := .cells #[.int .i64 a0_0, .int .i64 a0_1] 28 (0, 0)) BK879.out HBr.out)
    replace HB := Aside0.mk (below_step HB.out HBr.out)
    have hy_ : (XT_ ++ [t885]) ++ XD_ = y903 := by rw [Ny903.out, Ny900.out, NXT.out, NXD.out]
    rw [hy_] at n0_
    clear hy_ H71 HBr HCT HCD
    have HO905 := n0_
    clear n0_
    try go_wp2
    go_roundg k3
    case measure => have := HK1.out; have := HK2.out; have := HK3.out; omega
    case rel => refine ⟨(y903), (wrap64 (x24_2 + 1)), (by first | rfl | (simp; done) | (simp [*]; done)), H', ⟨by have := HK1.out; have := HK2.out; have := HK3.out; omega⟩, ⟨?_⟩, ⟨?_⟩, ⟨?_⟩, ⟨bB HB⟩⟩ <;> (with_reducible repeat (first | refine g_d ?_ _ | refine g_e ?_ | refine g_a ?_ _ | apply r_a | apply r_d | apply r_e)) <;> first | exact BK879.out | exact HO905.out | exact HO_22.out
  rw [if_pos c19] at H
  have c19b0 : decide (x11_3 < (x6_2.length : Int)) = true := decide_eq_true c19
  clear c19
  by_cases c20 : 0 ≤ x11_3
  rotate_left
  · rw [if_neg c20] at H
    exact absurd H (by simp)
  rw [if_pos c20] at H
  have c20b0 : decide (0 ≤ x11_3) = true := decide_eq_true c20
  clear c20
  by_cases c21 : (Op.bytesLess ((rdOf ByteArray.empty x6_2 x11_3).toList) t885.toList) = true
  · rw [if_pos c21] at H
    have c21b0 : (Op.bytesLess ((rdOf ByteArray.empty x6_2 x11_3).toList) t885.toList) = true := c21
    clear c21
    have H' := Aside0.mk H
    clear H
    obtain ⟨Ao22, co22, eo22⟩ := Kd.R_slice HO_6.out
    subst eo22
    have p886 : 0 ≤ (x11_3 : Int) := of_decide_eq_true (by first | (with_reducible assumption) | assumption)
    have q886 : x11_3 < (x6_2.length : Int) := of_decide_eq_true (by first | (with_reducible assumption) | assumption)
    obtain ⟨ad886, e886, hx886_0⟩ := Kd.at_string (Kd.R_reads' HO_6.out).2.2 x11_3 p886 q886
    cases e886
    replace p886 := eq_true p886
    replace q886 := eq_true q886
    go_wp2
    go_roundg k3
    case measure => have := HK1.out; have := HK2.out; have := HK3.out; omega
    case rel => refine ⟨(wrap64 (x11_3 + 1)), (by first | rfl | (simp; done) | (simp [*]; done)), H', ⟨by have := HK1.out; have := HK2.out; have := HK3.out; omega⟩, ⟨?_⟩, ⟨?_⟩, ⟨?_⟩, ⟨bB HB⟩⟩ <;> (with_reducible repeat (first | refine g_d ?_ _ | refine g_e ?_ | refine g_a ?_ _ | apply r_a | apply r_d | apply r_e)) <;> first | exact BK879.out | exact HO_6.out | exact HO_22.out
  rw [if_neg c21] at H
  have c21b0 : (Op.bytesLess ((rdOf ByteArray.empty x6_2 x11_3).toList) t885.toList) = false := by simpa using c21
  clear c21
  by_cases c23 : x11_3 = (x6_2.length : Int)
  · rw [if_pos c23] at H
    have c23b0 : (x11_3 == (x6_2.length : Int)) = true := beq_iff_eq.mpr c23
    have c23b1 : (x11_3 != (x6_2.length : Int)) = false := bne_eq_false_iff_eq.mpr c23
    clear c23
    by_cases c24 : x11_3 ≤ (x6_2.length : Int)
    · rw [if_pos c24] at H
      have c24b0 := eq_true c24
      have c24b1 : decide (x11_3 ≤ (x6_2.length : Int)) = true := decide_eq_true c24
      clear c24
      obtain ⟨y887, hy887⟩ : ∃ y_ : List ByteArray, y_ = (x6_2.take (x11_3 : Int).toNat) := ⟨_, rfl⟩
      replace H : (if x6_2.length < 8796093022000 then (spec_NextCodes.l1 k3 a1 ((y887 ++ [t885]) ++ x6_2.drop (x11_3 : Int).toNat) x7_1 y881 (y881.length : Int) (wrap64 (x24_2 + 1)) a0_0 a0_1) else (none)) = some (r1, r2) := by first | (rw [hy887]; with_reducible exact H) | (have H2_ := (Option.bind_some _ _).symm.trans H; rw [hy887]; with_reducible exact H2_) | (have H2_ := (Option.bind_some _ _).symm.trans H; with_reducible exact H2_) | with_reducible exact H | (rw [hy887]; exact H) | exact H
      have Ny887 := Aside0.mk hy887
      clear hy887
      by_cases c25 : x6_2.length < 8796093022000
      · rw [if_pos c25] at H
        have LMc25 := Aside0.mk c25
        clear c25
        obtain ⟨y890, hy890⟩ : ∃ y_ : List ByteArray, y_ = ((y887 ++ [t885]) ++ x6_2.drop (x11_3 : Int).toNat) := ⟨_, rfl⟩
        replace H : (spec_NextCodes.l1 k3 a1 y890 x7_1 y881 (y881.length : Int) (wrap64 (x24_2 + 1)) a0_0 a0_1) = some (r1, r2) := by first | (rw [hy890]; with_reducible exact H) | (have H2_ := (Option.bind_some _ _).symm.trans H; rw [hy890]; with_reducible exact H2_) | (have H2_ := (Option.bind_some _ _).symm.trans H; with_reducible exact H2_) | with_reducible exact H | (rw [hy890]; exact H) | exact H
        have Ny890 := Aside0.mk hy890
        clear hy890
        have H' := Aside0.mk H
        clear H
        obtain ⟨Ao26, co26, eo26⟩ := Kd.R_slice HO_6.out
        subst eo26
        have p886 : 0 ≤ (x11_3 : Int) := of_decide_eq_true (by first | (with_reducible assumption) | assumption)
        have q886 : x11_3 < (x6_2.length : Int) := of_decide_eq_true (by first | (with_reducible assumption) | assumption)
        obtain ⟨ad886, e886, hx886_0⟩ := Kd.at_string (Kd.R_reads' HO_6.out).2.2 x11_3 p886 q886
        cases e886
        replace p886 := eq_true p886
        replace q886 := eq_true q886
        try go_wp2
        have n0_ := Aside0.mk (r_e HO_6.out)
        have n1_ := Aside0.mk (r_e HO_22.out)
        have n2_ := Aside0.mk (g_e BK879.out)
        have n3_ := Aside0.mk (b_e HB.out)
        clear HO_6
        clear HO_22
        clear BK879
        clear HB
        have HO_6 := n0_
        have HO_22 := n1_
        have BK879 := n2_
        have HB := n3_
        clear n0_ n1_ n2_ n3_
        have q28 : (x11_3 : Int) ≤ ((x6_2.length : Int) : Int) := of_decide_eq_true (by first | (with_reducible assumption) | assumption)
        obtain ⟨i028, hi028, _, hsz28, _⟩ := info_parts info9
        have h0q := (of_decide_eq_true (by first | (with_reducible assumption) | assumption) : 0 ≤ (x11_3 : Int))
        have hcut28 := cut_to (P := Try.prog) 24 9 .i64 Try.underlying24 hi028 (some ad886) x6_2.length co26 x11_3 (of_decide_eq_true (by first | (with_reducible assumption) | assumption)) q28 (Kd.R_reads' HO_6.out).2.1
        have hcutD28 := cut_from (P := Try.prog) 24 9 .i64 Try.underlying24 hi028 1 hsz28 (some ad886) x6_2.length co26 x11_3 h0q q28
        obtain ⟨XT_, hXT⟩ : ∃ y_ : List ByteArray, y_ = x6_2.take (x11_3 : Int).toNat := ⟨_, rfl⟩
        obtain ⟨XD_, hXD⟩ : ∃ y_ : List ByteArray, y_ = x6_2.drop (x11_3 : Int).toNat := ⟨_, rfl⟩
        have lT : XT_.length = (x11_3 : Int).toNat := by rw [hXT, m_5]; omega
        have lD : XD_.length = x6_2.length - (x11_3 : Int).toNat := by rw [hXD, m_4]
        have hCT := Kd.C_take (m := (x11_3 : Int).toNat) (Kd.R_reads' HO_6.out).2.2 (by omega)
        have hCD := Kd.C_drop (c := co26) (m := (x11_3 : Int).toNat) (Kd.R_reads' HO_6.out).2.2 (by omega) (Kd.R_reads' HO_6.out).2.1
        rw [← hXT] at hCT
        rw [← hXD] at hCD
        simp only [show Kd.string.sz = 1 from rfl, Nat.mul_one] at hCD
        simp only [Nat.mul_one] at hcutD28
        generalize hAD : (if co26 = (x11_3 : Int).toNat then (some ad886) else Option.map (fun x => x.add (x11_3 : Int).toNat) (some ad886)) = AD_ at hcutD28 hCD
        clear hAD
        rw [← lT] at hcut28
        rw [← lD] at hcutD28
        have HCT := Aside0.mk hCT
        have HCD := Aside0.mk hCD
        have NXT := Aside0.mk hXT
        have NXD := Aside0.mk hXD
        have LMT := Aside0.mk lT
        have LMD := Aside0.mk lD
        have LMK := Aside0.mk (And.intro LMc25.out (show (x11_3 : Int).toNat ≤ x6_2.length by omega))
        clear hCT hCD hXT hXD lT lD h0q hi028 hsz28 HO_6
        replace q28 := eq_true q28
        have HBr := Aside0.mk (Below.refl wr.drew.heap.size wr.drew)
        refine start_ (n := 13) (S := fun w' => True) (ds := []) (bs_ 13 0) (by kernel_rfl) rfl rfl trivial (fun hHeld => ?_)
        generalize wr.drew = WB_ at HO_22 BK879 HB HCT HCD HBr hHeld ⊢
        refine pure_ (i := 1) (N := some 61) (v := ?_) (a' := ?_) (bs_ 13 2) rfl rfl (by kernel_rfl) (fun _ _ _ h => h) (Or.inl ⟨by rfl, ?_⟩) ?_ ?_
        rotate_left
        · intro w'
          go_simp
          with_reducible rfl
        rotate_left
        · simp only [Act.put, s_1, s_2, s_3, i64_w, i32_w]
          rfl
        refine pure_ (i := 2) (N := some 62) (v := ?_) (a' := ?_) (bs_ 13 6) rfl rfl (by kernel_rfl) (fun _ _ _ h => h) (Or.inl ⟨by rfl, ?_⟩) ?_ ?_
        rotate_left
        · intro w'
          go_simp
          with_reducible rfl
        rotate_left
        · simp only [Act.put, s_1, s_2, s_3, i64_w, i32_w]
          rfl
        refine pure_ (i := 3) (N := some 63) (v := ?_) (a' := ?_) (bs_ 13 14) rfl rfl (by kernel_rfl) (fun _ _ _ h => h) (Or.inl ⟨by rfl, ?_⟩) ?_ ?_
        rotate_left
        · intro w'
          go_simp
          with_reducible rfl
        rotate_left
        · simp only [Act.put, s_1, s_2, s_3, i64_w, i32_w]
          rfl
        refine pure_ (i := 5) (N := some 65) (v := ?_) (a' := ?_) (bs_ 13 46) rfl rfl (by kernel_rfl) (fun _ _ _ h => h) (Or.inl ⟨by rfl, ?_⟩) ?_ ?_
        rotate_left
        · intro w'
          go_simp
          with_reducible rfl
        rotate_left
        · simp only [Act.put, s_1, s_2, s_3, i64_w, i32_w]
          rfl
        refine pure_ (i := 8) (N := some 68) (v := ?_) (a' := ?_) (bs_ 13 302) rfl rfl (by kernel_rfl) (fun _ _ _ h => h) (Or.inl ⟨by rfl, ?_⟩) ?_ ?_
        rotate_left
        · intro w'
          go_simp
          with_reducible rfl
        rotate_left
        · simp only [Act.put, s_1, s_2, s_3, i64_w, i32_w]
          rfl
        refine pure_ (i := 9) (N := some 69) (v := ?_) (a' := ?_) (bs_ 13 814) rfl rfl (by kernel_rfl) (fun _ _ _ h => h) (Or.inl ⟨by rfl, ?_⟩) ?_ ?_
        rotate_left
        · intro w'
          go_simp
          with_reducible rfl
        rotate_left
        · simp only [Act.put, s_1, s_2, s_3, i64_w, i32_w]
          rfl
        refine pure_ (i := 10) (N := some 70) (v := ?_) (a' := ?_) (bs_ 13 1838) rfl rfl (by kernel_rfl) (fun _ _ _ h => h) (Or.inl ⟨by rfl, ?_⟩) ?_ ?_
        rotate_left
        · intro w'
          go_simp
          with_reducible rfl
        rotate_left
        · simp only [Act.put, s_1, s_2, s_3, i64_w, i32_w]
          rfl
        refine join_ (σ := Value × Value × Value) 3 (bs_ 13 1919) (fun s => [(60, s.1), (64, s.2.1), (66, s.2.2)]) (fun s w' => Kd.R Kd.string 9 w' WB_.heap.size (fun k_ => some k_ ≠ s.2.2.ownBlock) s.2.1 XT_ ∧ Kd.R Kd.string 9 w' WB_.heap.size (fun k_ => some k_ ≠ s.2.1.ownBlock) s.2.2 [t885] ∧ Below WB_.heap.size WB_ w') ?_ ?_
        rotate_left
        · intro hCont
          refine two_ (i := 0) (j := 6) (Ni := some 60) (Nj := some 66) (bs_ 13 1839) (bs_ 13 1902) rfl rfl rfl rfl (by kernel_rfl) (by decide) (by decide) (fun K hK => ?_) (fun K hK => ?_)
          · skip
            refine Kd.R_lit_step Kd.string _ 9 ?hg (N := 60) ?hd (xs := ([] : List ByteArray)) (inner := []) (ok := fun _ => True) (okp := fun _ => True) ?hr ?hp (fun _ hk => hk) trivial (Below.refl _ _) (Nat.le_refl _) (by simp) ?_; (case hd => rfl); (case hg => rfl); (case hr => first | (go_simp; done) | (go_simp; rfl)); (case hp => exact Reps.none _ _)
            intro v60 w60 ho hb hg_ hnew_
            clear hg_ hnew_
            have H60 := Aside0.mk (Kd.R_lower ho HBr.out.size)
            replace HBr := Aside0.mk (below_step HBr.out hb)
            clear hb ho
            refine hK.out _ _ trivial (fun hHeld => ?_)
            clear hK K
            refine norm_ (a' := ?_) ?_ ?_
            rotate_left
            · show Act.put _ (some 60) _ = _
              simp only [Act.put, s_1, s_2, s_3, i64_w, i32_w]
              rfl
            refine two_ (i := 4) (j := 6) (Ni := some 64) (Nj := some 66) (bs_ 13 1855) (bs_ 13 1903) rfl rfl rfl rfl (by kernel_rfl) (by decide) (by decide) (fun K hK => ?_) (fun K hK => ?_)
            · skip
              refine Kd.R_append_rows_step Kd.string (w0 := WB_) WB_.heap.size (by rfl) (.tmp 60) (.tmp 63) 24 9 (.string ⟨#[]⟩) 16 rfl Try.underlying24 info9 rfl (by decide) (by omega) v60 [] XT_ _ _ _ (fun _ => True) (fun _ => False) rfl rfl ?aO ?aR (fun _ _ h => h) (fun _ h => h.elim) ?aF ?aB ?aS ?aL ?_
              (case aR => exact (Kd.C_below HCT.out HBr.out))
              (case aB => exact HBr.out)
              (case aF => exact (fun _ _ => trivial))
              (case aO => exact H60.out)
              (case aS => exact HBr.out.size)
              (case aL => have := LMK.out; have := LMT.out; simp only [List.length_nil]; omega)
              intro v64 w64 ho hb hg hat
              replace ho : Kd.R Kd.string 9 w64 WB_.heap.size (fun _ => True) v64 XT_ := ho
              have H64 := Aside0.mk ho
              clear H60
              replace HBr := Aside0.mk hb
              clear ho hb hg hat
              refine hK.out _ _ trivial (fun hHeld => ?_)
              clear hK K
              refine norm_ (a' := ?_) ?_ ?_
              rotate_left
              · show Act.put _ (some 64) _ = _
                simp only [Act.put, s_1, s_2, s_3, i64_w, i32_w]
                rfl
              refine one_ (i := 6) (N := some 66) (bs_ 13 1919) rfl rfl (by kernel_rfl) (by decide) (fun K hK => ?_)
              refine Kd.R_lit_step Kd.string _ 9 ?hg (N := 66) ?hd (xs := ([t885] : List ByteArray)) (inner := [.string t885]) (ok := fun _ => True) (okp := fun _ => True) ?hr ?hp (fun _ hk => hk) trivial (Below.refl _ _) (Nat.le_refl _) (by simp) ?_; (case hd => rfl); (case hg => rfl); (case hr => first | (go_simp; done) | (go_simp; rfl)); (case hp => exact (Reps.one (show Kd.M Kd.string _ _ _ t885 [.string t885] from rfl) (Reps.none _ _)))
              intro v66 w66 ho hb hg_ hnew_
              clear hg_ hnew_
              have H66 := Aside0.mk (Kd.R_mono (Kd.R_lower (Kd.R_new' ho (Kd.R_lt H64.out)) HBr.out.size) (fun _ hk => hk.2))
              replace H64 := Aside0.mk (Kd.R_mono (Kd.R_elder' H64.out (Kd.R_base ho) hb) (fun _ hk => hk.2))
              replace HBr := Aside0.mk (below_step HBr.out hb)
              clear hb ho
              refine hK.out _ _ trivial (fun hHeld => ?_)
              clear hK K
              refine norm_ (a' := ?_) ?_ ?_
              rotate_left
              · show Act.put _ (some 66) _ = _
                simp only [Act.put, s_1, s_2, s_3, i64_w, i32_w]
                rfl
              exact norm_ (by simp only [putAll, Act.put, s_1, s_2, s_3]) (hCont (v60, v64, v66) _ ⟨H64.out, H66.out, HBr.out⟩)
            · skip
              refine Kd.R_lit_step Kd.string _ 9 ?hg (N := 66) ?hd (xs := ([t885] : List ByteArray)) (inner := [.string t885]) (ok := fun _ => True) (okp := fun _ => True) ?hr ?hp (fun _ hk => hk) trivial (Below.refl _ _) (Nat.le_refl _) (by simp) ?_; (case hd => rfl); (case hg => rfl); (case hr => first | (go_simp; done) | (go_simp; rfl)); (case hp => exact (Reps.one (show Kd.M Kd.string _ _ _ t885 [.string t885] from rfl) (Reps.none _ _)))
              intro v66 w66 ho hb hg_ hnew_
              clear hg_ hnew_
              have H66 := Aside0.mk (Kd.R_mono (Kd.R_lower (Kd.R_new' ho (Kd.R_lt H60.out)) HBr.out.size) (fun _ hk => hk.2))
              replace H60 := Aside0.mk (Kd.R_mono (Kd.R_elder' H60.out (Kd.R_base ho) hb) (fun _ hk => hk.2))
              replace HBr := Aside0.mk (below_step HBr.out hb)
              clear hb ho
              refine hK.out _ _ trivial (fun hHeld => ?_)
              clear hK K
              refine norm_ (a' := ?_) ?_ ?_
              rotate_left
              · show Act.put _ (some 66) _ = _
                simp only [Act.put, s_1, s_2, s_3, i64_w, i32_w]
                rfl
              refine one_ (i := 4) (N := some 64) (bs_ 13 1919) rfl rfl (by kernel_rfl) (by decide) (fun K hK => ?_)
              refine Kd.R_append_rows_step Kd.string (w0 := WB_) WB_.heap.size (by rfl) (.tmp 60) (.tmp 63) 24 9 (.string ⟨#[]⟩) 16 rfl Try.underlying24 info9 rfl (by decide) (by omega) v60 [] XT_ _ _ _ (fun k_ => some k_ ≠ (v66 : Value).ownBlock) (fun _ => False) rfl rfl ?aO ?aR (fun _ _ h => h) (fun _ h => h.elim) ?aF ?aB ?aS ?aL ?_
              (case aR => exact (Kd.C_below HCT.out HBr.out))
              (case aB => exact HBr.out)
              (case aF => exact (fun k_ hk => Kd.fresh' (Kd.R_lt H66.out) k_ hk))
              (case aO => exact H60.out)
              (case aS => exact HBr.out.size)
              (case aL => have := LMK.out; have := LMT.out; simp only [List.length_nil]; omega)
              intro v64 w64 ho hb hg hat
              replace ho : Kd.R Kd.string 9 w64 WB_.heap.size (fun k_ => some k_ ≠ (v66 : Value).ownBlock) v64 XT_ := ho
              replace H66 := Aside0.mk (Kd.R_mono (Kd.R_after (ok := fun _ => True) (Kd.R_mono H66.out (fun _ hk => ⟨trivial, hk⟩)) hg hat) (fun _ hk => hk.2))
              have H64 := Aside0.mk ho
              clear H60
              replace HBr := Aside0.mk hb
              clear ho hb hg hat
              refine hK.out _ _ trivial (fun hHeld => ?_)
              clear hK K
              refine norm_ (a' := ?_) ?_ ?_
              rotate_left
              · show Act.put _ (some 64) _ = _
                simp only [Act.put, s_1, s_2, s_3, i64_w, i32_w]
                rfl
              exact norm_ (by simp only [putAll, Act.put, s_1, s_2, s_3]) (hCont (v60, v64, v66) _ ⟨H64.out, H66.out, HBr.out⟩)
          · skip
            refine Kd.R_lit_step Kd.string _ 9 ?hg (N := 66) ?hd (xs := ([t885] : List ByteArray)) (inner := [.string t885]) (ok := fun _ => True) (okp := fun _ => True) ?hr ?hp (fun _ hk => hk) trivial (Below.refl _ _) (Nat.le_refl _) (by simp) ?_; (case hd => rfl); (case hg => rfl); (case hr => first | (go_simp; done) | (go_simp; rfl)); (case hp => exact (Reps.one (show Kd.M Kd.string _ _ _ t885 [.string t885] from rfl) (Reps.none _ _)))
            intro v66 w66 ho hb hg_ hnew_
            clear hg_ hnew_
            have H66 := Aside0.mk (Kd.R_lower ho HBr.out.size)
            replace HBr := Aside0.mk (below_step HBr.out hb)
            clear hb ho
            refine hK.out _ _ trivial (fun hHeld => ?_)
            clear hK K
            refine norm_ (a' := ?_) ?_ ?_
            rotate_left
            · show Act.put _ (some 66) _ = _
              simp only [Act.put, s_1, s_2, s_3, i64_w, i32_w]
              rfl
            refine one_ (i := 0) (N := some 60) (bs_ 13 1903) rfl rfl (by kernel_rfl) (by decide) (fun K hK => ?_)
            refine Kd.R_lit_step Kd.string _ 9 ?hg (N := 60) ?hd (xs := ([] : List ByteArray)) (inner := []) (ok := fun _ => True) (okp := fun _ => True) ?hr ?hp (fun _ hk => hk) trivial (Below.refl _ _) (Nat.le_refl _) (by simp) ?_; (case hd => rfl); (case hg => rfl); (case hr => first | (go_simp; done) | (go_simp; rfl)); (case hp => exact Reps.none _ _)
            intro v60 w60 ho hb hg_ hnew_
            clear hg_ hnew_
            have H60 := Aside0.mk (Kd.R_mono (Kd.R_lower (Kd.R_new' ho (Kd.R_lt H66.out)) HBr.out.size) (fun _ hk => hk.2))
            replace H66 := Aside0.mk (Kd.R_mono (Kd.R_elder' H66.out (Kd.R_base ho) hb) (fun _ hk => hk.2))
            replace HBr := Aside0.mk (below_step HBr.out hb)
            clear hb ho
            refine hK.out _ _ trivial (fun hHeld => ?_)
            clear hK K
            refine norm_ (a' := ?_) ?_ ?_
            rotate_left
            · show Act.put _ (some 60) _ = _
              simp only [Act.put, s_1, s_2, s_3, i64_w, i32_w]
              rfl
            refine one_ (i := 4) (N := some 64) (bs_ 13 1919) rfl rfl (by kernel_rfl) (by decide) (fun K hK => ?_)
            refine Kd.R_append_rows_step Kd.string (w0 := WB_) WB_.heap.size (by rfl) (.tmp 60) (.tmp 63) 24 9 (.string ⟨#[]⟩) 16 rfl Try.underlying24 info9 rfl (by decide) (by omega) v60 [] XT_ _ _ _ (fun k_ => some k_ ≠ (v66 : Value).ownBlock) (fun _ => False) rfl rfl ?aO ?aR (fun _ _ h => h) (fun _ h => h.elim) ?aF ?aB ?aS ?aL ?_
            (case aR => exact (Kd.C_below HCT.out HBr.out))
            (case aB => exact HBr.out)
            (case aF => exact (fun k_ hk => Kd.fresh' (Kd.R_lt H66.out) k_ hk))
            (case aO => exact H60.out)
            (case aS => exact HBr.out.size)
            (case aL => have := LMK.out; have := LMT.out; simp only [List.length_nil]; omega)
            intro v64 w64 ho hb hg hat
            replace ho : Kd.R Kd.string 9 w64 WB_.heap.size (fun k_ => some k_ ≠ (v66 : Value).ownBlock) v64 XT_ := ho
            replace H66 := Aside0.mk (Kd.R_mono (Kd.R_after (ok := fun _ => True) (Kd.R_mono H66.out (fun _ hk => ⟨trivial, hk⟩)) hg hat) (fun _ hk => hk.2))
            have H64 := Aside0.mk ho
            clear H60
            replace HBr := Aside0.mk hb
            clear ho hb hg hat
            refine hK.out _ _ trivial (fun hHeld => ?_)
            clear hK K
            refine norm_ (a' := ?_) ?_ ?_
            rotate_left
            · show Act.put _ (some 64) _ = _
              simp only [Act.put, s_1, s_2, s_3, i64_w, i32_w]
              rfl
            exact norm_ (by simp only [putAll, Act.put, s_1, s_2, s_3]) (hCont (v60, v64, v66) _ ⟨H64.out, H66.out, HBr.out⟩)
        rintro ⟨v60, v64, v66⟩ w66 ⟨h0_, h1_, h2_⟩
        have H64 := Aside0.mk h0_
        have H66 := Aside0.mk h1_
        replace HBr := Aside0.mk h2_
        clear h0_ h1_ h2_
        have hHeld := trivial
        obtain ⟨A66, c66, e66⟩ := Kd.R_slice H66.out
        subst e66
        refine norm_ (a' := ?_) ?_ ?_
        rotate_left
        · simp only [putAll, Act.put, s_1, s_2, s_3]
          rfl
        refine one_ (i := 7) (N := some 67) (bs_ 13 2047) rfl rfl (by kernel_rfl) (by decide) (fun K hK => ?_)
        refine Kd.R_append_rows_step Kd.string (w0 := WB_) WB_.heap.size (by rfl) (.tmp 64) (.tmp 66) 24 9 (.string ⟨#[]⟩) 16 rfl Try.underlying24 info9 rfl (by decide) (by omega) v64 XT_ [t885] _ _ _ (fun k_ => some k_ ≠ (.slice A66 [t885].length c66 : Value).ownBlock) (fun _ => False) rfl rfl ?aO ?aR (fun _ _ h => h) (fun _ h => h.elim) ?aF ?aB ?aS ?aL ?_
        (case aR => exact ((Kd.R_reads' H66.out).2.2))
        (case aB => exact HBr.out)
        (case aF => exact (fun k_ hk => Kd.fresh' (Kd.R_lt H66.out) k_ hk))
        (case aO => exact H64.out)
        (case aS => exact HBr.out.size)
        (case aL => have := LMK.out; have := LMT.out; simp only [List.length_cons, List.length_nil]; omega)
        intro v67 w67 ho hb hg hat
        have H67 := Aside0.mk (Kd.R_mono (ok' := fun _ => True) ho (fun _ _ => trivial))
        replace HBr := Aside0.mk hb
        clear ho hb hg hat H64 H66
        refine hK.out _ _ trivial (fun hHeld => ?_)
        clear hK K
        refine norm_ (a' := ?_) ?_ ?_
        rotate_left
        · show Act.put _ (some 67) _ = _
          simp only [Act.put, s_1, s_2, s_3, i64_w, i32_w]
          rfl
        refine one_ (i := 11) (N := some 71) (bs_ 13 4095) rfl rfl (by kernel_rfl) (by decide) (fun K hK => ?_)
        refine Kd.R_append_rows_step Kd.string (w0 := WB_) WB_.heap.size (by rfl) (.tmp 67) (.tmp 70) 24 9 (.string ⟨#[]⟩) 16 rfl Try.underlying24 info9 rfl (by decide) (by omega) v67 (XT_ ++ [t885]) XD_ _ _ _ (fun _ => True) (fun _ => False) rfl rfl ?aO ?aR (fun _ _ h => h) (fun _ h => h.elim) ?aF ?aB ?aS ?aL ?_
        (case aR => exact (Kd.C_below HCD.out HBr.out))
        (case aB => exact HBr.out)
        (case aF => exact (fun _ _ => trivial))
        (case aO => exact H67.out)
        (case aS => exact HBr.out.size)
        (case aL => have := LMK.out; have := LMT.out; have := LMD.out; simp only [List.length_append, List.length_cons, List.length_nil]; omega)
        intro v71 w71 ho hb hg hat
        have H71 := Aside0.mk ho
        replace HBr := Aside0.mk hb
        clear ho hb hg hat H67
        refine hK.out _ _ trivial (fun hHeld => ?_)
        clear hK K
        refine norm_ (a' := ?_) ?_ ?_
        rotate_left
        · show Act.put _ (some 71) _ = _
          simp only [Act.put, s_1, s_2, s_3, i64_w, i32_w]
          rfl
        refine pure_ (i := 12) (N := some 6) (v := ?_) (a' := ?_) (bs_ 13 8191) rfl rfl (by kernel_rfl) (fun _ _ _ h => h) (Or.inl ⟨by rfl, ?_⟩) ?_ ?_
        rotate_left
        · intro w'
          go_simp
          with_reducible rfl
        rotate_left
        · simp only [Act.put, s_1, s_2, s_3, i64_w, i32_w]
          rfl
        refine done_ (by kernel_rfl) ?_
        have n0_ := Aside0.mk (Kd.R_lower H71.out (below_size HB.out))
        replace HO_22 := Aside0.mk (Kd.R_below HO_22.out HBr.out)
        replace BK879 := Aside0.mk (blk_below (g := gb879) (o := .cells #[.int .i64 a0_0, .int .i64 a0_1] 28 (0, 0)) BK879.out HBr.out)
        replace HB := Aside0.mk (below_step HB.out HBr.out)
        have hy_ : (XT_ ++ [t885]) ++ XD_ = y890 := by rw [Ny890.out, Ny887.out, NXT.out, NXD.out]
        rw [hy_] at n0_
        clear hy_ H71 HBr HCT HCD
        have HO892 := n0_
        clear n0_
        try go_wp2
        go_roundg k3
        case measure => have := HK1.out; have := HK2.out; have := HK3.out; omega
        case rel => refine ⟨(y890), (wrap64 (x24_2 + 1)), (by first | rfl | (simp; done) | (simp [*]; done)), H', ⟨by have := HK1.out; have := HK2.out; have := HK3.out; omega⟩, ⟨?_⟩, ⟨?_⟩, ⟨?_⟩, ⟨bB HB⟩⟩ <;> (with_reducible repeat (first | refine g_d ?_ _ | refine g_e ?_ | refine g_a ?_ _ | apply r_a | apply r_d | apply r_e)) <;> first | exact BK879.out | exact HO892.out | exact HO_22.out
      · rw [if_neg c25] at H
        exact absurd H (by simp)
    · rw [if_neg c24] at H
      exact absurd H (by simp)
  rw [if_neg c23] at H
  have c23b0 : (x11_3 == (x6_2.length : Int)) = false := beq_eq_false_iff_ne.mpr c23
  have c23b1 : (x11_3 != (x6_2.length : Int)) = true := bne_iff_ne.mpr c23
  by_cases c30 : (rdOf ByteArray.empty x6_2 x11_3).toList = t885.toList
  · rw [if_pos c30] at H
    have c30b0 : ((rdOf ByteArray.empty x6_2 x11_3).toList == t885.toList) = true := beq_iff_eq.mpr c30
    have c30b1 : ((rdOf ByteArray.empty x6_2 x11_3).toList != t885.toList) = false := bne_eq_false_iff_eq.mpr c30
    clear c30
    have H' := Aside0.mk H
    clear H
    obtain ⟨Ao31, co31, eo31⟩ := Kd.R_slice HO_6.out
    subst eo31
    have p886 : 0 ≤ (x11_3 : Int) := of_decide_eq_true (by first | (with_reducible assumption) | assumption)
    have q886 : x11_3 < (x6_2.length : Int) := of_decide_eq_true (by first | (with_reducible assumption) | assumption)
    obtain ⟨ad886, e886, hx886_0⟩ := Kd.at_string (Kd.R_reads' HO_6.out).2.2 x11_3 p886 q886
    cases e886
    replace p886 := eq_true p886
    replace q886 := eq_true q886
    have p893 : 0 ≤ (x11_3 : Int) := of_decide_eq_true (by first | (with_reducible assumption) | assumption)
    have q893 : x11_3 < (x6_2.length : Int) := of_decide_eq_true (by first | (with_reducible assumption) | assumption)
    obtain ⟨ad893, e893, hx893_0⟩ := Kd.at_string (Kd.R_reads' HO_6.out).2.2 x11_3 p893 q893
    obtain rfl : ad886 = ad893 := (by injection e893)
    replace p893 := eq_true p893
    replace q893 := eq_true q893
    go_wp2
    go_roundg k3
    case measure => have := HK1.out; have := HK2.out; have := HK3.out; omega
    case rel => refine ⟨(x6_2), (wrap64 (x24_2 + 1)), (by first | rfl | (simp; done) | (simp [*]; done)), H', ⟨by have := HK1.out; have := HK2.out; have := HK3.out; omega⟩, ⟨?_⟩, ⟨?_⟩, ⟨?_⟩, ⟨bB HB⟩⟩ <;> (with_reducible repeat (first | refine g_d ?_ _ | refine g_e ?_ | refine g_a ?_ _ | apply r_a | apply r_d | apply r_e)) <;> first | exact BK879.out | exact HO_6.out | exact HO_22.out
  rw [if_neg c30] at H
  have c30b0 : ((rdOf ByteArray.empty x6_2 x11_3).toList == t885.toList) = false := beq_eq_false_iff_ne.mpr c30
  have c30b1 : ((rdOf ByteArray.empty x6_2 x11_3).toList != t885.toList) = true := bne_iff_ne.mpr c30
  by_cases c32 : x11_3 ≤ (x6_2.length : Int)
  rotate_left
  · rw [if_neg c32] at H
    exact absurd H (by simp)
  rw [if_pos c32] at H
  have c32b0 := eq_true c32
  have c32b1 : decide (x11_3 ≤ (x6_2.length : Int)) = true := decide_eq_true c32
  clear c32
  obtain ⟨y894, hy894⟩ : ∃ y_ : List ByteArray, y_ = (x6_2.take (x11_3 : Int).toNat) := ⟨_, rfl⟩
  replace H : (if x6_2.length < 8796093022000 then (spec_NextCodes.l1 k3 a1 ((y894 ++ [t885]) ++ x6_2.drop (x11_3 : Int).toNat) x7_1 y881 (y881.length : Int) (wrap64 (x24_2 + 1)) a0_0 a0_1) else (none)) = some (r1, r2) := by first | (rw [hy894]; with_reducible exact H) | (have H2_ := (Option.bind_some _ _).symm.trans H; rw [hy894]; with_reducible exact H2_) | (have H2_ := (Option.bind_some _ _).symm.trans H; with_reducible exact H2_) | with_reducible exact H | (rw [hy894]; exact H) | exact H
  have Ny894 := Aside0.mk hy894
  clear hy894
  by_cases c33 : x6_2.length < 8796093022000
  rotate_left
  · rw [if_neg c33] at H
    exact absurd H (by simp)
  rw [if_pos c33] at H
  have LMc33 := Aside0.mk c33
  clear c33
  obtain ⟨y897, hy897⟩ : ∃ y_ : List ByteArray, y_ = ((y894 ++ [t885]) ++ x6_2.drop (x11_3 : Int).toNat) := ⟨_, rfl⟩
  replace H : (spec_NextCodes.l1 k3 a1 y897 x7_1 y881 (y881.length : Int) (wrap64 (x24_2 + 1)) a0_0 a0_1) = some (r1, r2) := by first | (rw [hy897]; with_reducible exact H) | (have H2_ := (Option.bind_some _ _).symm.trans H; rw [hy897]; with_reducible exact H2_) | (have H2_ := (Option.bind_some _ _).symm.trans H; with_reducible exact H2_) | with_reducible exact H | (rw [hy897]; exact H) | exact H
  have Ny897 := Aside0.mk hy897
  clear hy897
  have H' := Aside0.mk H
  clear H
  obtain ⟨Ao34, co34, eo34⟩ := Kd.R_slice HO_6.out
  subst eo34
  have p886 : 0 ≤ (x11_3 : Int) := of_decide_eq_true (by first | (with_reducible assumption) | assumption)
  have q886 : x11_3 < (x6_2.length : Int) := of_decide_eq_true (by first | (with_reducible assumption) | assumption)
  obtain ⟨ad886, e886, hx886_0⟩ := Kd.at_string (Kd.R_reads' HO_6.out).2.2 x11_3 p886 q886
  cases e886
  replace p886 := eq_true p886
  replace q886 := eq_true q886
  have p893 : 0 ≤ (x11_3 : Int) := of_decide_eq_true (by first | (with_reducible assumption) | assumption)
  have q893 : x11_3 < (x6_2.length : Int) := of_decide_eq_true (by first | (with_reducible assumption) | assumption)
  obtain ⟨ad893, e893, hx893_0⟩ := Kd.at_string (Kd.R_reads' HO_6.out).2.2 x11_3 p893 q893
  obtain rfl : ad886 = ad893 := (by injection e893)
  replace p893 := eq_true p893
  replace q893 := eq_true q893
  try go_wp2
  have n0_ := Aside0.mk (r_e HO_6.out)
  have n1_ := Aside0.mk (r_e HO_22.out)
  have n2_ := Aside0.mk (g_e BK879.out)
  have n3_ := Aside0.mk (b_e HB.out)
  clear HO_6
  clear HO_22
  clear BK879
  clear HB
  have HO_6 := n0_
  have HO_22 := n1_
  have BK879 := n2_
  have HB := n3_
  clear n0_ n1_ n2_ n3_
  have q36 : (x11_3 : Int) ≤ ((x6_2.length : Int) : Int) := of_decide_eq_true (by first | (with_reducible assumption) | assumption)
  obtain ⟨i036, hi036, _, hsz36, _⟩ := info_parts info9
  have h0q := (of_decide_eq_true (by first | (with_reducible assumption) | assumption) : 0 ≤ (x11_3 : Int))
  have hcut36 := cut_to (P := Try.prog) 24 9 .i64 Try.underlying24 hi036 (some ad886) x6_2.length co34 x11_3 (of_decide_eq_true (by first | (with_reducible assumption) | assumption)) q36 (Kd.R_reads' HO_6.out).2.1
  have hcutD36 := cut_from (P := Try.prog) 24 9 .i64 Try.underlying24 hi036 1 hsz36 (some ad886) x6_2.length co34 x11_3 h0q q36
  obtain ⟨XT_, hXT⟩ : ∃ y_ : List ByteArray, y_ = x6_2.take (x11_3 : Int).toNat := ⟨_, rfl⟩
  obtain ⟨XD_, hXD⟩ : ∃ y_ : List ByteArray, y_ = x6_2.drop (x11_3 : Int).toNat := ⟨_, rfl⟩
  have lT : XT_.length = (x11_3 : Int).toNat := by rw [hXT, m_5]; omega
  have lD : XD_.length = x6_2.length - (x11_3 : Int).toNat := by rw [hXD, m_4]
  have hCT := Kd.C_take (m := (x11_3 : Int).toNat) (Kd.R_reads' HO_6.out).2.2 (by omega)
  have hCD := Kd.C_drop (c := co34) (m := (x11_3 : Int).toNat) (Kd.R_reads' HO_6.out).2.2 (by omega) (Kd.R_reads' HO_6.out).2.1
  rw [← hXT] at hCT
  rw [← hXD] at hCD
  simp only [show Kd.string.sz = 1 from rfl, Nat.mul_one] at hCD
  simp only [Nat.mul_one] at hcutD36
  generalize hAD : (if co34 = (x11_3 : Int).toNat then (some ad886) else Option.map (fun x => x.add (x11_3 : Int).toNat) (some ad886)) = AD_ at hcutD36 hCD
  clear hAD
  rw [← lT] at hcut36
  rw [← lD] at hcutD36
  have HCT := Aside0.mk hCT
  have HCD := Aside0.mk hCD
  have NXT := Aside0.mk hXT
  have NXD := Aside0.mk hXD
  have LMT := Aside0.mk lT
  have LMD := Aside0.mk lD
  have LMK := Aside0.mk (And.intro LMc33.out (show (x11_3 : Int).toNat ≤ x6_2.length by omega))
  clear hCT hCD hXT hXD lT lD h0q hi036 hsz36 HO_6
  replace q36 := eq_true q36
  have HBr := Aside0.mk (Below.refl wr.drew.heap.size wr.drew)
  refine start_ (n := 13) (S := fun w' => True) (ds := []) (bs_ 13 0) (by kernel_rfl) rfl rfl trivial (fun hHeld => ?_)
  generalize wr.drew = WB_ at HO_22 BK879 HB HCT HCD HBr hHeld ⊢
  refine pure_ (i := 1) (N := some 61) (v := ?_) (a' := ?_) (bs_ 13 2) rfl rfl (by kernel_rfl) (fun _ _ _ h => h) (Or.inl ⟨by rfl, ?_⟩) ?_ ?_
  rotate_left
  · intro w'
    go_simp
    with_reducible rfl
  rotate_left
  · simp only [Act.put, s_1, s_2, s_3, i64_w, i32_w]
    rfl
  refine pure_ (i := 2) (N := some 62) (v := ?_) (a' := ?_) (bs_ 13 6) rfl rfl (by kernel_rfl) (fun _ _ _ h => h) (Or.inl ⟨by rfl, ?_⟩) ?_ ?_
  rotate_left
  · intro w'
    go_simp
    with_reducible rfl
  rotate_left
  · simp only [Act.put, s_1, s_2, s_3, i64_w, i32_w]
    rfl
  refine pure_ (i := 3) (N := some 63) (v := ?_) (a' := ?_) (bs_ 13 14) rfl rfl (by kernel_rfl) (fun _ _ _ h => h) (Or.inl ⟨by rfl, ?_⟩) ?_ ?_
  rotate_left
  · intro w'
    go_simp
    with_reducible rfl
  rotate_left
  · simp only [Act.put, s_1, s_2, s_3, i64_w, i32_w]
    rfl
  refine pure_ (i := 5) (N := some 65) (v := ?_) (a' := ?_) (bs_ 13 46) rfl rfl (by kernel_rfl) (fun _ _ _ h => h) (Or.inl ⟨by rfl, ?_⟩) ?_ ?_
  rotate_left
  · intro w'
    go_simp
    with_reducible rfl
  rotate_left
  · simp only [Act.put, s_1, s_2, s_3, i64_w, i32_w]
    rfl
  refine pure_ (i := 8) (N := some 68) (v := ?_) (a' := ?_) (bs_ 13 302) rfl rfl (by kernel_rfl) (fun _ _ _ h => h) (Or.inl ⟨by rfl, ?_⟩) ?_ ?_
  rotate_left
  · intro w'
    go_simp
    with_reducible rfl
  rotate_left
  · simp only [Act.put, s_1, s_2, s_3, i64_w, i32_w]
    rfl
  refine pure_ (i := 9) (N := some 69) (v := ?_) (a' := ?_) (bs_ 13 814) rfl rfl (by kernel_rfl) (fun _ _ _ h => h) (Or.inl ⟨by rfl, ?_⟩) ?_ ?_
  rotate_left
  · intro w'
    go_simp
    with_reducible rfl
  rotate_left
  · simp only [Act.put, s_1, s_2, s_3, i64_w, i32_w]
    rfl
  refine pure_ (i := 10) (N := some 70) (v := ?_) (a' := ?_) (bs_ 13 1838) rfl rfl (by kernel_rfl) (fun _ _ _ h => h) (Or.inl ⟨by rfl, ?_⟩) ?_ ?_
  rotate_left
  · intro w'
    go_simp
    with_reducible rfl
  rotate_left
  · simp only [Act.put, s_1, s_2, s_3, i64_w, i32_w]
    rfl
  refine join_ (σ := Value × Value × Value) 3 (bs_ 13 1919) (fun s => [(60, s.1), (64, s.2.1), (66, s.2.2)]) (fun s w' => Kd.R Kd.string 9 w' WB_.heap.size (fun k_ => some k_ ≠ s.2.2.ownBlock) s.2.1 XT_ ∧ Kd.R Kd.string 9 w' WB_.heap.size (fun k_ => some k_ ≠ s.2.1.ownBlock) s.2.2 [t885] ∧ Below WB_.heap.size WB_ w') ?_ ?_
  rotate_left
  · intro hCont
    refine two_ (i := 0) (j := 6) (Ni := some 60) (Nj := some 66) (bs_ 13 1839) (bs_ 13 1902) rfl rfl rfl rfl (by kernel_rfl) (by decide) (by decide) (fun K hK => ?_) (fun K hK => ?_)
    rotate_left
    · skip
      refine Kd.R_lit_step Kd.string _ 9 ?hg (N := 66) ?hd (xs := ([t885] : List ByteArray)) (inner := [.string t885]) (ok := fun _ => True) (okp := fun _ => True) ?hr ?hp (fun _ hk => hk) trivial (Below.refl _ _) (Nat.le_refl _) (by simp) ?_; (case hd => rfl); (case hg => rfl); (case hr => first | (go_simp; done) | (go_simp; rfl)); (case hp => exact (Reps.one (show Kd.M Kd.string _ _ _ t885 [.string t885] from rfl) (Reps.none _ _)))
      intro v66 w66 ho hb hg_ hnew_
      clear hg_ hnew_
      have H66 := Aside0.mk (Kd.R_lower ho HBr.out.size)
      replace HBr := Aside0.mk (below_step HBr.out hb)
      clear hb ho
      refine hK.out _ _ trivial (fun hHeld => ?_)
      clear hK K
      refine norm_ (a' := ?_) ?_ ?_
      rotate_left
      · show Act.put _ (some 66) _ = _
        simp only [Act.put, s_1, s_2, s_3, i64_w, i32_w]
        rfl
      refine one_ (i := 0) (N := some 60) (bs_ 13 1903) rfl rfl (by kernel_rfl) (by decide) (fun K hK => ?_)
      refine Kd.R_lit_step Kd.string _ 9 ?hg (N := 60) ?hd (xs := ([] : List ByteArray)) (inner := []) (ok := fun _ => True) (okp := fun _ => True) ?hr ?hp (fun _ hk => hk) trivial (Below.refl _ _) (Nat.le_refl _) (by simp) ?_; (case hd => rfl); (case hg => rfl); (case hr => first | (go_simp; done) | (go_simp; rfl)); (case hp => exact Reps.none _ _)
      intro v60 w60 ho hb hg_ hnew_
      clear hg_ hnew_
      have H60 := Aside0.mk (Kd.R_mono (Kd.R_lower (Kd.R_new' ho (Kd.R_lt H66.out)) HBr.out.size) (fun _ hk => hk.2))
      replace H66 := Aside0.mk (Kd.R_mono (Kd.R_elder' H66.out (Kd.R_base ho) hb) (fun _ hk => hk.2))
      replace HBr := Aside0.mk (below_step HBr.out hb)
      clear hb ho
      refine hK.out _ _ trivial (fun hHeld => ?_)
      clear hK K
      refine norm_ (a' := ?_) ?_ ?_
      rotate_left
      · show Act.put _ (some 60) _ = _
        simp only [Act.put, s_1, s_2, s_3, i64_w, i32_w]
        rfl
      refine one_ (i := 4) (N := some 64) (bs_ 13 1919) rfl rfl (by kernel_rfl) (by decide) (fun K hK => ?_)
      refine Kd.R_append_rows_step Kd.string (w0 := WB_) WB_.heap.size (by rfl) (.tmp 60) (.tmp 63) 24 9 (.string ⟨#[]⟩) 16 rfl Try.underlying24 info9 rfl (by decide) (by omega) v60 [] XT_ _ _ _ (fun k_ => some k_ ≠ (v66 : Value).ownBlock) (fun _ => False) rfl rfl ?aO ?aR (fun _ _ h => h) (fun _ h => h.elim) ?aF ?aB ?aS ?aL ?_
      (case aR => exact (Kd.C_below HCT.out HBr.out))
      (case aB => exact HBr.out)
      (case aF => exact (fun k_ hk => Kd.fresh' (Kd.R_lt H66.out) k_ hk))
      (case aO => exact H60.out)
      (case aS => exact HBr.out.size)
      (case aL => have := LMK.out; have := LMT.out; simp only [List.length_nil]; omega)
      intro v64 w64 ho hb hg hat
      replace ho : Kd.R Kd.string 9 w64 WB_.heap.size (fun k_ => some k_ ≠ (v66 : Value).ownBlock) v64 XT_ := ho
      replace H66 := Aside0.mk (Kd.R_mono (Kd.R_after (ok := fun _ => True) (Kd.R_mono H66.out (fun _ hk => ⟨trivial, hk⟩)) hg hat) (fun _ hk => hk.2))
      have H64 := Aside0.mk ho
      clear H60
      replace HBr := Aside0.mk hb
      clear ho hb hg hat
      refine hK.out _ _ trivial (fun hHeld => ?_)
      clear hK K
      refine norm_ (a' := ?_) ?_ ?_
      rotate_left
      · show Act.put _ (some 64) _ = _
        simp only [Act.put, s_1, s_2, s_3, i64_w, i32_w]
        rfl
      exact norm_ (by simp only [putAll, Act.put, s_1, s_2, s_3]) (hCont (v60, v64, v66) _ ⟨H64.out, H66.out, HBr.out⟩)
    skip
    refine Kd.R_lit_step Kd.string _ 9 ?hg (N := 60) ?hd (xs := ([] : List ByteArray)) (inner := []) (ok := fun _ => True) (okp := fun _ => True) ?hr ?hp (fun _ hk => hk) trivial (Below.refl _ _) (Nat.le_refl _) (by simp) ?_; (case hd => rfl); (case hg => rfl); (case hr => first | (go_simp; done) | (go_simp; rfl)); (case hp => exact Reps.none _ _)
    intro v60 w60 ho hb hg_ hnew_
    clear hg_ hnew_
    have H60 := Aside0.mk (Kd.R_lower ho HBr.out.size)
    replace HBr := Aside0.mk (below_step HBr.out hb)
    clear hb ho
    refine hK.out _ _ trivial (fun hHeld => ?_)
    clear hK K
    refine norm_ (a' := ?_) ?_ ?_
    rotate_left
    · show Act.put _ (some 60) _ = _
      simp only [Act.put, s_1, s_2, s_3, i64_w, i32_w]
      rfl
    refine two_ (i := 4) (j := 6) (Ni := some 64) (Nj := some 66) (bs_ 13 1855) (bs_ 13 1903) rfl rfl rfl rfl (by kernel_rfl) (by decide) (by decide) (fun K hK => ?_) (fun K hK => ?_)
    · skip
      refine Kd.R_append_rows_step Kd.string (w0 := WB_) WB_.heap.size (by rfl) (.tmp 60) (.tmp 63) 24 9 (.string ⟨#[]⟩) 16 rfl Try.underlying24 info9 rfl (by decide) (by omega) v60 [] XT_ _ _ _ (fun _ => True) (fun _ => False) rfl rfl ?aO ?aR (fun _ _ h => h) (fun _ h => h.elim) ?aF ?aB ?aS ?aL ?_
      (case aR => exact (Kd.C_below HCT.out HBr.out))
      (case aB => exact HBr.out)
      (case aF => exact (fun _ _ => trivial))
      (case aO => exact H60.out)
      (case aS => exact HBr.out.size)
      (case aL => have := LMK.out; have := LMT.out; simp only [List.length_nil]; omega)
      intro v64 w64 ho hb hg hat
      replace ho : Kd.R Kd.string 9 w64 WB_.heap.size (fun _ => True) v64 XT_ := ho
      have H64 := Aside0.mk ho
      clear H60
      replace HBr := Aside0.mk hb
      clear ho hb hg hat
      refine hK.out _ _ trivial (fun hHeld => ?_)
      clear hK K
      refine norm_ (a' := ?_) ?_ ?_
      rotate_left
      · show Act.put _ (some 64) _ = _
        simp only [Act.put, s_1, s_2, s_3, i64_w, i32_w]
        rfl
      refine one_ (i := 6) (N := some 66) (bs_ 13 1919) rfl rfl (by kernel_rfl) (by decide) (fun K hK => ?_)
      refine Kd.R_lit_step Kd.string _ 9 ?hg (N := 66) ?hd (xs := ([t885] : List ByteArray)) (inner := [.string t885]) (ok := fun _ => True) (okp := fun _ => True) ?hr ?hp (fun _ hk => hk) trivial (Below.refl _ _) (Nat.le_refl _) (by simp) ?_; (case hd => rfl); (case hg => rfl); (case hr => first | (go_simp; done) | (go_simp; rfl)); (case hp => exact (Reps.one (show Kd.M Kd.string _ _ _ t885 [.string t885] from rfl) (Reps.none _ _)))
      intro v66 w66 ho hb hg_ hnew_
      clear hg_ hnew_
      have H66 := Aside0.mk (Kd.R_mono (Kd.R_lower (Kd.R_new' ho (Kd.R_lt H64.out)) HBr.out.size) (fun _ hk => hk.2))
      replace H64 := Aside0.mk (Kd.R_mono (Kd.R_elder' H64.out (Kd.R_base ho) hb) (fun _ hk => hk.2))
      replace HBr := Aside0.mk (below_step HBr.out hb)
      clear hb ho
      refine hK.out _ _ trivial (fun hHeld => ?_)
      clear hK K
      refine norm_ (a' := ?_) ?_ ?_
      rotate_left
      · show Act.put _ (some 66) _ = _
        simp only [Act.put, s_1, s_2, s_3, i64_w, i32_w]
        rfl
      exact norm_ (by simp only [putAll, Act.put, s_1, s_2, s_3]) (hCont (v60, v64, v66) _ ⟨H64.out, H66.out, HBr.out⟩)
    skip
    refine Kd.R_lit_step Kd.string _ 9 ?hg (N := 66) ?hd (xs := ([t885] : List ByteArray)) (inner := [.string t885]) (ok := fun _ => True) (okp := fun _ => True) ?hr ?hp (fun _ hk => hk) trivial (Below.refl _ _) (Nat.le_refl _) (by simp) ?_; (case hd => rfl); (case hg => rfl); (case hr => first | (go_simp; done) | (go_simp; rfl)); (case hp => exact (Reps.one (show Kd.M Kd.string _ _ _ t885 [.string t885] from rfl) (Reps.none _ _)))
    intro v66 w66 ho hb hg_ hnew_
    clear hg_ hnew_
    have H66 := Aside0.mk (Kd.R_mono (Kd.R_lower (Kd.R_new' ho (Kd.R_lt H60.out)) HBr.out.size) (fun _ hk => hk.2))
    replace H60 := Aside0.mk (Kd.R_mono (Kd.R_elder' H60.out (Kd.R_base ho) hb) (fun _ hk => hk.2))
    replace HBr := Aside0.mk (below_step HBr.out hb)
    clear hb ho
    refine hK.out _ _ trivial (fun hHeld => ?_)
    clear hK K
    refine norm_ (a' := ?_) ?_ ?_
    rotate_left
    · show Act.put _ (some 66) _ = _
      simp only [Act.put, s_1, s_2, s_3, i64_w, i32_w]
      rfl
    refine one_ (i := 4) (N := some 64) (bs_ 13 1919) rfl rfl (by kernel_rfl) (by decide) (fun K hK => ?_)
    refine Kd.R_append_rows_step Kd.string (w0 := WB_) WB_.heap.size (by rfl) (.tmp 60) (.tmp 63) 24 9 (.string ⟨#[]⟩) 16 rfl Try.underlying24 info9 rfl (by decide) (by omega) v60 [] XT_ _ _ _ (fun k_ => some k_ ≠ (v66 : Value).ownBlock) (fun _ => False) rfl rfl ?aO ?aR (fun _ _ h => h) (fun _ h => h.elim) ?aF ?aB ?aS ?aL ?_
    (case aR => exact (Kd.C_below HCT.out HBr.out))
    (case aB => exact HBr.out)
    (case aF => exact (fun k_ hk => Kd.fresh' (Kd.R_lt H66.out) k_ hk))
    (case aO => exact H60.out)
    (case aS => exact HBr.out.size)
    (case aL => have := LMK.out; have := LMT.out; simp only [List.length_nil]; omega)
    intro v64 w64 ho hb hg hat
    replace ho : Kd.R Kd.string 9 w64 WB_.heap.size (fun k_ => some k_ ≠ (v66 : Value).ownBlock) v64 XT_ := ho
    replace H66 := Aside0.mk (Kd.R_mono (Kd.R_after (ok := fun _ => True) (Kd.R_mono H66.out (fun _ hk => ⟨trivial, hk⟩)) hg hat) (fun _ hk => hk.2))
    have H64 := Aside0.mk ho
    clear H60
    replace HBr := Aside0.mk hb
    clear ho hb hg hat
    refine hK.out _ _ trivial (fun hHeld => ?_)
    clear hK K
    refine norm_ (a' := ?_) ?_ ?_
    rotate_left
    · show Act.put _ (some 64) _ = _
      simp only [Act.put, s_1, s_2, s_3, i64_w, i32_w]
      rfl
    exact norm_ (by simp only [putAll, Act.put, s_1, s_2, s_3]) (hCont (v60, v64, v66) _ ⟨H64.out, H66.out, HBr.out⟩)
  rintro ⟨v60, v64, v66⟩ w66 ⟨h0_, h1_, h2_⟩
  have H64 := Aside0.mk h0_
  have H66 := Aside0.mk h1_
  replace HBr := Aside0.mk h2_
  clear h0_ h1_ h2_
  have hHeld := trivial
  obtain ⟨A66, c66, e66⟩ := Kd.R_slice H66.out
  subst e66
  refine norm_ (a' := ?_) ?_ ?_
  rotate_left
  · simp only [putAll, Act.put, s_1, s_2, s_3]
    rfl
  refine one_ (i := 7) (N := some 67) (bs_ 13 2047) rfl rfl (by kernel_rfl) (by decide) (fun K hK => ?_)
  refine Kd.R_append_rows_step Kd.string (w0 := WB_) WB_.heap.size (by rfl) (.tmp 64) (.tmp 66) 24 9 (.string ⟨#[]⟩) 16 rfl Try.underlying24 info9 rfl (by decide) (by omega) v64 XT_ [t885] _ _ _ (fun k_ => some k_ ≠ (.slice A66 [t885].length c66 : Value).ownBlock) (fun _ => False) rfl rfl ?aO ?aR (fun _ _ h => h) (fun _ h => h.elim) ?aF ?aB ?aS ?aL ?_
  (case aR => exact ((Kd.R_reads' H66.out).2.2))
  (case aB => exact HBr.out)
  (case aF => exact (fun k_ hk => Kd.fresh' (Kd.R_lt H66.out) k_ hk))
  (case aO => exact H64.out)
  (case aS => exact HBr.out.size)
  (case aL => have := LMK.out; have := LMT.out; simp only [List.length_cons, List.length_nil]; omega)
  intro v67 w67 ho hb hg hat
  have H67 := Aside0.mk (Kd.R_mono (ok' := fun _ => True) ho (fun _ _ => trivial))
  replace HBr := Aside0.mk hb
  clear ho hb hg hat H64 H66
  refine hK.out _ _ trivial (fun hHeld => ?_)
  clear hK K
  refine norm_ (a' := ?_) ?_ ?_
  rotate_left
  · show Act.put _ (some 67) _ = _
    simp only [Act.put, s_1, s_2, s_3, i64_w, i32_w]
    rfl
  refine one_ (i := 11) (N := some 71) (bs_ 13 4095) rfl rfl (by kernel_rfl) (by decide) (fun K hK => ?_)
  refine Kd.R_append_rows_step Kd.string (w0 := WB_) WB_.heap.size (by rfl) (.tmp 67) (.tmp 70) 24 9 (.string ⟨#[]⟩) 16 rfl Try.underlying24 info9 rfl (by decide) (by omega) v67 (XT_ ++ [t885]) XD_ _ _ _ (fun _ => True) (fun _ => False) rfl rfl ?aO ?aR (fun _ _ h => h) (fun _ h => h.elim) ?aF ?aB ?aS ?aL ?_
  (case aR => exact (Kd.C_below HCD.out HBr.out))
  (case aB => exact HBr.out)
  (case aF => exact (fun _ _ => trivial))
  (case aO => exact H67.out)
  (case aS => exact HBr.out.size)
  (case aL => have := LMK.out; have := LMT.out; have := LMD.out; simp only [List.length_append, List.length_cons, List.length_nil]; omega)
  intro v71 w71 ho hb hg hat
  have H71 := Aside0.mk ho
  replace HBr := Aside0.mk hb
  clear ho hb hg hat H67
  refine hK.out _ _ trivial (fun hHeld => ?_)
  clear hK K
  refine norm_ (a' := ?_) ?_ ?_
  rotate_left
  · show Act.put _ (some 71) _ = _
    simp only [Act.put, s_1, s_2, s_3, i64_w, i32_w]
    rfl
  refine pure_ (i := 12) (N := some 6) (v := ?_) (a' := ?_) (bs_ 13 8191) rfl rfl (by kernel_rfl) (fun _ _ _ h => h) (Or.inl ⟨by rfl, ?_⟩) ?_ ?_
  rotate_left
  · intro w'
    go_simp
    with_reducible rfl
  rotate_left
  · simp only [Act.put, s_1, s_2, s_3, i64_w, i32_w]
    rfl
  refine done_ (by kernel_rfl) ?_
  have n0_ := Aside0.mk (Kd.R_lower H71.out (below_size HB.out))
  replace HO_22 := Aside0.mk (Kd.R_below HO_22.out HBr.out)
  replace BK879 := Aside0.mk (blk_below (g := gb879) (o := .cells #[.int .i64 a0_0, .int .i64 a0_1] 28 (0, 0)) BK879.out HBr.out)
  replace HB := Aside0.mk (below_step HB.out HBr.out)
  have hy_ : (XT_ ++ [t885]) ++ XD_ = y897 := by rw [Ny897.out, Ny894.out, NXT.out, NXD.out]
  rw [hy_] at n0_
  clear hy_ H71 HBr HCT HCD
  have HO899 := n0_
  clear n0_
  try go_wp2
  go_roundg k3
  case measure => have := HK1.out; have := HK2.out; have := HK3.out; omega
  case rel => refine ⟨(y897), (wrap64 (x24_2 + 1)), (by first | rfl | (simp; done) | (simp [*]; done)), H', ⟨by have := HK1.out; have := HK2.out; have := HK3.out; omega⟩, ⟨?_⟩, ⟨?_⟩, ⟨?_⟩, ⟨bB HB⟩⟩ <;> (with_reducible repeat (first | refine g_d ?_ _ | refine g_e ?_ | refine g_a ?_ _ | apply r_a | apply r_d | apply r_e)) <;> first | exact BK879.out | exact HO899.out | exact HO_22.out
/-! ### impl_Lock_next: function 89 -/
def impl_Lock_next.l0 : Nat → ByteArray → List ByteArray → List (S66) → Int → Int → Int → Int → Option (List ByteArray)
  | 0, _, _, _, _, _, _, _ => none
  | k + 1, x1, x5, x11, x12, x13, x967000, x967001 => if x13 < x12 then (if 0 ≤ x13 then (if x13 < (x11.length : Int) then ((impl_Lock_turned.f k x967000 x967001 x1 ((rd_T66 x11 x13).f0) ((rd_T66 x11 x13).f1)).bind fun t975 => (if x5.length < 8796093022208 then (impl_Lock_next.l0 k x1 (x5 ++ [t975]) x11 x12 (wrap64 (x13 + 1)) x967000 x967001) else (none))) else (none)) else (none)) else ((impl_sorted.f x5).bind fun t979 => (some t979))
def impl_Lock_next.f (k : Nat) (a0_0 : Int) (a0_1 : Int) (a1 : ByteArray) : Option (List ByteArray) := (impl_turns.f k a0_0).bind fun t970 => (impl_Lock_next.l0 k a1 (([] : List ByteArray)) t970 (t970.length : Int) 0 a0_0 a0_1)
theorem impl_Lock_next.mono_l : ∀ k, (∀ y0 y1 y2 y3 y4 y5 y6, LeO (impl_Lock_next.l0 k y0 y1 y2 y3 y4 y5 y6) (impl_Lock_next.l0 (k + 1) y0 y1 y2 y3 y4 y5 y6))
  | 0 => fun _ _ _ _ _ _ _ r h => by simp [impl_Lock_next.l0] at h
  | k + 1 => by
    have ih0 := impl_Lock_next.mono_l k
    · intro y0 y1 y2 y3 y4 y5 y6
      unfold impl_Lock_next.l0
      repeat' first
      | (with_reducible exact ih0 _ _ _ _ _ _ _)
      | (with_reducible exact impl_Lock_turned.mono _ _ _ _ _ _)
      | (with_reducible exact impl_turns.mono _ _)
      | (with_reducible exact LeO.refl _)
      | (with_reducible exact LeO.none _)
      | (with_reducible refine LeO.ite ?_ ?_)
      | (with_reducible refine LeO.bind ?_ (fun _ => ?_))
      | exact ih0 _ _ _ _ _ _ _
      | exact impl_Lock_turned.mono _ _ _ _ _ _
      | exact impl_turns.mono _ _
      | exact LeO.none _
      | refine LeO.ite ?_ ?_
      | refine LeO.bind ?_ (fun _ => ?_)
theorem impl_Lock_next.mono : ∀ a0 a1 a2 k, LeO (impl_Lock_next.f k a0 a1 a2) (impl_Lock_next.f (k + 1) a0 a1 a2) := by
  intro a0 a1 a2 k
  have ih0 := impl_Lock_next.mono_l k
  unfold impl_Lock_next.f
  repeat' first
      | (with_reducible exact ih0 _ _ _ _ _ _ _)
      | (with_reducible exact impl_Lock_turned.mono _ _ _ _ _ _)
      | (with_reducible exact impl_turns.mono _ _)
      | (with_reducible exact LeO.refl _)
      | (with_reducible exact LeO.none _)
      | (with_reducible refine LeO.ite ?_ ?_)
      | (with_reducible refine LeO.bind ?_ (fun _ => ?_))
      | exact ih0 _ _ _ _ _ _ _
      | exact impl_Lock_turned.mono _ _ _ _ _ _
      | exact impl_turns.mono _ _
      | exact LeO.none _
      | refine LeO.ite ?_ ?_
      | refine LeO.bind ?_ (fun _ => ?_)
set_option maxHeartbeats 8000000 in
set_option maxRecDepth 100000 in
theorem impl_Lock_next.calls (k : Nat) (a0_0 : Int) (a0_1 : Int) (a1 : ByteArray) (r : List ByteArray) (w : World) (h : impl_Lock_next.f k a0_0 a0_1 a1 = some r) :
    Calls Try.prog 89 #[.agg #[.int .i64 a0_0, .int .i64 a0_1], .string a1] w fun e w' => ∃ v0_ : Value, e = .returned (v0_) ∧ Kd.R Kd.string 9 w' w.heap.size (fun _ => True) v0_ r ∧ Below w.heap.size w w' := by
  have hu28 := Try.underlying28
  have hu66 := Try.underlying66
  have HB := Aside0.mk (Below.refl w.heap.size w)
  have H : ((impl_turns.f k a0_0).bind fun t970 => (impl_Lock_next.l0 k a1 (([] : List ByteArray)) t970 (t970.length : Int) 0 a0_0 a0_1)) = some r := h
  clear h
  obtain ⟨y967, hy967⟩ : ∃ y_ : List ByteArray, y_ = (([] : List ByteArray)) := ⟨_, rfl⟩
  replace H : ((impl_turns.f k a0_0).bind fun t970 => (impl_Lock_next.l0 k a1 y967 t970 (t970.length : Int) 0 a0_0 a0_1)) = some r := by first | (rw [hy967]; with_reducible exact H) | (have H2_ := (Option.bind_some _ _).symm.trans H; rw [hy967]; with_reducible exact H2_) | (have H2_ := (Option.bind_some _ _).symm.trans H; with_reducible exact H2_) | with_reducible exact H | (rw [hy967]; exact H) | exact H
  have Ny967 := Aside0.mk hy967
  clear hy967
  replace H := Option.bind_eq_some_iff.mp H
  obtain ⟨t970, A30, H⟩ := H
  try dsimp only at H
  have A3 := Aside0.mk A30
  clear A30
  have H' := Aside0.mk H
  clear H
  go_enter Try.func89, Try.ntmps89
  go_wp2_with (first | ((with_reducible refine gate_dst (N := 2) rfl ?_); refine box_event ?hg (N := 2) ?hd (cs := #[.int .i64 a0_0, .int .i64 a0_1]) (t := 28) ?hr ?_; (case hd => rfl); (case hg => rfl); (case hr => first | (go_simp; done) | (go_simp; rfl)); intro gb966 hg w4 hbox hb; have n0_ := bsx hb HB; have n1_ := Aside0.mk (hbox); have n2_ := gwx hg HB; have n3_ := n2_; clear HB; have HB := n0_; have BK966 := n1_; have GW966 := n2_; have GE966 := n3_; clear n0_ n1_ n2_ n3_; clear hb hbox hg) | ((with_reducible refine gate_dst (N := 8) rfl ?_); refine Kd.R_lit Kd.string _ 9 ?hg (N := 8) ?hd (xs := ([] : List ByteArray)) (inner := []) (ok := fun _ => True) (okp := fun _ => True) ?hr ?hp (fun _ hk => hk) trivial (Below.refl _ _) (Nat.le_refl _) (by simp) ?_; (case hd => rfl); (case hg => rfl); (case hr => first | (go_simp; done) | (go_simp; rfl)); (case hp => exact (Reps.none _ _)); intro v968 w5 ho6 hb hg_ hnew_; clear hg_ hnew_; (first | rw [← Ny967.out] at ho6 | (simp only [Int.reduceToNat] at ho6; rw [← Ny967.out] at ho6)); have n0_ := Aside0.mk (Kd.R_lower ho6 (below_size (bB HB))); replace BK966 := bbx hb BK966; have n2_ := bsx hb HB; clear HB; have HO969 := n0_; have HB := n2_; clear n0_ n2_; clear hb ho6; have hcz7_0 := cz0 BK966; have hcz7_1 := cz1 BK966; have hfz7_0 := blk_frozen BK966.out 0; have hfz7_1 := blk_frozen BK966.out 1) | ((with_reducible refine gate_callee (f := 69) rfl ?_); refine goesL_ (some 11) rfl rfl Try.func69 (by kernel_rfl) rfl #[.int .i64 a0_0] rfl (by (try simp only [m_1, m_2, m_3]); first | done | rfl | (simp only [m_4, m_5]; rfl)) ?_; (with_reducible refine (impl_turns.calls k a0_0 t970 _ A3.out).mono ?_); rintro e w8 ⟨v971, rfl, ho0, hb⟩; refine ⟨_, rfl, ?_⟩; have n0_ := Aside0.mk (Kd.R_below (by (with_reducible repeat (first | apply r_a | apply r_d | apply r_e)); exact HO969.out) hb); have n1_ := Aside0.mk (Kd.R_lower ho0 (below_size (bB HB))); replace BK966 := bbx hb BK966; have n3_ := bsx hb HB; clear HO969; clear HB; have HO969 := n0_; have HO972 := n1_; have HB := n3_; clear n0_ n1_ n3_; (try clear hb); (try clear hb2); (try clear hk); (try clear hi); (try clear ho0); obtain ⟨Ao9, co9, eo9⟩ := Kd.R_slice HO972.out; subst eo9))
  go_loopg [5, 13] k (fun kq v5 v13 w' => ∃ (x5_1 : List ByteArray) (x13_1 : Int), v13 = .int .i64 x13_1 ∧ Aside0 (impl_Lock_next.l0 kq a1 x5_1 t970 (t970.length : Int) x13_1 a0_0 a0_1 = some r) ∧ Aside0 (kq ≤ k) ∧ Aside0 (Kd.R Kd.string 9 w' w.heap.size (fun _ => True) v5 x5_1) ∧ Aside0 (Kd.R k66 66 w' w.heap.size (fun _ => True) (.slice Ao9 t970.length co9) t970) ∧ Aside0 (w'.heap[gb966]? = some (.cells #[.int .i64 a0_0, .int .i64 a0_1] 28 (0, 0))) ∧ Aside0 (Below w.heap.size w w'))
  case atStart => refine ⟨(y967), (0), (by first | rfl | (simp; done) | (simp [*]; done)), H', ⟨Nat.le_refl _⟩, ⟨?_⟩, ⟨?_⟩, ⟨?_⟩, ⟨bB HB⟩⟩ <;> (with_reducible repeat (first | refine g_d ?_ _ | refine g_e ?_ | refine g_a ?_ _ | apply r_a | apply r_d | apply r_e)) <;> first | exact BK966.out | exact HO969.out | exact HO972.out
  clear H'
  try clear hcz7_0
  try clear hcz7_1
  try clear hfz7_0
  try clear hfz7_1
  obtain ⟨x5_1, x13_1, rfl, HA, HK1, HO_5, HO_11, BK966, HB⟩ := hrel
  rcases gk with _ | k1
  · exact absurd HA.out (by simp [impl_Lock_next.l0])
  have H := HA.out
  clear HA
  simp only [impl_Lock_next.l0] at H
  by_cases c10 : x13_1 < (t970.length : Int)
  rotate_left
  · rw [if_neg c10] at H
    have c10b0 : decide (x13_1 < (t970.length : Int)) = false := decide_eq_false c10
    clear c10
    replace H := Option.bind_eq_some_iff.mp H
    obtain ⟨t979, A210, H⟩ := H
    try dsimp only at H
    have A21 := Aside0.mk A210
    clear A210
    obtain rfl := Option.some.inj H
    obtain ⟨Ao22, co22, eo22⟩ := Kd.R_slice HO_5.out
    subst eo22
    go_wp2_with (first | ((with_reducible refine gate_callee (f := 101) rfl ?_); refine goesL_ (some 26) rfl rfl Try.func101 (by kernel_rfl) rfl #[.slice Ao22 x5_1.length co22] rfl (by (try simp only [m_1, m_2, m_3]); first | done | rfl | (simp only [m_4, m_5]; rfl)) ?_; (with_reducible refine (impl_sorted.calls (fun k_ => some k_ = (.slice Ao22 x5_1.length co22 : Value).ownBlock) (.slice Ao22 x5_1.length co22) x5_1 t979 w _ ?side1 ?side2 A21.out).mono ?_); (case side1 => exact bB HB); (case side2 => exact Kd.R_tight rfl HO_5.out); rintro e w23 ⟨v980, rfl, ho0, hb, hkp⟩; refine ⟨_, rfl, ?_⟩; have n0_ := Aside0.mk (Kd.R_mono (ok' := fun k_ => True) (Kd.R_keptB ((Kd.R_apart' HO_11.out (Kd.R_typed HO_5.out) (by decide))) hkp (fun k_ hk_ hs_ => (hk_.2) hs_)) (fun k_ hk_ => trivial)); have n1_ := Aside0.mk (blk_kept (bK BK966) hkp (fun hs_ => (fun e_ => (Kd.R_ne HO_5.out BK966.out (by decide)) e_) hs_)); have n2_ := Aside0.mk (Kd.R_mono (ok' := fun k_ => True) ho0 (fun k_ hk_ => trivial)); have n3_ := Aside0.mk (hb); clear HO_11; clear BK966; clear HB; clear HO_5; have HO_11 := n0_; have BK966 := n1_; have HO981 := n2_; have HB := n3_; clear n0_ n1_ n2_ n3_; (try clear hb); (try clear hkp); (try clear ho0)))
    go_ret
    exact ⟨_, by first | rfl | (simp [errW_none, errW_some] <;> rfl) | (simp [*, errW_none, errW_some] <;> rfl), by (with_reducible repeat (first | apply r_a | apply r_d | apply r_e)); exact HO981.out, bB HB⟩

  rw [if_pos c10] at H
  have c10b0 : decide (x13_1 < (t970.length : Int)) = true := decide_eq_true c10
  clear c10
  by_cases c11 : 0 ≤ x13_1
  rotate_left
  · rw [if_neg c11] at H
    exact absurd H (by simp)
  rw [if_pos c11] at H
  have c11b0 : decide (0 ≤ x13_1) = true := decide_eq_true c11
  clear c11
  by_cases c12 : x13_1 < (t970.length : Int)
  rotate_left
  · rw [if_neg c12] at H
    exact absurd H (by simp)
  rw [if_pos c12] at H
  have c12b0 : decide (x13_1 < (t970.length : Int)) = true := decide_eq_true c12
  clear c12
  replace H := Option.bind_eq_some_iff.mp H
  obtain ⟨t975, A130, H⟩ := H
  try dsimp only at H
  have A13 := Aside0.mk A130
  clear A130
  by_cases c14 : x5_1.length < 8796093022208
  rotate_left
  · rw [if_neg c14] at H
    exact absurd H (by simp)
  rw [if_pos c14] at H
  have LMc14 := Aside0.mk c14
  clear c14
  obtain ⟨y976, hy976⟩ : ∃ y_ : List ByteArray, y_ = (x5_1 ++ [t975]) := ⟨_, rfl⟩
  replace H : (impl_Lock_next.l0 k1 a1 y976 t970 (t970.length : Int) (wrap64 (x13_1 + 1)) a0_0 a0_1) = some r := by first | (rw [hy976]; with_reducible exact H) | (have H2_ := (Option.bind_some _ _).symm.trans H; rw [hy976]; with_reducible exact H2_) | (have H2_ := (Option.bind_some _ _).symm.trans H; with_reducible exact H2_) | with_reducible exact H | (rw [hy976]; exact H) | exact H
  have Ny976 := Aside0.mk hy976
  clear hy976
  have H' := Aside0.mk H
  clear H
  have p973 : 0 ≤ (x13_1 : Int) := of_decide_eq_true (by first | (with_reducible assumption) | assumption)
  have q973 : x13_1 < (t970.length : Int) := of_decide_eq_true (by first | (with_reducible assumption) | assumption)
  obtain ⟨ad973, e973, hx973_0, hx973_1⟩ := at_T66 (Kd.R_reads' HO_11.out).2.2 x13_1 p973 q973
  cases e973
  replace p973 := eq_true p973
  replace q973 := eq_true q973
  go_wp2_with (first | ((with_reducible refine gate_dst (N := 7) rfl ?_); refine box_event ?hg (N := 7) ?hd (cs := #[.int .i64 0, .int .i64 0]) (t := 66) ?hr ?_; (case hd => rfl); (case hg => rfl); (case hr => first | (go_simp; done) | (go_simp; rfl)); intro gb974 hg w15 hbox hb; have n0_ := Aside0.mk (Kd.R_below (by (with_reducible repeat (first | apply r_a | apply r_d | apply r_e)); exact HO_5.out) hb); have n1_ := Aside0.mk (Kd.R_below (Kd.R_elderB (by (with_reducible repeat (first | apply r_a | apply r_d | apply r_e)); exact HO_11.out) gb974 (Nat.le_of_eq hg.symm)) hb); have n2_ := bbx hb BK966; have n3_ := bsx hb HB; have n4_ := Aside0.mk (hbox); have n5_ := gwx hg HB; have n6_ := gwx hg HB; have n7_ := nlx hg BK966; have n8_ := ngx hg BK966; clear HO_5; clear HO_11; clear BK966; clear HB; have HO_5 := n0_; have HO_11 := n1_; have BK966 := n2_; have HB := n3_; have BK974 := n4_; have GW974 := n5_; have GE974 := n6_; have NB966_974 := n7_; have NB974_966 := n8_; clear n0_ n1_ n2_ n3_ n4_ n5_ n6_ n7_ n8_; clear hb hbox hg; have hnb16 := NB974_966.out; have hnc16 := NB966_974.out; have hcz17_0 := cz0 BK974; have hcz17_1 := cz1 BK974; have hfz17_0 := blk_frozen BK974.out 0; have hfz17_1 := blk_frozen BK974.out 1; have hcz18_0 := cz0 BK966; have hcz18_1 := cz1 BK966; have hfz18_0 := blk_frozen BK966.out 0; have hfz18_1 := blk_frozen BK966.out 1) | ((with_reducible refine gate_callee (f := 99) rfl ?_); refine goesL_ (some 21) rfl rfl Try.func99 (by kernel_rfl) rfl #[.agg #[.int .i64 a0_0, .int .i64 a0_1], .string a1, .agg #[.int .i64 ((rd_T66 t970 x13_1).f0), .int .i64 ((rd_T66 t970 x13_1).f1)]] rfl (by (try simp only [m_1, m_2, m_3]); first | done | rfl | (simp only [m_4, m_5]; rfl)) ?_; (with_reducible refine (impl_Lock_turned.calls k1 a0_0 a0_1 a1 ((rd_T66 t970 x13_1).f0) ((rd_T66 t970 x13_1).f1) t975 _ A13.out).mono ?_); rintro e w19 ⟨rfl, hb⟩; refine ⟨_, rfl, ?_⟩; have n0_ := Aside0.mk (Kd.R_below (by (with_reducible repeat (first | apply r_a | apply r_d | apply r_e)); exact (Kd.R_mono (Kd.R_far (p := ⟨gb974, 1, none⟩) (Kd.R_far (p := ⟨gb974, 0, none⟩) (Kd.R_types HO_5.out BK974.out (by decide)) (fun _ hk => hk.2) (.int .i64 ((rd_T66 t970 x13_1).f0))) (fun _ hk => hk.2) (.int .i64 ((rd_T66 t970 x13_1).f1))) (fun _ h_ => h_.1))) hb); have n1_ := Aside0.mk (Kd.R_below (by (with_reducible repeat (first | apply r_a | apply r_d | apply r_e)); exact (Kd.R_mono (Kd.R_far (p := ⟨gb974, 1, none⟩) (Kd.R_far (p := ⟨gb974, 0, none⟩) (Kd.R_mono HO_11.out (fun k_ hk => (⟨hk, hk.2⟩ : _ ∧ k_ ≠ gb974))) (fun _ hk => hk.2) (.int .i64 ((rd_T66 t970 x13_1).f0))) (fun _ hk => hk.2) (.int .i64 ((rd_T66 t970 x13_1).f1))) (fun _ h_ => h_.1))) hb); have n2_ := Aside0.mk (blk_below (g := gb966) (o := .cells #[.int .i64 a0_0, .int .i64 a0_1] 28 (0, 0)) (bF) hb); have n3_ := Aside0.mk (blk_below (g := gb974) (o := .cells #[.int .i64 ((rd_T66 t970 x13_1).f0), .int .i64 ((rd_T66 t970 x13_1).f1)] 66 (0, 0)) (by (with_reducible repeat (first | refine g_d ?_ _ | refine g_e ?_ | refine g_a ?_ _)); refine blk_put (cs := #[.int .i64 ((rd_T66 t970 x13_1).f0), .int .i64 0]) ?_ 1 _ rfl; (with_reducible repeat (first | refine g_d ?_ _ | refine g_e ?_ | refine g_a ?_ _)); refine blk_put (cs := #[.int .i64 0, .int .i64 0]) ?_ 0 _ rfl; (with_reducible repeat (first | refine g_d ?_ _ | refine g_e ?_ | refine g_a ?_ _)); exact BK974.out) hb); replace HB := bsx hb HB; clear HO_5; clear HO_11; clear BK966; clear BK974; have HO_5 := n0_; have HO_11 := n1_; have BK966 := n2_; have BK974 := n3_; clear n0_ n1_ n2_ n3_; (try clear hb); (try clear hb2); (try clear hk); (try clear hi)) | ((with_reducible refine gate_builtin (b := .append) (xs := #[.tmp 17, .tmp 22]) rfl ?_); at_builtin; refine Kd.R_append Kd.string (w0 := w) w.heap.size rfl (.tmp 17) (.tmp 22) 24 9 (.string ⟨#[]⟩) 16 rfl Try.underlying24 info9 rfl (by decide) (by omega) u5 x5_1 t975 [.string t975] (fun _ => True) (fun _ => False) rfl rfl ?aP (fun _ hk => hk.elim) ?aF ?aO ?aB ?aS ?aL ?_; (case aP => exact rfl); (case aB => exact (bB HB)); (case aF => exact (fun _ _ => trivial)); (case aO => exact (by (with_reducible repeat (first | apply r_a | apply r_d | apply r_e)); exact HO_5.out)); (case aS => exact (below_size (bB HB))); (case aL => have := LMc14.out; omega); intro v977 w20 ho hb hg hat; rw [← Ny976.out] at ho; have n0_ := Aside0.mk (Kd.R_over' (by (with_reducible repeat (first | apply r_a | apply r_d | apply r_e)); exact HO_11.out) (Kd.R_typed (by (with_reducible repeat (first | apply r_a | apply r_d | apply r_e)); exact HO_5.out)) (by decide) hg); have n1_ := Aside0.mk (blk_grown (g := gb966) (o := .cells #[.int .i64 a0_0, .int .i64 a0_1] 28 (0, 0)) (bK BK966) hg (Kd.R_ne HO_5.out BK966.out (by decide))); have n2_ := Aside0.mk (blk_grown (g := gb974) (o := .cells #[.int .i64 ((rd_T66 t970 x13_1).f0), .int .i64 ((rd_T66 t970 x13_1).f1)] 66 (0, 0)) (bK BK974) hg (Kd.R_ne HO_5.out BK974.out (by decide))); have n3_ := Aside0.mk (hb); have n4_ := Aside0.mk (ho); clear HO_11; clear BK966; clear BK974; clear HB; clear HO_5; have HO_11 := n0_; have BK966 := n1_; have BK974 := n2_; have HB := n3_; have HO978 := n4_; clear n0_ n1_ n2_ n3_ n4_; clear ho hb hg hat))
  go_roundg k1
  case measure => have := HK1.out; omega
  case rel => refine ⟨(y976), (wrap64 (x13_1 + 1)), (by first | rfl | (simp; done) | (simp [*]; done)), H', ⟨by have := HK1.out; omega⟩, ⟨?_⟩, ⟨by (with_reducible repeat (first | apply r_a | apply r_d | apply r_e)); exact Kd.R_mono HO_11.out (fun _ hk => trivial)⟩, ⟨?_⟩, ⟨bB HB⟩⟩ <;> (with_reducible repeat (first | refine g_d ?_ _ | refine g_e ?_ | refine g_a ?_ _ | apply r_a | apply r_d | apply r_e)) <;> first | exact BK966.out | exact HO978.out
end Go.Proofs.Ytihhiolflbieaaa.P
