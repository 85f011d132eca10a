-- Texts of this session's own program (wip/dr.py), which runs the kit's printer.
import Derived.Test.YtihhiolflbieaaaPx0
import Derived.Test.YtihhiolflbieaaaPx1
import Derived.Test.YtihhiolflbieaaaPx2
import Derived.Test.YtihhiolflbieaaaPx28
import Derived.Test.YtihhiolflbieaaaPx49
import Derived.Test.YtihhiolflbieaaaPx62
import Derived.Test.YtihhiolflbieaaaPx71
import Derived.Test.YtihhiolflbieaaaPx73
import Derived.Test.YtihhiolflbieaaaPx125
import Derived.Test.YtihhiolflbieaaaPx128
namespace Go.Proofs.Ytihhiolflbieaaa.P
open Go.RowKit Go.Proofs.YtihhiolflbieaaaW.PrintWords Go.Proofs.YtihhiolflbieaaaW.PrintLast Go.Proofs.YtihhiolflbieaaaW.PrintMore
attribute [local go_sem] max2_int min2_int max_two min_two max_three min_three max_four min_four   -- for this text's walks alone
set_option linter.unusedVariables false
set_option linter.unusedSimpArgs false

/-! ### spec_LiveNext: function 43 -/
def spec_LiveNext.l0 : Nat → List ByteArray → List ByteArray → List ByteArray → Int → Int → Option (List ByteArray × Bool)
  | 0, _, _, _, _, _ => none
  | k + 1, x1, x10, x24, x25, x26 => if x26 < x25 then (if 0 ≤ x26 then (if x26 < (x24.length : Int) then ((spec_l1HasS.f k x1 (rdOf ByteArray.empty x24 x26)).bind fun t1049 => (if t1049 = true then (spec_LiveNext.l0 k x1 x10 x24 x25 (wrap64 (x26 + 1))) else (if x10.length < 8796093022208 then (spec_LiveNext.l0 k x1 (x10 ++ [rdOf ByteArray.empty x24 x26]) x24 x25 (wrap64 (x26 + 1))) else (none)))) else (none)) else (none)) else (some (x10, true))
def spec_LiveNext.f (k : Nat) (a0_0 : Int) (a0_1 : Int) (l1 : List ByteArray) (a2 : ByteArray) : Option (List ByteArray × Bool) := (spec_deAsked.f k a0_0 a0_1 l1 a2).bind fun t1043 => (if t1043 = true then ((spec_NextCodes.f k a0_0 a0_1 a2).bind fun bt1044 => (spec_LiveNext.l0 k l1 ([] : List ByteArray) bt1044.1 (bt1044.1.length : Int) 0)) else (some (([] : List ByteArray), false)))
theorem spec_LiveNext.mono_l : ∀ k, (∀ y0 y1 y2 y3 y4, LeO (spec_LiveNext.l0 k y0 y1 y2 y3 y4) (spec_LiveNext.l0 (k + 1) y0 y1 y2 y3 y4))
  | 0 => fun _ _ _ _ _ r h => by simp [spec_LiveNext.l0] at h
  | k + 1 => by
    have ih0 := spec_LiveNext.mono_l k
    · intro y0 y1 y2 y3 y4
      unfold spec_LiveNext.l0
      repeat' first
      | (with_reducible exact ih0 _ _ _ _ _)
      | (with_reducible exact spec_NextCodes.mono _ _ _ _)
      | (with_reducible exact spec_deAsked.mono _ _ _ _ _)
      | (with_reducible exact spec_l1HasS.mono _ _ _)
      | (with_reducible exact LeO.refl _)
      | (with_reducible exact LeO.none _)
      | (with_reducible refine LeO.ite ?_ ?_)
      | (with_reducible refine LeO.bind ?_ (fun _ => ?_))
      | exact ih0 _ _ _ _ _
      | exact spec_NextCodes.mono _ _ _ _
      | exact spec_deAsked.mono _ _ _ _ _
      | exact spec_l1HasS.mono _ _ _
      | exact LeO.none _
      | refine LeO.ite ?_ ?_
      | refine LeO.bind ?_ (fun _ => ?_)
theorem spec_LiveNext.mono : ∀ a0 a1 a2 a3 k, LeO (spec_LiveNext.f k a0 a1 a2 a3) (spec_LiveNext.f (k + 1) a0 a1 a2 a3) := by
  intro a0 a1 a2 a3 k
  have ih0 := spec_LiveNext.mono_l k
  unfold spec_LiveNext.f
  repeat' first
      | (with_reducible exact ih0 _ _ _ _ _)
      | (with_reducible exact spec_NextCodes.mono _ _ _ _)
      | (with_reducible exact spec_deAsked.mono _ _ _ _ _)
      | (with_reducible exact spec_l1HasS.mono _ _ _)
      | (with_reducible exact LeO.refl _)
      | (with_reducible exact LeO.none _)
      | (with_reducible refine LeO.ite ?_ ?_)
      | (with_reducible refine LeO.bind ?_ (fun _ => ?_))
      | exact ih0 _ _ _ _ _
      | exact spec_NextCodes.mono _ _ _ _
      | exact spec_deAsked.mono _ _ _ _ _
      | exact spec_l1HasS.mono _ _ _
      | exact LeO.none _
      | refine LeO.ite ?_ ?_
      | refine LeO.bind ?_ (fun _ => ?_)
set_option maxHeartbeats 8000000 in
set_option maxRecDepth 100000 in
theorem spec_LiveNext.calls (k : Nat) (a0_0 : Int) (a0_1 : Int) (A1 : Option Addr) (c1 : Nat) (l1 : List ByteArray) (a2 : ByteArray) (r1 : List ByteArray) (r2 : Bool) (w : World) (hr1 : Kd.C Kd.string w A1 l1.length l1) (hc1 : l1.length ≤ c1) (h : spec_LiveNext.f k a0_0 a0_1 l1 a2 = some (r1, r2)) :
    Calls Try.prog 43 #[.agg #[.int .i64 a0_0, .int .i64 a0_1], .slice A1 l1.length c1, .string a2] w fun e w' => ∃ v0_ : Value, e = .returned (.tuple #[v0_, .bool r2]) ∧ Kd.R Kd.string 9 w' w.heap.size (fun _ => True) v0_ r1 ∧ Below w.heap.size w w' := by
  have hu28 := Try.underlying28
  have HR1 := Aside0.mk hr1
  have HC1 := Aside0.mk hc1
  clear hr1 hc1
  have HB := Aside0.mk (Below.refl w.heap.size w)
  have H : ((spec_deAsked.f k a0_0 a0_1 l1 a2).bind fun t1043 => (if t1043 = true then ((spec_NextCodes.f k a0_0 a0_1 a2).bind fun bt1044 => (spec_LiveNext.l0 k l1 ([] : List ByteArray) bt1044.1 (bt1044.1.length : Int) 0)) else (some (([] : List ByteArray), false)))) = some (r1, r2) := h
  clear h
  replace H := Option.bind_eq_some_iff.mp H
  obtain ⟨t1043, A40, H⟩ := H
  try dsimp only at H
  have A4 := Aside0.mk A40
  clear A40
  by_cases c5 : t1043 = true
  rotate_left
  · replace c5 := Bool.eq_false_iff.mpr c5
    subst c5
    rw [if_neg (show ¬ (false = true) by decide)] at H
    simp only [Option.some.injEq, Prod.mk.injEq] at H
    obtain ⟨rfl, rfl⟩ := H
    go_enter Try.func43, Try.ntmps43
    go_wp2_with (first | ((with_reducible refine gate_dst (N := 3) rfl ?_); refine box_event ?hg (N := 3) ?hd (cs := #[.int .i64 a0_0, .int .i64 a0_1]) (t := 28) ?hr ?_; (case hd => rfl); (case hg => rfl); (case hr => first | (go_simp; done) | (go_simp; rfl)); intro gb1042 hg w20 hbox hb; have n0_ := bsx hb HB; have n1_ := Aside0.mk (hbox); have n2_ := gwx hg HB; have n3_ := n2_; clear HB; have HB := n0_; have BK1042 := n1_; have GW1042 := n2_; have GE1042 := n3_; clear n0_ n1_ n2_ n3_; clear hb hbox hg; have hcz21_0 := cz0 BK1042; have hcz21_1 := cz1 BK1042; have hfz21_0 := blk_frozen BK1042.out 0; have hfz21_1 := blk_frozen BK1042.out 1) | ((with_reducible refine gate_callee (f := 84) rfl ?_); refine goesL_ (some 16) rfl rfl Try.func84 (by kernel_rfl) rfl #[.agg #[.int .i64 a0_0, .int .i64 a0_1], .slice A1 l1.length c1, .string a2] rfl (by (try simp only [m_1, m_2, m_3]); first | done | rfl | (simp only [m_4, m_5]; rfl)) ?_; (with_reducible refine (spec_deAsked.calls k a0_0 a0_1 _ _ l1 a2 false _ ?side1 ?side2 A4.out).mono ?_); (case side1 => repeat (first | exact (Kd.C_below HR1.out HB.out) | (with_reducible refine Kd.C_alloc ?_ _) | (with_reducible refine Kd.C_drewN ?_ _) | (with_reducible refine Kd.C_drew ?_))); (case side2 => exact HC1.out); rintro e w22 ⟨rfl, hb⟩; refine ⟨_, rfl, ?_⟩; replace BK1042 := bbx hb BK1042; replace HB := bsx hb HB; skip; (try clear hb); (try clear hb2); (try clear hk); (try clear hi)))
    go_ret2
    exact ⟨_, by first | rfl | (simp [errW_none, errW_some] <;> rfl) | (simp [*, errW_none, errW_some] <;> rfl), by first | exact Kd.R_nil _ _ _ _ _ | exact Kd.N_nil _ _ _ _ _ | exact Kd.V_nil _ _ _ _ _ | exact Kd.Q_nil _ _ _ _ _ | exact Kd.S_nil _ _ _ _ _, bB HB⟩

  subst c5
  rw [if_pos rfl] at H
  replace H := Option.bind_eq_some_iff.mp H
  obtain ⟨⟨t1044, t1047⟩, A60, H⟩ := H
  try dsimp only at H
  have A6 := Aside0.mk A60
  clear A60
  have H' := Aside0.mk H
  clear H
  go_enter Try.func43, Try.ntmps43
  go_wp2_with (first | ((with_reducible refine gate_dst (N := 3) rfl ?_); refine box_event ?hg (N := 3) ?hd (cs := #[.int .i64 a0_0, .int .i64 a0_1]) (t := 28) ?hr ?_; (case hd => rfl); (case hg => rfl); (case hr => first | (go_simp; done) | (go_simp; rfl)); intro gb1042 hg w7 hbox hb; have n0_ := bsx hb HB; have n1_ := Aside0.mk (hbox); have n2_ := gwx hg HB; have n3_ := n2_; clear HB; have HB := n0_; have BK1042 := n1_; have GW1042 := n2_; have GE1042 := n3_; clear n0_ n1_ n2_ n3_; clear hb hbox hg; have hcz8_0 := cz0 BK1042; have hcz8_1 := cz1 BK1042; have hfz8_0 := blk_frozen BK1042.out 0; have hfz8_1 := blk_frozen BK1042.out 1) | ((with_reducible refine gate_callee (f := 84) rfl ?_); refine goesL_ (some 16) rfl rfl Try.func84 (by kernel_rfl) rfl #[.agg #[.int .i64 a0_0, .int .i64 a0_1], .slice A1 l1.length c1, .string a2] rfl (by (try simp only [m_1, m_2, m_3]); first | done | rfl | (simp only [m_4, m_5]; rfl)) ?_; (with_reducible refine (spec_deAsked.calls k a0_0 a0_1 _ _ l1 a2 true _ ?side1 ?side2 A4.out).mono ?_); (case side1 => repeat (first | exact (Kd.C_below HR1.out HB.out) | (with_reducible refine Kd.C_alloc ?_ _) | (with_reducible refine Kd.C_drewN ?_ _) | (with_reducible refine Kd.C_drew ?_))); (case side2 => exact HC1.out); rintro e w9 ⟨rfl, hb⟩; refine ⟨_, rfl, ?_⟩; replace BK1042 := bbx hb BK1042; replace HB := bsx hb HB; skip; (try clear hb); (try clear hb2); (try clear hk); (try clear hi); have hcz10_0 := cz0 BK1042; have hcz10_1 := cz1 BK1042; have hfz10_0 := blk_frozen BK1042.out 0; have hfz10_1 := blk_frozen BK1042.out 1) | ((with_reducible refine gate_callee (f := 85) rfl ?_); refine goesL_ (some 21) rfl rfl Try.func85 (by kernel_rfl) rfl #[.agg #[.int .i64 a0_0, .int .i64 a0_1], .string a2] rfl (by (try simp only [m_1, m_2, m_3]); first | done | rfl | (simp only [m_4, m_5]; rfl)) ?_; (with_reducible refine (spec_NextCodes.calls k a0_0 a0_1 a2 t1044 t1047 _ A6.out).mono ?_); rintro e w11 ⟨v1045, rfl, ho0, hb⟩; refine ⟨_, rfl, ?_⟩; have n0_ := Aside0.mk (Kd.R_lower ho0 (below_size (bB HB))); replace BK1042 := bbx hb BK1042; have n2_ := bsx hb HB; clear HB; have HO1046 := n0_; have HB := n2_; clear n0_ n2_; (try clear hb); (try clear hb2); (try clear hk); (try clear hi); (try clear ho0); obtain ⟨Ao12, co12, eo12⟩ := Kd.R_slice HO1046.out; subst eo12))
  go_loopg [10, 26] k (fun kq v10 v26 w' => ∃ (x10_1 : List ByteArray) (x26_1 : Int), v26 = .int .i64 x26_1 ∧ Aside0 (spec_LiveNext.l0 kq l1 x10_1 t1044 (t1044.length : Int) x26_1 = some (r1, r2)) ∧ Aside0 (kq ≤ k) ∧ Aside0 (Kd.R Kd.string 9 w' w.heap.size (fun k_ => some k_ ≠ ((.slice Ao12 t1044.length co12) : Value).ownBlock) v10 x10_1) ∧ Aside0 (Kd.R Kd.string 9 w' w.heap.size (fun k_ => some k_ ≠ (v10 : Value).ownBlock) (.slice Ao12 t1044.length co12) t1044) ∧ Aside0 (w'.heap[gb1042]? = some (.cells #[.int .i64 a0_0, .int .i64 a0_1] 28 (0, 0))) ∧ Aside0 (Below w.heap.size w w'))
  case atStart => exact ⟨(([] : List ByteArray)), (0), (by first | rfl | (simp; done) | (simp [*]; done)), H', ⟨Nat.le_refl _⟩, ⟨by first | exact Kd.R_nil _ _ _ _ _ | exact Kd.N_nil _ _ _ _ _ | exact Kd.V_nil _ _ _ _ _ | exact Kd.Q_nil _ _ _ _ _ | exact Kd.S_nil _ _ _ _ _⟩, ⟨by (with_reducible repeat (first | apply r_a | apply r_d | apply r_e)); exact Kd.R_mono HO1046.out (fun _ hk => (by simp [Value.ownBlock]))⟩, ⟨bK BK1042⟩, ⟨bB HB⟩⟩
  clear H'
  try clear c1
  try clear c5
  try clear hcz10_0
  try clear hcz10_1
  try clear hcz8_0
  try clear hcz8_1
  try clear hfz10_0
  try clear hfz10_1
  try clear hfz8_0
  try clear hfz8_1
  obtain ⟨x10_1, x26_1, rfl, HA, HK1, HO_10, HO_24, BK1042, HB⟩ := hrel
  rcases gk with _ | k1
  · exact absurd HA.out (by simp [spec_LiveNext.l0])
  have H := HA.out
  clear HA
  simp only [spec_LiveNext.l0] at H
  by_cases c13 : x26_1 < (t1044.length : Int)
  rotate_left
  · rw [if_neg c13] at H
    have c13b0 : decide (x26_1 < (t1044.length : Int)) = false := decide_eq_false c13
    clear c13
    simp only [Option.some.injEq, Prod.mk.injEq] at H
    obtain ⟨rfl, rfl⟩ := H
    go_wp2
    go_ret2
    exact ⟨_, by first | rfl | (simp [errW_none, errW_some] <;> rfl) | (simp [*, errW_none, errW_some] <;> rfl), by (with_reducible repeat (first | apply r_a | apply r_d | apply r_e)); exact Kd.R_mono HO_10.out (fun _ hk => trivial), bB HB⟩
  rw [if_pos c13] at H
  have c13b0 : decide (x26_1 < (t1044.length : Int)) = true := decide_eq_true c13
  clear c13
  by_cases c14 : 0 ≤ x26_1
  rotate_left
  · rw [if_neg c14] at H
    exact absurd H (by simp)
  rw [if_pos c14] at H
  have c14b0 : decide (0 ≤ x26_1) = true := decide_eq_true c14
  clear c14
  by_cases c15 : x26_1 < (t1044.length : Int)
  rotate_left
  · rw [if_neg c15] at H
    exact absurd H (by simp)
  rw [if_pos c15] at H
  have c15b0 : decide (x26_1 < (t1044.length : Int)) = true := decide_eq_true c15
  clear c15
  replace H := Option.bind_eq_some_iff.mp H
  obtain ⟨t1049, A160, H⟩ := H
  try dsimp only at H
  have A16 := Aside0.mk A160
  clear A160
  by_cases c17 : t1049 = true
  · subst c17
    rw [if_pos rfl] at H
    have H' := Aside0.mk H
    clear H
    have p1048 : 0 ≤ (x26_1 : Int) := of_decide_eq_true (by first | (with_reducible assumption) | assumption)
    have q1048 : x26_1 < (t1044.length : Int) := of_decide_eq_true (by first | (with_reducible assumption) | assumption)
    obtain ⟨ad1048, e1048, hx1048_0⟩ := Kd.at_string (Kd.R_reads' HO_24.out).2.2 x26_1 p1048 q1048
    cases e1048
    replace p1048 := eq_true p1048
    replace q1048 := eq_true q1048
    go_wp2_with (first | ((with_reducible refine gate_callee (f := 86) rfl ?_); refine goesL_ (some 32) rfl rfl Try.func86 (by kernel_rfl) rfl #[.slice A1 l1.length c1, .string (rdOf ByteArray.empty t1044 x26_1)] rfl (by (try simp only [m_1, m_2, m_3]); first | done | rfl | (simp only [m_4, m_5]; rfl)) ?_; (with_reducible refine (spec_l1HasS.calls k1 _ _ l1 (rdOf ByteArray.empty t1044 x26_1) true _ ?side1 ?side2 A16.out).mono ?_); (case side1 => repeat (first | exact (Kd.C_below HR1.out HB.out) | (with_reducible refine Kd.C_alloc ?_ _) | (with_reducible refine Kd.C_drewN ?_ _) | (with_reducible refine Kd.C_drew ?_))); (case side2 => exact HC1.out); rintro e w' ⟨rfl, ⟨nd, rfl⟩⟩; refine ⟨_, rfl, ?_⟩))
    go_roundg k1
    case measure => have := HK1.out; omega
    case rel => refine ⟨(x10_1), (wrap64 (x26_1 + 1)), (by first | rfl | (simp; done) | (simp [*]; done)), H', ⟨by have := HK1.out; omega⟩, ⟨?_⟩, ⟨?_⟩, ⟨?_⟩, ⟨bB HB⟩⟩ <;> (with_reducible repeat (first | refine g_d ?_ _ | refine g_e ?_ | refine g_a ?_ _ | apply r_a | apply r_d | apply r_e)) <;> first | exact BK1042.out | exact HO_10.out | exact HO_24.out
  replace c17 := Bool.eq_false_iff.mpr c17
  subst c17
  rw [if_neg (show ¬ (false = true) by decide)] at H
  by_cases c18 : x10_1.length < 8796093022208
  rotate_left
  · rw [if_neg c18] at H
    exact absurd H (by simp)
  rw [if_pos c18] at H
  have LMc18 := Aside0.mk c18
  clear c18
  obtain ⟨y1050, hy1050⟩ : ∃ y_ : List ByteArray, y_ = (x10_1 ++ [rdOf ByteArray.empty t1044 x26_1]) := ⟨_, rfl⟩
  replace H : (spec_LiveNext.l0 k1 l1 y1050 t1044 (t1044.length : Int) (wrap64 (x26_1 + 1))) = some (r1, r2) := by first | (rw [hy1050]; with_reducible exact H) | (have H2_ := (Option.bind_some _ _).symm.trans H; rw [hy1050]; with_reducible exact H2_) | (have H2_ := (Option.bind_some _ _).symm.trans H; with_reducible exact H2_) | with_reducible exact H | (rw [hy1050]; exact H) | exact H
  have Ny1050 := Aside0.mk hy1050
  clear hy1050
  have H' := Aside0.mk H
  clear H
  have p1048 : 0 ≤ (x26_1 : Int) := of_decide_eq_true (by first | (with_reducible assumption) | assumption)
  have q1048 : x26_1 < (t1044.length : Int) := of_decide_eq_true (by first | (with_reducible assumption) | assumption)
  obtain ⟨ad1048, e1048, hx1048_0⟩ := Kd.at_string (Kd.R_reads' HO_24.out).2.2 x26_1 p1048 q1048
  cases e1048
  replace p1048 := eq_true p1048
  replace q1048 := eq_true q1048
  go_wp2_with (first | ((with_reducible refine gate_callee (f := 86) rfl ?_); refine goesL_ (some 32) rfl rfl Try.func86 (by kernel_rfl) rfl #[.slice A1 l1.length c1, .string (rdOf ByteArray.empty t1044 x26_1)] rfl (by (try simp only [m_1, m_2, m_3]); first | done | rfl | (simp only [m_4, m_5]; rfl)) ?_; (with_reducible refine (spec_l1HasS.calls k1 _ _ l1 (rdOf ByteArray.empty t1044 x26_1) false _ ?side1 ?side2 A16.out).mono ?_); (case side1 => repeat (first | exact (Kd.C_below HR1.out HB.out) | (with_reducible refine Kd.C_alloc ?_ _) | (with_reducible refine Kd.C_drewN ?_ _) | (with_reducible refine Kd.C_drew ?_))); (case side2 => exact HC1.out); rintro e w' ⟨rfl, ⟨nd, rfl⟩⟩; refine ⟨_, rfl, ?_⟩) | ((with_reducible refine gate_builtin (b := .append) (xs := #[.tmp 34, .tmp 36]) rfl ?_); at_builtin; refine Kd.R_append Kd.string (w0 := w) w.heap.size rfl (.tmp 34) (.tmp 36) 24 9 (.string ⟨#[]⟩) 16 rfl Try.underlying24 info9 rfl (by decide) (by omega) u10 x10_1 (rdOf ByteArray.empty t1044 x26_1) [.string (rdOf ByteArray.empty t1044 x26_1)] (fun k_ => some k_ ≠ (.slice (some ad1048) t1044.length co12 : Value).ownBlock) (fun _ => False) rfl rfl ?aP (fun _ hk => hk.elim) ?aF ?aO ?aB ?aS ?aL ?_; (case aP => exact rfl); (case aB => exact (bB HB)); (case aF => exact (fun k_ hk => Kd.fresh' (Kd.R_lt (by (with_reducible repeat (first | apply r_a | apply r_d | apply r_e)); exact HO_24.out)) k_ hk)); (case aO => exact (by (with_reducible repeat (first | apply r_a | apply r_d | apply r_e)); exact HO_10.out)); (case aS => exact (below_size (bB HB))); (case aL => have := LMc18.out; omega); intro v1051 w19 ho hb hg hat; rw [← Ny1050.out] at ho; have n0_ := Aside0.mk (Kd.R_after (ok := (fun _ => True)) (by (with_reducible repeat (first | apply r_a | apply r_d | apply r_e)); exact Kd.R_mono HO_24.out (fun _ hk => ⟨trivial, hk⟩)) hg hat); have n1_ := Aside0.mk (blk_grown (g := gb1042) (o := .cells #[.int .i64 a0_0, .int .i64 a0_1] 28 (0, 0)) (bK BK1042) hg (Kd.R_ne HO_10.out BK1042.out (by decide))); have n2_ := Aside0.mk (hb); have n3_ := Aside0.mk (ho); clear HO_24; clear BK1042; clear HB; clear HO_10; have HO_24 := n0_; have BK1042 := n1_; have HB := n2_; have HO1052 := n3_; clear n0_ n1_ n2_ n3_; clear ho hb hg hat))
  go_roundg k1
  case measure => have := HK1.out; omega
  case rel => refine ⟨(y1050), (wrap64 (x26_1 + 1)), (by first | rfl | (simp; done) | (simp [*]; done)), H', ⟨by have := HK1.out; omega⟩, ⟨?_⟩, ⟨by (with_reducible repeat (first | apply r_a | apply r_d | apply r_e)); exact Kd.R_mono HO_24.out (fun _ hk => hk.2)⟩, ⟨?_⟩, ⟨bB HB⟩⟩ <;> (with_reducible repeat (first | refine g_d ?_ _ | refine g_e ?_ | refine g_a ?_ _ | apply r_a | apply r_d | apply r_e)) <;> first | exact BK1042.out | exact HO1052.out
/-! ### impl_LiveNext: function 44 (a text of our own) -/
def impl_LiveNext.f (k : Nat) (a0_0 : Int) (a0_1 : Int) (l1 : List ByteArray) (a2 : ByteArray) : Option (List ByteArray × Bool) := (impl_areLive.f k a0_0 a0_1 l1 [a2]).bind fun t => if t = true then ((impl_Lock_next.f k a0_0 a0_1 a2).bind fun ns => if 0 < ns.length then (if ns.length ≤ 1000000000 then (if l1.length ≤ 9223372036854775807 then some (ns.filter fun s => !Lib.containsS l1 s, true) else none) else none) else none) else some ([], false)
theorem impl_LiveNext.mono : ∀ a0 a1 a2 a3 k, LeO (impl_LiveNext.f k a0 a1 a2 a3) (impl_LiveNext.f (k + 1) a0 a1 a2 a3) := by
  intro a0 a1 a2 a3 k
  unfold impl_LiveNext.f
  repeat' first
      | (with_reducible exact impl_areLive.mono _ _ _ _ _)
      | (with_reducible exact impl_Lock_next.mono _ _ _ _)
      | (with_reducible exact LeO.refl _)
      | (with_reducible exact LeO.none _)
      | (with_reducible refine LeO.ite ?_ ?_)
      | (with_reducible refine LeO.bind ?_ (fun _ => ?_))
/-- A text as a list of bytes is among the dead codes. -/
def impl_LiveNext.p (l1 : List ByteArray) (x : List UInt8) : Bool := Lib.containsS l1 ⟨x.toArray⟩
set_option maxHeartbeats 8000000 in
set_option maxRecDepth 100000 in
/-- The closure: is a text among the dead codes. -/
theorem impl_LiveNext.pred (gd : Nat) (A1 : Option Addr) (c1 : Nat) (l1 : List ByteArray) (W : World) (hcell : W.cell? ⟨gd, 0, none⟩ = some (.slice A1 l1.length c1)) (hr : Kd.C Kd.string W A1 l1.length l1) (hl : l1.length ≤ 9223372036854775807) (x : List UInt8) :
    Go.Proofs.FnGives Try.prog 90 #[.pointer (some ⟨gd, 0, none⟩)] #[encStr x] (.bool (impl_LiveNext.p l1 x)) W := by
  have hcon := slices_Contains_string_string.same A1 c1 l1 ⟨x.toArray⟩ W hr hl
  have HCON := Aside0.mk hcon
  clear hcon hr
  obtain ⟨b, hbb⟩ : ∃ b, b = impl_LiveNext.p l1 x := ⟨_, rfl⟩
  rw [← hbb]
  replace hbb : b = Lib.containsS l1 ⟨x.toArray⟩ := hbb
  rw [← hbb] at HCON
  clear hbb
  show Calls Try.prog 90 #[.string ⟨x.toArray⟩, .pointer (some ⟨gd, 0, none⟩)] W fun e w' => e = .returned (.bool b) ∧ ∃ q, w' = W.drewN q
  go_enter Try.func90, Try.ntmps90
  go_wp2_with (go_at_call 91; (with_reducible refine HCON.out.mono ?_); rintro e w' ⟨rfl, rfl⟩)
  go_ret
  exact ⟨rfl, 0, rfl⟩
theorem impl_LiveNext.filt (l1 ns : List ByteArray) : (((ns.map fun s : ByteArray => s.data.toList).filter fun x => !impl_LiveNext.p l1 x).map encStr) = (ns.filter fun s => !Lib.containsS l1 s).map Value.string := by
  rw [List.filter_map, List.map_map]
  have e : (fun x => !impl_LiveNext.p l1 x) ∘ (fun s : ByteArray => s.data.toList) = fun s => !Lib.containsS l1 s := by
    funext s
    show (!Lib.containsS l1 ⟨s.data.toList.toArray⟩) = _
    rw [Array.toArray_toList]
  rw [e]
  refine List.map_congr_left fun s _ => ?_
  show Value.string ⟨s.data.toList.toArray⟩ = Value.string s
  rw [Array.toArray_toList]
set_option maxHeartbeats 1000000 in
/-- slices.DeleteFunc at a row of the call's own. -/
theorem impl_LiveNext.del (gd : Nat) (A1 : Option Addr) (c1 : Nat) (l1 : List ByteArray) (w0 w : World) (hsz0 : w0.heap.size ≤ w.heap.size) (BD : w.heap[gd]? = some (.cells #[.slice A1 l1.length c1] 24 (0, 0))) (hr : Kd.C Kd.string w A1 l1.length l1) (hl : l1.length ≤ 9223372036854775807) (v : Value) (ns : List ByteArray) (hn0 : 0 < ns.length) (hn : ns.length ≤ 1000000000) (ho : Kd.R Kd.string 9 w w0.heap.size (fun _ => True) v ns) (hB : Below w0.heap.size w0 w) (hr0 : Kd.C Kd.string w0 A1 l1.length l1) :
    ∃ (g cap : Nat), v = .slice (some ⟨g, 0, none⟩) ns.length cap ∧
      Calls Try.prog 88 #[.slice (some ⟨g, 0, none⟩) ns.length cap, .func (.func 90) #[] #[.pointer (some ⟨gd, 0, none⟩)]] w (fun e w' => e = .returned (.slice (some ⟨g, 0, none⟩) (ns.filter fun s => !Lib.containsS l1 s).length cap) ∧ ∃ q, w' = Go.Sort.grow (Go.Sort.putRow encStr (Go.Sort.ahead w q) g 0 (((ns.map fun s : ByteArray => s.data.toList).filter fun x => !impl_LiveNext.p l1 x) ++ List.replicate (ns.length - (ns.filter fun s => !Lib.containsS l1 s).length) []).toArray) #[]) ∧
      ∀ q, Kd.R Kd.string 9 (Go.Sort.grow (Go.Sort.putRow encStr (Go.Sort.ahead w q) g 0 (((ns.map fun s : ByteArray => s.data.toList).filter fun x => !impl_LiveNext.p l1 x) ++ List.replicate (ns.length - (ns.filter fun s => !Lib.containsS l1 s).length) []).toArray) #[]) w0.heap.size (fun _ => True) (.slice (some ⟨g, 0, none⟩) (ns.filter fun s => !Lib.containsS l1 s).length cap) (ns.filter fun s => !Lib.containsS l1 s) ∧
        Below w0.heap.size w0 (Go.Sort.grow (Go.Sort.putRow encStr (Go.Sort.ahead w q) g 0 (((ns.map fun s : ByteArray => s.data.toList).filter fun x => !impl_LiveNext.p l1 x) ++ List.replicate (ns.length - (ns.filter fun s => !Lib.containsS l1 s).length) []).toArray) #[]) := by
  have own := Kd.own_of_R ho
  have hne := Kd.R_ne ho BD (by decide)
  rcases own.2 with ⟨hu, h0⟩ | ⟨g, cap, cur, hu, hle, hb, hlen, hmax, hsz, htake⟩
  · omega
  subst hu
  have hgd : gd ≠ g := fun e => hne (by rw [e]; rfl)
  have flen : ((ns.map fun s : ByteArray => s.data.toList).filter fun x => !impl_LiveNext.p l1 x).length = (ns.filter fun s => !Lib.containsS l1 s).length := by
    have := congrArg List.length (impl_LiveNext.filt l1 ns)
    rwa [List.length_map, List.length_map] at this
  have fle : (ns.filter fun s => !Lib.containsS l1 s).length ≤ ns.length := List.length_filter_le _ _
  have eg : ∀ args w, (callFunc 90 args).run Try.prog w = .ok (.enter 90 args) w := enters_of Try.func90 (by kernel_rfl) rfl
  have hH : Go.Sort.Holds encStr w g 0 (ns.map fun s : ByteArray => s.data.toList).toArray := holds_of_block hb (by rw [List.length_map, ← impl_sorted.enc]; rw [Nat.mul_one] at htake; exact htake)
  have glt : g < w.heap.size := (Array.getElem?_eq_some_iff.1 hb).1
  refine ⟨g, cap, rfl, ?_, ?_⟩
  · have hz : ∀ w, (zeroValue 9).run Try.prog w = .ok (encStr []) w := fun w => Try.zeroValue9 w
    have c := Try.slices_DeleteFunc (α := List UInt8) encStr (fun _ => rfl) (impl_LiveNext.p l1) 90 #[.pointer (some ⟨gd, 0, none⟩)] eg [] hz g 0 cap (ns.map fun s : ByteArray => s.data.toList).toArray w
      (fun W x hbW => impl_LiveNext.pred gd A1 c1 l1 W ((hbW.cell (p := ⟨gd, 0, none⟩) (blk_lt BD)).trans ((blk_cell BD 0).trans rfl)) (Kd.C_below hr hbW) hl x)
      (fun n os dk x hdk => by
        have hgr : w.grownBy (Go.Sort.grow (Go.Sort.putRow encStr (Go.Sort.ahead w n) g 0 dk) os) (some g) := grownBy_sorted _
        exact impl_LiveNext.pred gd A1 c1 l1 _ ((blk_cell (blk_grown BD hgr (fun e => hgd (by injection e))) 0).trans rfl) (Kd.C_below hr0 (hB.grown hgr hsz0 (fun k e => by cases e; exact hle))) hl x)
      hH (by simp; omega) (by simp; omega)
    simp only [List.size_toArray, List.length_map, List.toList_toArray, flen] at c
    refine c.mono ?_
    rintro e w' ⟨rfl, q, rfl⟩
    exact ⟨rfl, q, by simp⟩
  · intro q
    have g1 : w.grownBy (Go.Sort.grow (Go.Sort.putRow encStr (Go.Sort.ahead w q) g 0 (((ns.map fun s : ByteArray => s.data.toList).filter fun x => !impl_LiveNext.p l1 x) ++ List.replicate (ns.length - (ns.filter fun s => !Lib.containsS l1 s).length) []).toArray) #[]) (some g) := grownBy_sorted _
    refine ⟨?_, hB.grown g1 hsz0 (fun k e => by cases e; exact hle)⟩
    refine Kd.R_of_own (enc := Value.string) ?_ (fun _ _ => trivial)
    have ee : encs Value.string (ns.filter fun s => !Lib.containsS l1 s) = ((ns.map fun s : ByteArray => s.data.toList).filter fun x => !impl_LiveNext.p l1 x).map encStr := (impl_LiveNext.filt l1 ns).symm
    rw [ee, ← flen]
    refine ⟨by rw [List.length_map, Nat.mul_one], .inr ⟨g, cap, _, rfl, hle, heap_sorted _ hb, by rw [flen]; omega, hmax, by simp [Go.Sort.putCells, hsz], ?_⟩⟩
    exact impl_sorted.take_less (by rw [List.length_replicate, flen]; simp only [Nat.mul_one] at hsz; omega) rfl
set_option maxHeartbeats 8000000 in
set_option maxRecDepth 100000 in
theorem impl_LiveNext.calls (k : Nat) (a0_0 : Int) (a0_1 : Int) (A1 : Option Addr) (c1 : Nat) (l1 : List ByteArray) (a2 : ByteArray) (r1 : List ByteArray) (r2 : Bool) (w : World) (hr1 : Kd.C Kd.string w A1 l1.length l1) (hc1 : l1.length ≤ c1) (h : impl_LiveNext.f k a0_0 a0_1 l1 a2 = some (r1, r2)) :
    Calls Try.prog 44 #[.agg #[.int .i64 a0_0, .int .i64 a0_1], .slice A1 l1.length c1, .string a2] w fun e w' => ∃ v0_ : Value, e = .returned (.tuple #[v0_, .bool r2]) ∧ Kd.R Kd.string 9 w' w.heap.size (fun _ => True) v0_ r1 ∧ Below w.heap.size w w' := by
  have hmf : ∀ (fn : Fn) (first cap : Array Value) (w : World), (Instr.makeFunc fn first cap).run Try.prog w = .ok (.func fn first cap) w := fun _ _ _ _ => rfl
  have hu26 := Try.underlying28
  have HR1 := Aside0.mk hr1
  have HC1 := Aside0.mk hc1
  clear hr1 hc1
  have HB := Aside0.mk (Below.refl w.heap.size w)
  unfold impl_LiveNext.f at h
  obtain ⟨t, A3, h⟩ := Option.bind_eq_some_iff.mp h
  replace A3 := Aside0.mk A3
  cases t with
  | false =>
    have h_ : (([] : List ByteArray), false) = (r1, r2) := Option.some.inj h
    simp only [Prod.mk.injEq] at h_
    obtain ⟨rfl, rfl⟩ := h_
    clear h
    go_enter Try.func44, Try.ntmps44
    go_wp2_with (first | ((with_reducible refine gate_dst (N := 3) rfl ?_); refine box_event ?hg (N := 3) ?hd (cs := #[.int .i64 a0_0, .int .i64 a0_1]) (t := 28) ?hr ?_; (case hd => rfl); (case hg => rfl); (case hr => first | (go_simp; done) | (go_simp; rfl)); intro gb hg w5 hbox hb; replace HB := Aside0.mk (below_step HB.out hb); have BK := Aside0.mk hbox; clear hb hbox hg) | ((with_reducible refine gate_dst (N := 4) rfl ?_); refine box_event ?hg (N := 4) ?hd (cs := #[.slice A1 l1.length c1]) (t := 24) ?hr ?_; (case hd => rfl); (case hg => rfl); (case hr => first | (go_simp; done) | (go_simp; rfl)); intro gd hg w6 hbox hb; have GD := Aside0.mk (show w.heap.size ≤ gd from by rw [hg]; exact HB.out.size); replace HB := Aside0.mk (below_step HB.out hb); replace BK := Aside0.mk (blk_below BK.out hb); have BD := Aside0.mk hbox; clear hb hbox hg; have hl0 : w6.cell? ⟨gb, 0, none⟩ = some (.int .i64 a0_0) := (blk_cell BK.out 0).trans rfl; have hl1 : w6.cell? ⟨gb, 1, none⟩ = some (.int .i64 a0_1) := (blk_cell BK.out 1).trans rfl; have hd0 : w6.cell? ⟨gd, 0, none⟩ = some (.slice A1 l1.length c1) := (blk_cell BD.out 0).trans rfl) | ((with_reducible refine gate_dst (N := 11) rfl ?_); refine Kd.R_lit Kd.string _ 9 ?hg (N := 11) ?hd (xs := ([a2] : List ByteArray)) (inner := [.string a2]) (ok := fun _ => True) (okp := fun _ => True) ?hr ?hp (fun _ hk => hk) trivial (Below.refl _ _) (Nat.le_refl _) (by simp) ?_; (case hd => rfl); (case hg => rfl); (case hr => first | (go_simp; done) | (go_simp; rfl)); (case hp => exact (Reps.one (show Kd.M Kd.string _ _ _ a2 [.string a2] from rfl) (Reps.none _ _))); intro v11 w7 ho hb hg_ hnew_; clear hg_ hnew_ hl0 hl1 hd0; replace HB := Aside0.mk (below_step HB.out hb); replace BK := Aside0.mk (blk_below BK.out hb); replace BD := Aside0.mk (blk_below BD.out hb); obtain ⟨A11, c11, e11⟩ := Kd.R_slice ho; subst e11; have HL := Aside0.mk (Kd.R_reads' ho).2; clear hb ho; have hl0 : w7.cell? ⟨gb, 0, none⟩ = some (.int .i64 a0_0) := (blk_cell BK.out 0).trans rfl; have hl1 : w7.cell? ⟨gb, 1, none⟩ = some (.int .i64 a0_1) := (blk_cell BK.out 1).trans rfl; have hd0 : w7.cell? ⟨gd, 0, none⟩ = some (.slice A1 l1.length c1) := (blk_cell BD.out 0).trans rfl) | ((with_reducible refine gate_callee (f := 87) rfl ?_); refine goesL_ (some 12) rfl rfl Try.func87 (by kernel_rfl) rfl #[.agg #[.int .i64 a0_0, .int .i64 a0_1], .slice A1 l1.length c1, .slice A11 [a2].length c11] rfl (by (try simp only [List.map_toArray, List.map_cons, List.map_nil]); first | done | rfl) ?_; (with_reducible refine (impl_areLive.calls k a0_0 a0_1 A1 c1 l1 A11 c11 [a2] false _ ?side1 ?side2 ?side3 ?side4 A3.out).mono ?_); (case side1 => exact Kd.C_below HR1.out HB.out); (case side2 => exact HC1.out); (case side3 => exact HL.out.2); (case side4 => exact HL.out.1); rintro e w8 ⟨rfl, hb⟩; refine ⟨_, rfl, ?_⟩; clear hl0 hl1 hd0; replace HB := Aside0.mk (below_step HB.out hb); replace BK := Aside0.mk (blk_below BK.out hb); replace BD := Aside0.mk (blk_below BD.out hb); clear hb; have hl0 : w8.cell? ⟨gb, 0, none⟩ = some (.int .i64 a0_0) := (blk_cell BK.out 0).trans rfl; have hl1 : w8.cell? ⟨gb, 1, none⟩ = some (.int .i64 a0_1) := (blk_cell BK.out 1).trans rfl; have hd0 : w8.cell? ⟨gd, 0, none⟩ = some (.slice A1 l1.length c1) := (blk_cell BD.out 0).trans rfl))
    go_ret2
    exact ⟨_, rfl, Kd.R_nil _ _ _ _ _, HB.out⟩
  | true =>
    replace h : ((impl_Lock_next.f k a0_0 a0_1 a2).bind fun ns => if 0 < ns.length then (if ns.length ≤ 1000000000 then (if l1.length ≤ 9223372036854775807 then some (ns.filter fun s => !Lib.containsS l1 s, true) else none) else none) else none) = some (r1, r2) := h
    obtain ⟨ns, A4, h⟩ := Option.bind_eq_some_iff.mp h
    replace A4 := Aside0.mk A4
    by_cases q0 : 0 < ns.length
    rotate_left
    · rw [if_neg q0] at h; exact absurd h (by simp)
    rw [if_pos q0] at h
    by_cases q1 : ns.length ≤ 1000000000
    rotate_left
    · rw [if_neg q1] at h; exact absurd h (by simp)
    rw [if_pos q1] at h
    by_cases q2 : l1.length ≤ 9223372036854775807
    rotate_left
    · rw [if_neg q2] at h; exact absurd h (by simp)
    rw [if_pos q2] at h
    replace h := Option.some.inj h
    simp only [Prod.mk.injEq] at h
    obtain ⟨rfl, rfl⟩ := h
    have LM0 := Aside0.mk q0
    have LM2 := Aside0.mk q1
    have LM1 := Aside0.mk q2
    clear q0 q1 q2
    go_enter Try.func44, Try.ntmps44
    go_wp2_with (first | ((with_reducible refine gate_dst (N := 3) rfl ?_); refine box_event ?hg (N := 3) ?hd (cs := #[.int .i64 a0_0, .int .i64 a0_1]) (t := 28) ?hr ?_; (case hd => rfl); (case hg => rfl); (case hr => first | (go_simp; done) | (go_simp; rfl)); intro gb hg w5 hbox hb; replace HB := Aside0.mk (below_step HB.out hb); have BK := Aside0.mk hbox; clear hb hbox hg) | ((with_reducible refine gate_dst (N := 4) rfl ?_); refine box_event ?hg (N := 4) ?hd (cs := #[.slice A1 l1.length c1]) (t := 24) ?hr ?_; (case hd => rfl); (case hg => rfl); (case hr => first | (go_simp; done) | (go_simp; rfl)); intro gd hg w6 hbox hb; have GD := Aside0.mk (show w.heap.size ≤ gd from by rw [hg]; exact HB.out.size); replace HB := Aside0.mk (below_step HB.out hb); replace BK := Aside0.mk (blk_below BK.out hb); have BD := Aside0.mk hbox; clear hb hbox hg; have hl0 : w6.cell? ⟨gb, 0, none⟩ = some (.int .i64 a0_0) := (blk_cell BK.out 0).trans rfl; have hl1 : w6.cell? ⟨gb, 1, none⟩ = some (.int .i64 a0_1) := (blk_cell BK.out 1).trans rfl; have hd0 : w6.cell? ⟨gd, 0, none⟩ = some (.slice A1 l1.length c1) := (blk_cell BD.out 0).trans rfl) | ((with_reducible refine gate_dst (N := 11) rfl ?_); refine Kd.R_lit Kd.string _ 9 ?hg (N := 11) ?hd (xs := ([a2] : List ByteArray)) (inner := [.string a2]) (ok := fun _ => True) (okp := fun _ => True) ?hr ?hp (fun _ hk => hk) trivial (Below.refl _ _) (Nat.le_refl _) (by simp) ?_; (case hd => rfl); (case hg => rfl); (case hr => first | (go_simp; done) | (go_simp; rfl)); (case hp => exact (Reps.one (show Kd.M Kd.string _ _ _ a2 [.string a2] from rfl) (Reps.none _ _))); intro v11 w7 ho hb hg_ hnew_; clear hg_ hnew_ hl0 hl1 hd0; replace HB := Aside0.mk (below_step HB.out hb); replace BK := Aside0.mk (blk_below BK.out hb); replace BD := Aside0.mk (blk_below BD.out hb); obtain ⟨A11, c11, e11⟩ := Kd.R_slice ho; subst e11; have HL := Aside0.mk (Kd.R_reads' ho).2; clear hb ho; have hl0 : w7.cell? ⟨gb, 0, none⟩ = some (.int .i64 a0_0) := (blk_cell BK.out 0).trans rfl; have hl1 : w7.cell? ⟨gb, 1, none⟩ = some (.int .i64 a0_1) := (blk_cell BK.out 1).trans rfl; have hd0 : w7.cell? ⟨gd, 0, none⟩ = some (.slice A1 l1.length c1) := (blk_cell BD.out 0).trans rfl) | ((with_reducible refine gate_callee (f := 87) rfl ?_); refine goesL_ (some 12) rfl rfl Try.func87 (by kernel_rfl) rfl #[.agg #[.int .i64 a0_0, .int .i64 a0_1], .slice A1 l1.length c1, .slice A11 [a2].length c11] rfl (by (try simp only [List.map_toArray, List.map_cons, List.map_nil]); first | done | rfl) ?_; (with_reducible refine (impl_areLive.calls k a0_0 a0_1 A1 c1 l1 A11 c11 [a2] true _ ?side1 ?side2 ?side3 ?side4 A3.out).mono ?_); (case side1 => exact Kd.C_below HR1.out HB.out); (case side2 => exact HC1.out); (case side3 => exact HL.out.2); (case side4 => exact HL.out.1); rintro e w8 ⟨rfl, hb⟩; refine ⟨_, rfl, ?_⟩; clear hl0 hl1 hd0; replace HB := Aside0.mk (below_step HB.out hb); replace BK := Aside0.mk (blk_below BK.out hb); replace BD := Aside0.mk (blk_below BD.out hb); clear hb; have hl0 : w8.cell? ⟨gb, 0, none⟩ = some (.int .i64 a0_0) := (blk_cell BK.out 0).trans rfl; have hl1 : w8.cell? ⟨gb, 1, none⟩ = some (.int .i64 a0_1) := (blk_cell BK.out 1).trans rfl; have hd0 : w8.cell? ⟨gd, 0, none⟩ = some (.slice A1 l1.length c1) := (blk_cell BD.out 0).trans rfl) | ((with_reducible refine gate_callee (f := 89) rfl ?_); refine goesL_ (some 16) rfl rfl Try.func89 (by kernel_rfl) rfl #[.agg #[.int .i64 a0_0, .int .i64 a0_1], .string a2] rfl (by (try simp only [List.map_toArray, List.map_cons, List.map_nil]); first | done | rfl) ?_; (with_reducible refine (impl_Lock_next.calls k a0_0 a0_1 a2 ns _ A4.out).mono ?_); rintro e w9 ⟨v16, rfl, ho, hb⟩; have h_ := impl_LiveNext.del gd A1 c1 l1 w w9 (show w.heap.size ≤ w9.heap.size from Nat.le_trans HB.out.size hb.size) (blk_below BD.out hb) (Kd.C_below HR1.out (below_step HB.out hb)) LM1.out v16 ns LM0.out LM2.out (Kd.R_lower ho HB.out.size) (below_step HB.out hb) HR1.out; obtain ⟨g16, c16, e16, hdel, hfin⟩ := h_; subst e16; have HDEL := Aside0.mk hdel; have HFIN := Aside0.mk hfin; clear hdel hfin; refine ⟨_, rfl, ?_⟩; clear hl0 hl1 hd0; replace HB := Aside0.mk (below_step HB.out hb); replace BK := Aside0.mk (blk_below BK.out hb); replace BD := Aside0.mk (blk_below BD.out hb); clear hb ho) | (go_at_call 88; (with_reducible refine HDEL.out.mono ?_); rintro e w10 ⟨rfl, q, rfl⟩))
    go_ret2
    have fin := HFIN.out q
    exact ⟨_, rfl, fin.1, fin.2⟩


/-! ### laws_FnExactLiveNext: function 11 -/
mutual
def laws_FnExactLiveNext.j0 : Nat → List ByteArray → ByteArray → List ByteArray → Bool → List ByteArray → List ByteArray → Bool → Bool → Int → Int → Option (Bool)
  | 0, _, _, _, _, _, _, _, _, _, _ => none
  | k + 1, x1, x2, x8, x9, x10, x11, x12, x53, x1059000, x1059001 => if x53 = true then (some false) else ((laws_toStringS.f k x1).bind fun t1079 => ((laws_eqStringS.f k x10 t1079).bind fun t1082 => (if t1082 = true then ((laws_markStringS.f k x10 1).bind fun bt1083 => (if bt1083.1 < 0 then (laws_FnExactLiveNext.j1 k x1 x2 x8 x9 x11 true x1059000 x1059001) else ((laws_eqStringS.f k x11 x8).bind fun t1085 => (if t1085 = true then (laws_FnExactLiveNext.j1 k x1 x2 x8 x9 x11 (x12 != x9) x1059000 x1059001) else (laws_FnExactLiveNext.j1 k x1 x2 x8 x9 x11 true x1059000 x1059001))))) else (some false))))
def laws_FnExactLiveNext.j1 : Nat → List ByteArray → ByteArray → List ByteArray → Bool → List ByteArray → Bool → Int → Int → Option (Bool)
  | 0, _, _, _, _, _, _, _, _ => none
  | k + 1, x1, x2, x8, x9, x11, x74, x1059000, x1059001 => if x74 = true then (some false) else ((laws_markStringS.f k x11 1).bind fun bt1086 => ((laws_heldStringS.f k bt1086.2 1).bind fun t1088 => (if t1088 < 0 then (some false) else (if t1088 = bt1086.1 then ((laws_toLock.f x1059000 x1059001).bind fun bt1089 => ((laws_toStringS.f k x1).bind fun t1091 => ((impl_LiveNext.f k bt1089.1 bt1089.2 t1091 x2).bind fun bt1094 => ((laws_eqStringS.f k bt1094.1 x8).bind fun t1098 => (if t1098 = true then (laws_FnExactLiveNext.j2 k bt1086.2 bt1086.1 (bt1094.2 != x9)) else (laws_FnExactLiveNext.j2 k bt1086.2 bt1086.1 true)))))) else (some false)))))
def laws_FnExactLiveNext.j2 : Nat → List ByteArray → Int → Bool → Option (Bool)
  | 0, _, _, _ => none
  | k + 1, x11, x14, x103 => if x103 = true then (some false) else ((laws_heldStringS.f k x11 1).bind fun t1099 => (if t1099 < 0 then (some false) else (if t1099 = x14 then (some true) else (some false))))
end
def laws_FnExactLiveNext.f (k : Nat) (a0_0 : Int) (a0_1 : Int) (l1 : List ByteArray) (a2 : ByteArray) : Option (Bool) := if (a2.size : Int) > 1048576 then (some true) else ((laws_szStringS.f k l1 1048576).bind fun t1059 => (if t1059 < 0 then (some true) else ((laws_toLock.f a0_0 a0_1).bind fun bt1060 => ((laws_toStringS.f k l1).bind fun t1062 => ((spec_LiveNext.f k bt1060.1 bt1060.2 t1062 a2).bind fun bt1065 => ((laws_toStringS.f k l1).bind fun t1069 => ((laws_toLock.f a0_0 a0_1).bind fun bt1072 => ((impl_LiveNext.f k bt1072.1 bt1072.2 t1069 a2).bind fun bt1074 => ((laws_eqStringS.f k bt1074.1 bt1065.1).bind fun t1078 => (if t1078 = true then (laws_FnExactLiveNext.j0 k l1 a2 bt1065.1 bt1065.2 t1069 bt1074.1 bt1074.2 (bt1074.2 != bt1065.2) a0_0 a0_1) else (laws_FnExactLiveNext.j0 k l1 a2 bt1065.1 bt1065.2 t1069 bt1074.1 bt1074.2 true a0_0 a0_1)))))))))))
theorem laws_FnExactLiveNext.mono_l : ∀ k, (∀ y0 y1 y2 y3 y4 y5 y6 y7 y8 y9, LeO (laws_FnExactLiveNext.j0 k y0 y1 y2 y3 y4 y5 y6 y7 y8 y9) (laws_FnExactLiveNext.j0 (k + 1) y0 y1 y2 y3 y4 y5 y6 y7 y8 y9)) ∧ (∀ y0 y1 y2 y3 y4 y5 y6 y7, LeO (laws_FnExactLiveNext.j1 k y0 y1 y2 y3 y4 y5 y6 y7) (laws_FnExactLiveNext.j1 (k + 1) y0 y1 y2 y3 y4 y5 y6 y7)) ∧ (∀ y0 y1 y2, LeO (laws_FnExactLiveNext.j2 k y0 y1 y2) (laws_FnExactLiveNext.j2 (k + 1) y0 y1 y2))
  | 0 => ⟨fun _ _ _ _ _ _ _ _ _ _ r h => by simp [laws_FnExactLiveNext.j0] at h, fun _ _ _ _ _ _ _ _ r h => by simp [laws_FnExactLiveNext.j1] at h, fun _ _ _ r h => by simp [laws_FnExactLiveNext.j2] at h⟩
  | k + 1 => by
    obtain ⟨ih0, ih1, ih2⟩ := laws_FnExactLiveNext.mono_l k
    refine ⟨?_, ?_, ?_⟩
    · intro y0 y1 y2 y3 y4 y5 y6 y7 y8 y9
      unfold laws_FnExactLiveNext.j0
      repeat' first
      | (with_reducible exact ih0 _ _ _ _ _ _ _ _ _ _)
      | (with_reducible exact ih1 _ _ _ _ _ _ _ _)
      | (with_reducible exact ih2 _ _ _)
      | (with_reducible exact impl_LiveNext.mono _ _ _ _ _)
      | (with_reducible exact laws_eqStringS.mono _ _ _)
      | (with_reducible exact laws_heldStringS.mono _ _ _)
      | (with_reducible exact laws_markStringS.mono _ _ _)
      | (with_reducible exact laws_szStringS.mono _ _ _)
      | (with_reducible exact laws_toStringS.mono _ _)
      | (with_reducible exact spec_LiveNext.mono _ _ _ _ _)
      | (with_reducible exact LeO.refl _)
      | (with_reducible exact LeO.none _)
      | (with_reducible refine LeO.ite ?_ ?_)
      | (with_reducible refine LeO.bind ?_ (fun _ => ?_))
      | exact ih0 _ _ _ _ _ _ _ _ _ _
      | exact ih1 _ _ _ _ _ _ _ _
      | exact ih2 _ _ _
      | exact impl_LiveNext.mono _ _ _ _ _
      | exact laws_eqStringS.mono _ _ _
      | exact laws_heldStringS.mono _ _ _
      | exact laws_markStringS.mono _ _ _
      | exact laws_szStringS.mono _ _ _
      | exact laws_toStringS.mono _ _
      | exact spec_LiveNext.mono _ _ _ _ _
      | exact LeO.none _
      | refine LeO.ite ?_ ?_
      | refine LeO.bind ?_ (fun _ => ?_)
    · intro y0 y1 y2 y3 y4 y5 y6 y7
      unfold laws_FnExactLiveNext.j1
      repeat' first
      | (with_reducible exact ih0 _ _ _ _ _ _ _ _ _ _)
      | (with_reducible exact ih1 _ _ _ _ _ _ _ _)
      | (with_reducible exact ih2 _ _ _)
      | (with_reducible exact impl_LiveNext.mono _ _ _ _ _)
      | (with_reducible exact laws_eqStringS.mono _ _ _)
      | (with_reducible exact laws_heldStringS.mono _ _ _)
      | (with_reducible exact laws_markStringS.mono _ _ _)
      | (with_reducible exact laws_szStringS.mono _ _ _)
      | (with_reducible exact laws_toStringS.mono _ _)
      | (with_reducible exact spec_LiveNext.mono _ _ _ _ _)
      | (with_reducible exact LeO.refl _)
      | (with_reducible exact LeO.none _)
      | (with_reducible refine LeO.ite ?_ ?_)
      | (with_reducible refine LeO.bind ?_ (fun _ => ?_))
      | exact ih0 _ _ _ _ _ _ _ _ _ _
      | exact ih1 _ _ _ _ _ _ _ _
      | exact ih2 _ _ _
      | exact impl_LiveNext.mono _ _ _ _ _
      | exact laws_eqStringS.mono _ _ _
      | exact laws_heldStringS.mono _ _ _
      | exact laws_markStringS.mono _ _ _
      | exact laws_szStringS.mono _ _ _
      | exact laws_toStringS.mono _ _
      | exact spec_LiveNext.mono _ _ _ _ _
      | exact LeO.none _
      | refine LeO.ite ?_ ?_
      | refine LeO.bind ?_ (fun _ => ?_)
    · intro y0 y1 y2
      unfold laws_FnExactLiveNext.j2
      repeat' first
      | (with_reducible exact ih0 _ _ _ _ _ _ _ _ _ _)
      | (with_reducible exact ih1 _ _ _ _ _ _ _ _)
      | (with_reducible exact ih2 _ _ _)
      | (with_reducible exact impl_LiveNext.mono _ _ _ _ _)
      | (with_reducible exact laws_eqStringS.mono _ _ _)
      | (with_reducible exact laws_heldStringS.mono _ _ _)
      | (with_reducible exact laws_markStringS.mono _ _ _)
      | (with_reducible exact laws_szStringS.mono _ _ _)
      | (with_reducible exact laws_toStringS.mono _ _)
      | (with_reducible exact spec_LiveNext.mono _ _ _ _ _)
      | (with_reducible exact LeO.refl _)
      | (with_reducible exact LeO.none _)
      | (with_reducible refine LeO.ite ?_ ?_)
      | (with_reducible refine LeO.bind ?_ (fun _ => ?_))
      | exact ih0 _ _ _ _ _ _ _ _ _ _
      | exact ih1 _ _ _ _ _ _ _ _
      | exact ih2 _ _ _
      | exact impl_LiveNext.mono _ _ _ _ _
      | exact laws_eqStringS.mono _ _ _
      | exact laws_heldStringS.mono _ _ _
      | exact laws_markStringS.mono _ _ _
      | exact laws_szStringS.mono _ _ _
      | exact laws_toStringS.mono _ _
      | exact spec_LiveNext.mono _ _ _ _ _
      | exact LeO.none _
      | refine LeO.ite ?_ ?_
      | refine LeO.bind ?_ (fun _ => ?_)
theorem laws_FnExactLiveNext.mono : ∀ a0 a1 a2 a3 k, LeO (laws_FnExactLiveNext.f k a0 a1 a2 a3) (laws_FnExactLiveNext.f (k + 1) a0 a1 a2 a3) := by
  intro a0 a1 a2 a3 k
  obtain ⟨ih0, ih1, ih2⟩ := laws_FnExactLiveNext.mono_l k
  unfold laws_FnExactLiveNext.f
  repeat' first
      | (with_reducible exact ih0 _ _ _ _ _ _ _ _ _ _)
      | (with_reducible exact ih1 _ _ _ _ _ _ _ _)
      | (with_reducible exact ih2 _ _ _)
      | (with_reducible exact impl_LiveNext.mono _ _ _ _ _)
      | (with_reducible exact laws_eqStringS.mono _ _ _)
      | (with_reducible exact laws_heldStringS.mono _ _ _)
      | (with_reducible exact laws_markStringS.mono _ _ _)
      | (with_reducible exact laws_szStringS.mono _ _ _)
      | (with_reducible exact laws_toStringS.mono _ _)
      | (with_reducible exact spec_LiveNext.mono _ _ _ _ _)
      | (with_reducible exact LeO.refl _)
      | (with_reducible exact LeO.none _)
      | (with_reducible refine LeO.ite ?_ ?_)
      | (with_reducible refine LeO.bind ?_ (fun _ => ?_))
      | exact ih0 _ _ _ _ _ _ _ _ _ _
      | exact ih1 _ _ _ _ _ _ _ _
      | exact ih2 _ _ _
      | exact impl_LiveNext.mono _ _ _ _ _
      | exact laws_eqStringS.mono _ _ _
      | exact laws_heldStringS.mono _ _ _
      | exact laws_markStringS.mono _ _ _
      | exact laws_szStringS.mono _ _ _
      | exact laws_toStringS.mono _ _
      | exact spec_LiveNext.mono _ _ _ _ _
      | exact LeO.none _
      | refine LeO.ite ?_ ?_
      | refine LeO.bind ?_ (fun _ => ?_)
set_option maxHeartbeats 8000000 in
set_option maxRecDepth 100000 in
theorem laws_FnExactLiveNext.calls (k : Nat) (a0_0 : Int) (a0_1 : Int) (A1 : Option Addr) (c1 : Nat) (l1 : List ByteArray) (a2 : ByteArray) (r : Bool) (w : World) (hr1 : Kd.C Kd.string w A1 l1.length l1) (hc1 : l1.length ≤ c1) (h : laws_FnExactLiveNext.f k a0_0 a0_1 l1 a2 = some r) (hr_ : r = true := by rfl) :
    Calls Try.prog 11 #[.agg #[.int .i64 a0_0, .int .i64 a0_1], .slice A1 l1.length c1, .string a2] w fun e w' => e = .returned (.bool r) ∧ Below w.heap.size w w' := by
  have HRT := Aside0.mk hr_
  clear hr_
  have hu23 := Try.underlying23
  have HR1 := Aside0.mk hr1
  have HC1 := Aside0.mk hc1
  clear hr1 hc1
  have HB := Aside0.mk (Below.refl w.heap.size w)
  have H : (if (a2.size : Int) > 1048576 then (some true) else ((laws_szStringS.f k l1 1048576).bind fun t1059 => (if t1059 < 0 then (some true) else ((laws_toLock.f a0_0 a0_1).bind fun bt1060 => ((laws_toStringS.f k l1).bind fun t1062 => ((spec_LiveNext.f k bt1060.1 bt1060.2 t1062 a2).bind fun bt1065 => ((laws_toStringS.f k l1).bind fun t1069 => ((laws_toLock.f a0_0 a0_1).bind fun bt1072 => ((impl_LiveNext.f k bt1072.1 bt1072.2 t1069 a2).bind fun bt1074 => ((laws_eqStringS.f k bt1074.1 bt1065.1).bind fun t1078 => (if t1078 = true then (laws_FnExactLiveNext.j0 k l1 a2 bt1065.1 bt1065.2 t1069 bt1074.1 bt1074.2 (bt1074.2 != bt1065.2) a0_0 a0_1) else (laws_FnExactLiveNext.j0 k l1 a2 bt1065.1 bt1065.2 t1069 bt1074.1 bt1074.2 true a0_0 a0_1)))))))))))) = some r := h
  clear h
  by_cases c4 : (a2.size : Int) > 1048576
  · rw [if_pos c4] at H
    have c4b0 : decide (1048576 < (a2.size : Int)) = true := decide_eq_true c4
    have c4b1 : decide (1048576 < a2.size) = true := decide_eq_true (by omega)
    clear c4
    obtain rfl := Option.some.inj H
    go_enter Try.func11, Try.ntmps11
    go_wp2_with (first | ((with_reducible refine gate_dst (N := 3) rfl ?_); refine box_event ?hg (N := 3) ?hd (cs := #[.int .i64 a0_0, .int .i64 a0_1]) (t := 23) ?hr ?_; (case hd => rfl); (case hg => rfl); (case hr => first | (go_simp; done) | (go_simp; rfl)); intro gb1058 hg w5 hbox hb; have n0_ := bsx hb HB; have n1_ := Aside0.mk (hbox); have n2_ := gwx hg HB; have n3_ := n2_; clear HB; have HB := n0_; have BK1058 := n1_; have GW1058 := n2_; have GE1058 := n3_; clear n0_ n1_ n2_ n3_; clear hb hbox hg))
    go_ret
    exact ⟨by first | rfl | (simp [errW_none, errW_some] <;> rfl) | (simp [*, errW_none, errW_some] <;> rfl), bB HB⟩
  rw [if_neg c4] at H
  have c4b0 : decide (1048576 < (a2.size : Int)) = false := decide_eq_false c4
  have c4b1 : decide (1048576 < a2.size) = false := decide_eq_false (by omega)
  clear c4
  replace H := Option.bind_eq_some_iff.mp H
  obtain ⟨t1059, A60, H⟩ := H
  try dsimp only at H
  have A6 := Aside0.mk A60
  clear A60
  by_cases c7 : t1059 < 0
  · rw [if_pos c7] at H
    have c7b0 : decide (t1059 < 0) = true := decide_eq_true c7
    clear c7
    obtain rfl := Option.some.inj H
    go_enter Try.func11, Try.ntmps11
    go_wp2_with (first | ((with_reducible refine gate_dst (N := 3) rfl ?_); refine box_event ?hg (N := 3) ?hd (cs := #[.int .i64 a0_0, .int .i64 a0_1]) (t := 23) ?hr ?_; (case hd => rfl); (case hg => rfl); (case hr => first | (go_simp; done) | (go_simp; rfl)); intro gb1058 hg w8 hbox hb; have n0_ := bsx hb HB; have n1_ := Aside0.mk (hbox); have n2_ := gwx hg HB; have n3_ := n2_; clear HB; have HB := n0_; have BK1058 := n1_; have GW1058 := n2_; have GE1058 := n3_; clear n0_ n1_ n2_ n3_; clear hb hbox hg) | ((with_reducible refine gate_callee (f := 14) rfl ?_); refine goesL_ (some 23) rfl rfl Try.func14 (by kernel_rfl) rfl #[.slice A1 l1.length c1, .int .i64 1048576] rfl (by (try simp only [m_1, m_2, m_3]); first | done | rfl | (simp only [m_4, m_5]; rfl)) ?_; (with_reducible refine (laws_szStringS.calls k _ _ l1 1048576 t1059 _ ?side1 ?side2 A6.out).mono ?_); (case side1 => repeat (first | exact (Kd.C_below HR1.out HB.out) | (with_reducible refine Kd.C_alloc ?_ _) | (with_reducible refine Kd.C_drewN ?_ _) | (with_reducible refine Kd.C_drew ?_))); (case side2 => exact HC1.out); rintro e w' ⟨rfl, ⟨nd, rfl⟩⟩; refine ⟨_, rfl, ?_⟩))
    go_ret
    exact ⟨by first | rfl | (simp [errW_none, errW_some] <;> rfl) | (simp [*, errW_none, errW_some] <;> rfl), bB HB⟩
  rw [if_neg c7] at H
  have c7b0 : decide (t1059 < 0) = false := decide_eq_false c7
  clear c7
  replace H := Option.bind_eq_some_iff.mp H
  obtain ⟨⟨t1060, t1061⟩, A90, H⟩ := H
  try dsimp only at H
  have A9 := Aside0.mk A90
  clear A90
  replace H := Option.bind_eq_some_iff.mp H
  obtain ⟨t1062, A100, H⟩ := H
  try dsimp only at H
  have A10 := Aside0.mk A100
  clear A100
  replace H := Option.bind_eq_some_iff.mp H
  obtain ⟨⟨t1065, t1068⟩, A110, H⟩ := H
  try dsimp only at H
  have A11 := Aside0.mk A110
  clear A110
  replace H := Option.bind_eq_some_iff.mp H
  obtain ⟨t1069, A120, H⟩ := H
  try dsimp only at H
  have A12 := Aside0.mk A120
  clear A120
  replace H := Option.bind_eq_some_iff.mp H
  obtain ⟨⟨t1072, t1073⟩, A130, H⟩ := H
  try dsimp only at H
  have A13 := Aside0.mk A130
  clear A130
  replace H := Option.bind_eq_some_iff.mp H
  obtain ⟨⟨t1074, t1077⟩, A140, H⟩ := H
  try dsimp only at H
  have A14 := Aside0.mk A140
  clear A140
  have HC15 := Aside0.mk H
  clear H
  go_enter Try.func11, Try.ntmps11
  go_upto_region 10 with (first | ((with_reducible refine gate_dst (N := 3) rfl ?_); refine box_event ?hg (N := 3) ?hd (cs := #[.int .i64 a0_0, .int .i64 a0_1]) (t := 23) ?hr ?_; (case hd => rfl); (case hg => rfl); (case hr => first | (go_simp; done) | (go_simp; rfl)); intro gb1058 hg w16 hbox hb; have n0_ := bsx hb HB; have n1_ := Aside0.mk (hbox); have n2_ := gwx hg HB; have n3_ := n2_; clear HB; have HB := n0_; have BK1058 := n1_; have GW1058 := n2_; have GE1058 := n3_; clear n0_ n1_ n2_ n3_; clear hb hbox hg) | ((with_reducible refine gate_callee (f := 14) rfl ?_); refine goesL_ (some 23) rfl rfl Try.func14 (by kernel_rfl) rfl #[.slice A1 l1.length c1, .int .i64 1048576] rfl (by (try simp only [m_1, m_2, m_3]); first | done | rfl | (simp only [m_4, m_5]; rfl)) ?_; (with_reducible refine (laws_szStringS.calls k _ _ l1 1048576 t1059 _ ?side1 ?side2 A6.out).mono ?_); (case side1 => repeat (first | exact (Kd.C_below HR1.out HB.out) | (with_reducible refine Kd.C_alloc ?_ _) | (with_reducible refine Kd.C_drewN ?_ _) | (with_reducible refine Kd.C_drew ?_))); (case side2 => exact HC1.out); rintro e w' ⟨rfl, ⟨nd, rfl⟩⟩; refine ⟨_, rfl, ?_⟩; have hcz17_0 := cz0 BK1058; have hcz17_1 := cz1 BK1058; have hfz17_0 := blk_frozen BK1058.out 0; have hfz17_1 := blk_frozen BK1058.out 1) | ((with_reducible refine gate_callee (f := 16) rfl ?_); refine goesL_ (some 28) rfl rfl Try.func16 (by kernel_rfl) rfl #[.agg #[.int .i64 a0_0, .int .i64 a0_1]] rfl (by (try simp only [m_1, m_2, m_3]); first | done | rfl | (simp only [m_4, m_5]; rfl)) ?_; (with_reducible refine (laws_toLock.calls a0_0 a0_1 t1060 t1061 _ A9.out).mono ?_); rintro e w18 ⟨rfl, hb⟩; refine ⟨_, rfl, ?_⟩; replace BK1058 := bbx hb BK1058; replace HB := bsx hb HB; skip; (try clear hb); (try clear hb2); (try clear hk); (try clear hi)) | ((with_reducible refine gate_callee (f := 17) rfl ?_); refine goesL_ (some 30) rfl rfl Try.func17 (by kernel_rfl) rfl #[.slice A1 l1.length c1] rfl (by (try simp only [m_1, m_2, m_3]); first | done | rfl | (simp only [m_4, m_5]; rfl)) ?_; (with_reducible refine (laws_toStringS.calls k _ _ l1 t1062 _ ?side1 ?side2 A10.out).mono ?_); (case side1 => repeat (first | exact (Kd.C_below HR1.out HB.out) | (with_reducible refine Kd.C_alloc ?_ _) | (with_reducible refine Kd.C_drewN ?_ _) | (with_reducible refine Kd.C_drew ?_))); (case side2 => exact HC1.out); rintro e w19 ⟨v1063, rfl, ho0, hb⟩; refine ⟨_, rfl, ?_⟩; have n0_ := Aside0.mk (Kd.R_lower ho0 (below_size (bB HB))); replace BK1058 := bbx hb BK1058; have n2_ := bsx hb HB; clear HB; have HO1064 := n0_; have HB := n2_; clear n0_ n2_; (try clear hb); (try clear hb2); (try clear hk); (try clear hi); (try clear ho0); obtain ⟨Ao20, co20, eo20⟩ := Kd.R_slice HO1064.out; subst eo20) | ((with_reducible refine gate_callee (f := 43) rfl ?_); refine goesL_ (some 32) rfl rfl Try.func43 (by kernel_rfl) rfl #[.agg #[.int .i64 t1060, .int .i64 t1061], .slice Ao20 t1062.length co20, .string a2] rfl (by (try simp only [m_1, m_2, m_3]); first | done | rfl | (simp only [m_4, m_5]; rfl)) ?_; (with_reducible refine (spec_LiveNext.calls k t1060 t1061 _ _ t1062 a2 t1065 t1068 _ ?side1 ?side2 A11.out).mono ?_); (case side1 => repeat (first | exact (Kd.R_reads' HO1064.out).2.2 | (with_reducible refine Kd.C_alloc ?_ _) | (with_reducible refine Kd.C_drewN ?_ _) | (with_reducible refine Kd.C_drew ?_))); (case side2 => exact (Kd.R_reads' HO1064.out).2.1); rintro e w21 ⟨v1066, rfl, ho0, hb⟩; refine ⟨_, rfl, ?_⟩; have n0_ := Aside0.mk (Kd.R_elder' (by (with_reducible repeat (first | apply r_a | apply r_d | apply r_e)); exact HO1064.out) (Kd.R_base ho0) hb); have n1_ := Aside0.mk (Kd.R_lower (Kd.R_new' ho0 (Kd.R_lt (by (with_reducible repeat (first | apply r_a | apply r_d | apply r_e)); exact HO1064.out))) (below_size (bB HB))); replace BK1058 := bbx hb BK1058; have n3_ := bsx hb HB; clear HO1064; clear HB; have HO1064 := n0_; have HO1067 := n1_; have HB := n3_; clear n0_ n1_ n3_; (try clear hb); (try clear hb2); (try clear hk); (try clear hi); (try clear ho0)) | ((with_reducible refine gate_callee (f := 17) rfl ?_); refine goesL_ (some 36) rfl rfl Try.func17 (by kernel_rfl) rfl #[.slice A1 l1.length c1] rfl (by (try simp only [m_1, m_2, m_3]); first | done | rfl | (simp only [m_4, m_5]; rfl)) ?_; (with_reducible refine (laws_toStringS.calls k _ _ l1 t1069 _ ?side1 ?side2 A12.out).mono ?_); (case side1 => repeat (first | exact (Kd.C_below HR1.out HB.out) | (with_reducible refine Kd.C_alloc ?_ _) | (with_reducible refine Kd.C_drewN ?_ _) | (with_reducible refine Kd.C_drew ?_))); (case side2 => exact HC1.out); rintro e w22 ⟨v1070, rfl, ho0, hb⟩; refine ⟨_, rfl, ?_⟩; have n0_ := Aside0.mk (Kd.R_elder' (by (with_reducible repeat (first | apply r_a | apply r_d | apply r_e)); exact HO1064.out) (Kd.R_base ho0) hb); have n1_ := Aside0.mk (Kd.R_elder' (by (with_reducible repeat (first | apply r_a | apply r_d | apply r_e)); exact HO1067.out) (Kd.R_base ho0) hb); have n2_ := Aside0.mk (Kd.R_lower (Kd.R_new' (Kd.R_new' ho0 (Kd.R_lt (by (with_reducible repeat (first | apply r_a | apply r_d | apply r_e)); exact HO1064.out))) (Kd.R_lt (by (with_reducible repeat (first | apply r_a | apply r_d | apply r_e)); exact HO1067.out))) (below_size (bB HB))); replace BK1058 := bbx hb BK1058; have n4_ := bsx hb HB; clear HO1064; clear HO1067; clear HB; have HO1064 := n0_; have HO1067 := n1_; have HO1071 := n2_; have HB := n4_; clear n0_ n1_ n2_ n4_; (try clear hb); (try clear hb2); (try clear hk); (try clear hi); (try clear ho0); have hcz23_0 := cz0 BK1058; have hcz23_1 := cz1 BK1058; have hfz23_0 := blk_frozen BK1058.out 0; have hfz23_1 := blk_frozen BK1058.out 1) | ((with_reducible refine gate_callee (f := 16) rfl ?_); refine goesL_ (some 39) rfl rfl Try.func16 (by kernel_rfl) rfl #[.agg #[.int .i64 a0_0, .int .i64 a0_1]] rfl (by (try simp only [m_1, m_2, m_3]); first | done | rfl | (simp only [m_4, m_5]; rfl)) ?_; (with_reducible refine (laws_toLock.calls a0_0 a0_1 t1072 t1073 _ A13.out).mono ?_); rintro e w24 ⟨rfl, hb⟩; refine ⟨_, rfl, ?_⟩; have n0_ := Aside0.mk (Kd.R_below (by (with_reducible repeat (first | apply r_a | apply r_d | apply r_e)); exact HO1064.out) hb); have n1_ := Aside0.mk (Kd.R_below (by (with_reducible repeat (first | apply r_a | apply r_d | apply r_e)); exact HO1067.out) hb); have n2_ := Aside0.mk (Kd.R_below (by (with_reducible repeat (first | apply r_a | apply r_d | apply r_e)); exact HO1071.out) hb); replace BK1058 := bbx hb BK1058; replace HB := bsx hb HB; clear HO1064; clear HO1067; clear HO1071; have HO1064 := n0_; have HO1067 := n1_; have HO1071 := n2_; clear n0_ n1_ n2_; (try clear hb); (try clear hb2); (try clear hk); (try clear hi); obtain ⟨Ao25, co25, eo25⟩ := Kd.R_slice HO1071.out; subst eo25) | ((with_reducible refine gate_callee (f := 44) rfl ?_); refine goesL_ (some 42) rfl rfl Try.func44 (by kernel_rfl) rfl #[.agg #[.int .i64 t1072, .int .i64 t1073], .slice Ao25 t1069.length co25, .string a2] rfl (by (try simp only [m_1, m_2, m_3]); first | done | rfl | (simp only [m_4, m_5]; rfl)) ?_; (with_reducible refine (impl_LiveNext.calls k t1072 t1073 _ _ t1069 a2 t1074 t1077 _ ?side1 ?side2 A14.out).mono ?_); (case side1 => repeat (first | exact (Kd.R_reads' HO1071.out).2.2 | (with_reducible refine Kd.C_alloc ?_ _) | (with_reducible refine Kd.C_drewN ?_ _) | (with_reducible refine Kd.C_drew ?_))); (case side2 => exact (Kd.R_reads' HO1071.out).2.1); rintro e w26 ⟨v1075, rfl, ho0, hb⟩; refine ⟨_, rfl, ?_⟩; have n0_ := Aside0.mk (Kd.R_elder' (by (with_reducible repeat (first | apply r_a | apply r_d | apply r_e)); exact HO1064.out) (Kd.R_base ho0) hb); have n1_ := Aside0.mk (Kd.R_elder' (by (with_reducible repeat (first | apply r_a | apply r_d | apply r_e)); exact HO1067.out) (Kd.R_base ho0) hb); have n2_ := Aside0.mk (Kd.R_elder' (by (with_reducible repeat (first | apply r_a | apply r_d | apply r_e)); exact HO1071.out) (Kd.R_base ho0) hb); have n3_ := Aside0.mk (Kd.R_lower (Kd.R_new' (Kd.R_new' (Kd.R_new' ho0 (Kd.R_lt (by (with_reducible repeat (first | apply r_a | apply r_d | apply r_e)); exact HO1064.out))) (Kd.R_lt (by (with_reducible repeat (first | apply r_a | apply r_d | apply r_e)); exact HO1067.out))) (Kd.R_lt (by (with_reducible repeat (first | apply r_a | apply r_d | apply r_e)); exact HO1071.out))) (below_size (bB HB))); replace BK1058 := bbx hb BK1058; have n5_ := bsx hb HB; clear HO1064; clear HO1067; clear HO1071; clear HB; have HO1064 := n0_; have HO1067 := n1_; have HO1071 := n2_; have HO1076 := n3_; have HB := n5_; clear n0_ n1_ n2_ n3_ n5_; (try clear hb); (try clear hb2); (try clear hk); (try clear hi); (try clear ho0)))
  (try simp only [Act.put, s_1, s_2, s_3])
  go_cut [53] from 1 to 0 (fun v53 wc => ∃ (kq : Nat) (x53_14 : Bool), v53 = .bool x53_14 ∧ Aside0 (laws_FnExactLiveNext.j0 kq l1 a2 t1065 t1068 t1069 t1074 t1077 x53_14 a0_0 a0_1 = some r) ∧ Aside0 (kq ≤ k) ∧ Aside0 (Kd.R Kd.string 9 wc w.heap.size (fun k_ => some k_ ≠ ((.slice Ao25 t1069.length co25) : Value).ownBlock ∧ some k_ ≠ (v1075 : Value).ownBlock) v1066 t1065) ∧ Aside0 (Kd.R Kd.string 9 wc w.heap.size (fun k_ => some k_ ≠ (v1066 : Value).ownBlock ∧ some k_ ≠ (v1075 : Value).ownBlock) (.slice Ao25 t1069.length co25) t1069) ∧ Aside0 (Kd.R Kd.string 9 wc w.heap.size (fun k_ => some k_ ≠ (v1066 : Value).ownBlock ∧ some k_ ≠ ((.slice Ao25 t1069.length co25) : Value).ownBlock) v1075 t1074) ∧ Aside0 (wc.heap[gb1058]? = some (.cells #[.int .i64 a0_0, .int .i64 a0_1] 23 (0, 0))) ∧ Aside0 (Below w.heap.size w wc))
  case first => as_aux_lemma =>
    have H := HC15.out
    clear HC15
    replace H := Option.bind_eq_some_iff.mp H
    obtain ⟨t1078, A270, H⟩ := H
    try dsimp only at H
    have A27 := Aside0.mk A270
    clear A270
    by_cases c28 : t1078 = true
    rotate_left
    · replace c28 := Bool.eq_false_iff.mpr c28
      subst c28
      rw [if_neg (show ¬ (false = true) by decide)] at H
      rw [HRT.out] at H
      exact absurd H (by generalize k = q_; cases q_ <;> simp [laws_FnExactLiveNext.j0])
    subst c28
    rw [if_pos rfl] at H
    have H' := Aside0.mk H
    clear H
    obtain ⟨Ao29, co29, eo29⟩ := Kd.R_slice HO1076.out
    subst eo29
    obtain ⟨Ao30, co30, eo30⟩ := Kd.R_slice HO1067.out
    subst eo30
    go_wp2_with (first | ((with_reducible refine gate_callee (f := 19) rfl ?_); refine goesL_ (some 47) rfl rfl Try.func19 (by kernel_rfl) rfl #[.slice Ao29 t1074.length co29, .slice Ao30 t1065.length co30] rfl (by (try simp only [m_1, m_2, m_3]); first | done | rfl | (simp only [m_4, m_5]; rfl)) ?_; (with_reducible refine (laws_eqStringS.calls k _ _ t1074 _ _ t1065 true _ ?side1 ?side2 ?side3 ?side4 A27.out).mono ?_); (case side1 => repeat (first | exact (Kd.R_reads' HO1076.out).2.2 | (with_reducible refine Kd.C_alloc ?_ _) | (with_reducible refine Kd.C_drewN ?_ _) | (with_reducible refine Kd.C_drew ?_))); (case side2 => exact (Kd.R_reads' HO1076.out).2.1); (case side3 => repeat (first | exact (Kd.R_reads' HO1067.out).2.2 | (with_reducible refine Kd.C_alloc ?_ _) | (with_reducible refine Kd.C_drewN ?_ _) | (with_reducible refine Kd.C_drew ?_))); (case side4 => exact (Kd.R_reads' HO1067.out).2.1); rintro e w' ⟨rfl, ⟨nd, rfl⟩⟩; refine ⟨_, rfl, ?_⟩))
    go_meet
    case rel => exact ⟨_, ((t1077 != t1068)), (by first | rfl | (simp; done) | (simp [*]; done)), H', ⟨by first | omega | exact Nat.le_refl _⟩, ⟨by (with_reducible repeat (first | apply r_a | apply r_d | apply r_e)); exact Kd.R_mono HO1067.out (fun _ hk => ⟨hk.1.2, hk.2⟩)⟩, ⟨by (with_reducible repeat (first | apply r_a | apply r_d | apply r_e)); exact Kd.R_mono HO1071.out (fun _ hk => ⟨hk.1.2, hk.2⟩)⟩, ⟨by (with_reducible repeat (first | apply r_a | apply r_d | apply r_e)); exact Kd.R_mono HO1076.out (fun _ hk => ⟨hk.1.2, hk.2⟩)⟩, ⟨bK BK1058⟩, ⟨bB HB⟩⟩
  clear HC15
  try clear c1
  try clear c4
  try clear c4b0
  try clear c4b1
  try clear c7
  try clear c7b0
  try clear hcz17_0
  try clear hcz17_1
  try clear hcz23_0
  try clear hcz23_1
  try clear hfz17_0
  try clear hfz17_1
  try clear hfz23_0
  try clear hfz23_1
  obtain ⟨kq, x53_14, rfl, HA, HJ14, HO_8, HO_10, HO_11, BK1058, HB⟩ := hcut
  rcases kq with _ | kj14
  · exact absurd HA.out (by simp [laws_FnExactLiveNext.j0])
  have H := HA.out
  clear HA
  simp only [laws_FnExactLiveNext.j0] at H
  by_cases c31 : x53_14 = true
  · subst c31
    rw [if_pos rfl] at H
    rw [HRT.out] at H
    exact absurd H (by simp)
  replace c31 := Bool.eq_false_iff.mpr c31
  subst c31
  rw [if_neg (show ¬ (false = true) by decide)] at H
  replace H := Option.bind_eq_some_iff.mp H
  obtain ⟨t1079, A320, H⟩ := H
  try dsimp only at H
  have A32 := Aside0.mk A320
  clear A320
  replace H := Option.bind_eq_some_iff.mp H
  obtain ⟨t1082, A330, H⟩ := H
  try dsimp only at H
  have A33 := Aside0.mk A330
  clear A330
  by_cases c34 : t1082 = true
  rotate_left
  · replace c34 := Bool.eq_false_iff.mpr c34
    subst c34
    rw [if_neg (show ¬ (false = true) by decide)] at H
    rw [HRT.out] at H
    exact absurd H (by simp)

  subst c34
  rw [if_pos rfl] at H
  replace H := Option.bind_eq_some_iff.mp H
  obtain ⟨⟨t1083, t1084⟩, A350, H⟩ := H
  try dsimp only at H
  have A35 := Aside0.mk A350
  clear A350
  have HC36 := Aside0.mk H
  clear H
  go_upto_region 16 with (first | ((with_reducible refine gate_callee (f := 17) rfl ?_); refine goesL_ (some 56) rfl rfl Try.func17 (by kernel_rfl) rfl #[.slice A1 l1.length c1] rfl (by (try simp only [m_1, m_2, m_3]); first | done | rfl | (simp only [m_4, m_5]; rfl)) ?_; (with_reducible refine (laws_toStringS.calls kj14 _ _ l1 t1079 _ ?side1 ?side2 A32.out).mono ?_); (case side1 => repeat (first | exact (Kd.C_below HR1.out HB.out) | (with_reducible refine Kd.C_alloc ?_ _) | (with_reducible refine Kd.C_drewN ?_ _) | (with_reducible refine Kd.C_drew ?_))); (case side2 => exact HC1.out); rintro e w37 ⟨v1080, rfl, ho0, hb⟩; refine ⟨_, rfl, ?_⟩; have n0_ := Aside0.mk (Kd.R_elder' (by (with_reducible repeat (first | apply r_a | apply r_d | apply r_e)); exact HO_8.out) (Kd.R_base ho0) hb); have n1_ := Aside0.mk (Kd.R_elder' (by (with_reducible repeat (first | apply r_a | apply r_d | apply r_e)); exact HO_10.out) (Kd.R_base ho0) hb); have n2_ := Aside0.mk (Kd.R_elder' (by (with_reducible repeat (first | apply r_a | apply r_d | apply r_e)); exact HO_11.out) (Kd.R_base ho0) hb); have n3_ := Aside0.mk (Kd.R_lower (Kd.R_new' (Kd.R_new' (Kd.R_new' ho0 (Kd.R_lt (by (with_reducible repeat (first | apply r_a | apply r_d | apply r_e)); exact HO_8.out))) (Kd.R_lt (by (with_reducible repeat (first | apply r_a | apply r_d | apply r_e)); exact HO_10.out))) (Kd.R_lt (by (with_reducible repeat (first | apply r_a | apply r_d | apply r_e)); exact HO_11.out))) (below_size (bB HB))); replace BK1058 := bbx hb BK1058; have n5_ := bsx hb HB; clear HO_8; clear HO_10; clear HO_11; clear HB; have HO_8 := n0_; have HO_10 := n1_; have HO_11 := n2_; have HO1081 := n3_; have HB := n5_; clear n0_ n1_ n2_ n3_ n5_; (try clear hb); (try clear hb2); (try clear hk); (try clear hi); (try clear ho0); obtain ⟨Ao38, co38, eo38⟩ := Kd.R_slice HO1081.out; subst eo38) | ((with_reducible refine gate_callee (f := 19) rfl ?_); refine goesL_ (some 57) rfl rfl Try.func19 (by kernel_rfl) rfl #[.slice Ao25 t1069.length co25, .slice Ao38 t1079.length co38] rfl (by (try simp only [m_1, m_2, m_3]); first | done | rfl | (simp only [m_4, m_5]; rfl)) ?_; (with_reducible refine (laws_eqStringS.calls kj14 _ _ t1069 _ _ t1079 true _ ?side1 ?side2 ?side3 ?side4 A33.out).mono ?_); (case side1 => repeat (first | exact (Kd.R_reads' HO_10.out).2.2 | (with_reducible refine Kd.C_alloc ?_ _) | (with_reducible refine Kd.C_drewN ?_ _) | (with_reducible refine Kd.C_drew ?_))); (case side2 => exact (Kd.R_reads' HO_10.out).2.1); (case side3 => repeat (first | exact (Kd.R_reads' HO1081.out).2.2 | (with_reducible refine Kd.C_alloc ?_ _) | (with_reducible refine Kd.C_drewN ?_ _) | (with_reducible refine Kd.C_drew ?_))); (case side4 => exact (Kd.R_reads' HO1081.out).2.1); rintro e w' ⟨rfl, ⟨nd, rfl⟩⟩; refine ⟨_, rfl, ?_⟩) | ((with_reducible refine gate_callee (f := 27) rfl ?_); refine goesL_ (some 61) rfl rfl Try.func27 (by kernel_rfl) rfl #[.slice Ao25 t1069.length co25, .int .i64 1] rfl (by (try simp only [m_1, m_2, m_3]); first | done | rfl | (simp only [m_4, m_5]; rfl)) ?_; (with_reducible refine (laws_markStringS.calls kj14 (fun k_ => some k_ = (.slice Ao25 t1069.length co25 : Value).ownBlock) (.slice Ao25 t1069.length co25) t1069 1 t1083 t1084 w _ ?side1 ?side2 A35.out).mono ?_); (case side1 => exact bB HB); (case side2 => exact Kd.R_tight rfl HO_10.out); rintro e w39 ⟨rfl, hy0, hb, hkp⟩; refine ⟨_, rfl, ?_⟩; have n0_ := Aside0.mk (Kd.R_mono (ok' := fun k_ => some k_ ≠ (.slice Ao25 t1069.length co25 : Value).ownBlock ∧ some k_ ≠ (v1075 : Value).ownBlock ∧ some k_ ≠ (.slice Ao38 t1079.length co38 : Value).ownBlock) (Kd.R_keptB (HO_8.out) hkp (fun k_ hk_ hs_ => (hk_.1.1) hs_)) (fun k_ hk_ => ⟨hk_.1.1.1, hk_.1.1.2, hk_.1.2⟩)); have n1_ := Aside0.mk (Kd.R_reok rfl hy0 (fun k_ e_ => HO_10.out.1 k_ e_)); have n2_ := Aside0.mk (Kd.R_mono (ok' := fun k_ => some k_ ≠ (v1066 : Value).ownBlock ∧ some k_ ≠ (.slice Ao25 t1069.length co25 : Value).ownBlock ∧ some k_ ≠ (.slice Ao38 t1079.length co38 : Value).ownBlock) (Kd.R_keptB (HO_11.out) hkp (fun k_ hk_ hs_ => (hk_.1.2) hs_)) (fun k_ hk_ => ⟨hk_.1.1.1, hk_.1.1.2, hk_.1.2⟩)); have n3_ := Aside0.mk (blk_kept (bK BK1058) hkp (fun hs_ => (fun e_ => (Kd.R_ne HO_10.out BK1058.out (by decide)) e_) hs_)); have n4_ := Aside0.mk (Kd.R_mono (ok' := fun k_ => some k_ ≠ (v1066 : Value).ownBlock ∧ some k_ ≠ (.slice Ao25 t1069.length co25 : Value).ownBlock ∧ some k_ ≠ (v1075 : Value).ownBlock) (Kd.R_keptB (HO1081.out) hkp (fun k_ hk_ hs_ => (hk_.1.2) hs_)) (fun k_ hk_ => ⟨hk_.1.1.1.2, hk_.1.1.2, hk_.1.2⟩)); have n5_ := Aside0.mk (hb); clear HO_8; clear HO_10; clear HO_11; clear BK1058; clear HO1081; clear HB; have HO_8 := n0_; have HO_10 := n1_; have HO_11 := n2_; have BK1058 := n3_; have HO1081 := n4_; have HB := n5_; clear n0_ n1_ n2_ n3_ n4_ n5_; (try clear hb); (try clear hkp); (try clear hy0)))
  (try simp only [Act.put, s_1, s_2, s_3])
  go_cut [74] from 1 to 0 (fun v74 wc => ∃ (kq : Nat) (x74_35 : Bool), v74 = .bool x74_35 ∧ Aside0 (laws_FnExactLiveNext.j1 kq l1 a2 t1065 t1068 t1074 x74_35 a0_0 a0_1 = some r) ∧ Aside0 (kq ≤ kj14) ∧ Aside0 (Kd.R Kd.string 9 wc w.heap.size (fun k_ => some k_ ≠ (v1075 : Value).ownBlock) v1066 t1065) ∧ Aside0 (Kd.R Kd.string 9 wc w.heap.size (fun k_ => some k_ ≠ (v1066 : Value).ownBlock) v1075 t1074) ∧ Aside0 (wc.heap[gb1058]? = some (.cells #[.int .i64 a0_0, .int .i64 a0_1] 23 (0, 0))) ∧ Aside0 (Below w.heap.size w wc))
  case first => as_aux_lemma =>
    have H := HC36.out
    clear HC36
    by_cases c40 : t1083 < 0
    · rw [if_pos c40] at H
      have c40b0 : decide (t1083 < 0) = true := decide_eq_true c40
      clear c40
      (first | rw [c40b0] | (simp only [i64_w, i32_w]; rw [c40b0]) | skip)
      rw [HRT.out] at H
      exact absurd H (by generalize kj14 = q_; cases q_ <;> simp [laws_FnExactLiveNext.j1])
    rw [if_neg c40] at H
    have c40b0 : decide (t1083 < 0) = false := decide_eq_false c40
    clear c40
    (first | rw [c40b0] | (simp only [i64_w, i32_w]; rw [c40b0]) | skip)
    replace H := Option.bind_eq_some_iff.mp H
    obtain ⟨t1085, A410, H⟩ := H
    try dsimp only at H
    have A41 := Aside0.mk A410
    clear A410
    by_cases c42 : t1085 = true
    rotate_left
    · replace c42 := Bool.eq_false_iff.mpr c42
      subst c42
      rw [if_neg (show ¬ (false = true) by decide)] at H
      rw [HRT.out] at H
      exact absurd H (by generalize kj14 = q_; cases q_ <;> simp [laws_FnExactLiveNext.j1])
    subst c42
    rw [if_pos rfl] at H
    have H' := Aside0.mk H
    clear H
    obtain ⟨Ao43, co43, eo43⟩ := Kd.R_slice HO_11.out
    subst eo43
    obtain ⟨Ao44, co44, eo44⟩ := Kd.R_slice HO_8.out
    subst eo44
    go_wp2_with (first | (go_at_call 19; (with_reducible refine (laws_eqStringS.calls kj14 _ _ t1074 _ _ t1065 true _ ?side1 ?side2 ?side3 ?side4 A41.out).mono ?_); (case side1 => repeat (first | exact (Kd.R_reads' HO_11.out).2.2 | (with_reducible refine Kd.C_alloc ?_ _) | (with_reducible refine Kd.C_drewN ?_ _) | (with_reducible refine Kd.C_drew ?_))); (case side2 => exact (Kd.R_reads' HO_11.out).2.1); (case side3 => repeat (first | exact (Kd.R_reads' HO_8.out).2.2 | (with_reducible refine Kd.C_alloc ?_ _) | (with_reducible refine Kd.C_drewN ?_ _) | (with_reducible refine Kd.C_drew ?_))); (case side4 => exact (Kd.R_reads' HO_8.out).2.1); rintro e w' ⟨rfl, ⟨nd, rfl⟩⟩))
    go_meet
    case rel => exact ⟨_, ((t1077 != t1068)), (by first | rfl | (simp; done) | (simp [*]; done)), H', ⟨by have := HJ14.out; first | omega | exact Nat.le_refl _⟩, ⟨by (with_reducible repeat (first | apply r_a | apply r_d | apply r_e)); exact Kd.R_mono HO_8.out (fun _ hk => hk.2.1)⟩, ⟨by (with_reducible repeat (first | apply r_a | apply r_d | apply r_e)); exact Kd.R_mono HO_11.out (fun _ hk => hk.1)⟩, ⟨bK BK1058⟩, ⟨bB HB⟩⟩
  clear HC36
  try clear c1
  try clear c31
  try clear c34
  obtain ⟨kq, x74_35, rfl, HA, HJ35, HO_8, HO_11, BK1058, HB⟩ := hcut
  rcases kq with _ | kj35
  · exact absurd HA.out (by simp [laws_FnExactLiveNext.j1])
  have H := HA.out
  clear HA
  simp only [laws_FnExactLiveNext.j1] at H
  by_cases c45 : x74_35 = true
  · subst c45
    rw [if_pos rfl] at H
    rw [HRT.out] at H
    exact absurd H (by simp)
  replace c45 := Bool.eq_false_iff.mpr c45
  subst c45
  rw [if_neg (show ¬ (false = true) by decide)] at H
  replace H := Option.bind_eq_some_iff.mp H
  obtain ⟨⟨t1086, t1087⟩, A460, H⟩ := H
  try dsimp only at H
  have A46 := Aside0.mk A460
  clear A460
  replace H := Option.bind_eq_some_iff.mp H
  obtain ⟨t1088, A470, H⟩ := H
  try dsimp only at H
  have A47 := Aside0.mk A470
  clear A470
  by_cases c48 : t1088 < 0
  · rw [if_pos c48] at H
    have c48b0 : decide (t1088 < 0) = true := decide_eq_true c48
    clear c48
    rw [HRT.out] at H
    exact absurd H (by simp)
  rw [if_neg c48] at H
  have c48b0 : decide (t1088 < 0) = false := decide_eq_false c48
  clear c48
  by_cases c49 : t1088 = t1086
  rotate_left
  · rw [if_neg c49] at H
    have c49b0 : (t1088 == t1086) = false := beq_eq_false_iff_ne.mpr c49
    have c49b1 : (t1088 != t1086) = true := bne_iff_ne.mpr c49
    rw [HRT.out] at H
    exact absurd H (by simp)
  rw [if_pos c49] at H
  have c49b0 : (t1088 == t1086) = true := beq_iff_eq.mpr c49
  have c49b1 : (t1088 != t1086) = false := bne_eq_false_iff_eq.mpr c49
  clear c49
  replace H := Option.bind_eq_some_iff.mp H
  obtain ⟨⟨t1089, t1090⟩, A500, H⟩ := H
  try dsimp only at H
  have A50 := Aside0.mk A500
  clear A500
  replace H := Option.bind_eq_some_iff.mp H
  obtain ⟨t1091, A510, H⟩ := H
  try dsimp only at H
  have A51 := Aside0.mk A510
  clear A510
  replace H := Option.bind_eq_some_iff.mp H
  obtain ⟨⟨t1094, t1097⟩, A520, H⟩ := H
  try dsimp only at H
  have A52 := Aside0.mk A520
  clear A520
  have HC53 := Aside0.mk H
  clear H
  obtain ⟨Ao54, co54, eo54⟩ := Kd.R_slice HO_11.out
  subst eo54
  go_upto_region 27 with (first | ((with_reducible refine gate_callee (f := 27) rfl ?_); refine goesL_ (some 77) rfl rfl Try.func27 (by kernel_rfl) rfl #[.slice Ao54 t1074.length co54, .int .i64 1] rfl (by (try simp only [m_1, m_2, m_3]); first | done | rfl | (simp only [m_4, m_5]; rfl)) ?_; (with_reducible refine (laws_markStringS.calls kj35 (fun k_ => some k_ = (.slice Ao54 t1074.length co54 : Value).ownBlock) (.slice Ao54 t1074.length co54) t1074 1 t1086 t1087 w _ ?side1 ?side2 A46.out).mono ?_); (case side1 => exact bB HB); (case side2 => exact Kd.R_tight rfl HO_11.out); rintro e w55 ⟨rfl, hy0, hb, hkp⟩; refine ⟨_, rfl, ?_⟩; have n0_ := Aside0.mk (Kd.R_mono (ok' := fun k_ => some k_ ≠ (.slice Ao54 t1074.length co54 : Value).ownBlock) (Kd.R_keptB (HO_8.out) hkp (fun k_ hk_ hs_ => (hk_) hs_)) (fun k_ hk_ => hk_.1)); have n1_ := Aside0.mk (Kd.R_reok rfl hy0 (fun k_ e_ => HO_11.out.1 k_ e_)); have n2_ := Aside0.mk (blk_kept (bK BK1058) hkp (fun hs_ => (fun e_ => (Kd.R_ne HO_11.out BK1058.out (by decide)) e_) hs_)); have n3_ := Aside0.mk (hb); clear HO_8; clear HO_11; clear BK1058; clear HB; have HO_8 := n0_; have HO_11 := n1_; have BK1058 := n2_; have HB := n3_; clear n0_ n1_ n2_ n3_; (try clear hb); (try clear hkp); (try clear hy0)) | ((with_reducible refine gate_callee (f := 38) rfl ?_); refine goesL_ (some 80) rfl rfl Try.func38 (by kernel_rfl) rfl #[.slice Ao54 t1087.length co54, .int .i64 1] rfl (by (try simp only [m_1, m_2, m_3]); first | done | (rw [show t1087.length = t1074.length from (Kd.R_reads' HO_11.out).1.symm] <;> rfl) | rfl | (simp only [m_4, m_5]; rfl)) ?_; (with_reducible refine (laws_heldStringS.calls kj35 _ _ t1087 1 t1088 _ ?side1 ?side2 A47.out).mono ?_); (case side1 => repeat (first | exact (Kd.R_reads' HO_11.out).2.2 | (with_reducible refine Kd.C_alloc ?_ _) | (with_reducible refine Kd.C_drewN ?_ _) | (with_reducible refine Kd.C_drew ?_))); (case side2 => rw [show t1087.length = t1074.length from (Kd.R_reads' HO_11.out).1.symm]; exact (Kd.R_reads' HO_11.out).2.1); rintro e w56 ⟨rfl, hb⟩; refine ⟨_, rfl, ?_⟩; have n0_ := Aside0.mk (Kd.R_below (by (with_reducible repeat (first | apply r_a | apply r_d | apply r_e)); exact HO_8.out) hb); have n1_ := Aside0.mk (Kd.R_below (by (with_reducible repeat (first | apply r_a | apply r_d | apply r_e)); exact HO_11.out) hb); replace BK1058 := bbx hb BK1058; replace HB := bsx hb HB; clear HO_8; clear HO_11; have HO_8 := n0_; have HO_11 := n1_; clear n0_ n1_; (try clear hb); (try clear hb2); (try clear hk); (try clear hi); have hcz57_0 := cz0 BK1058; have hcz57_1 := cz1 BK1058; have hfz57_0 := blk_frozen BK1058.out 0; have hfz57_1 := blk_frozen BK1058.out 1) | ((with_reducible refine gate_callee (f := 16) rfl ?_); refine goesL_ (some 88) rfl rfl Try.func16 (by kernel_rfl) rfl #[.agg #[.int .i64 a0_0, .int .i64 a0_1]] rfl (by (try simp only [m_1, m_2, m_3]); first | done | rfl | (simp only [m_4, m_5]; rfl)) ?_; (with_reducible refine (laws_toLock.calls a0_0 a0_1 t1089 t1090 _ A50.out).mono ?_); rintro e w58 ⟨rfl, hb⟩; refine ⟨_, rfl, ?_⟩; have n0_ := Aside0.mk (Kd.R_below (by (with_reducible repeat (first | apply r_a | apply r_d | apply r_e)); exact HO_8.out) hb); have n1_ := Aside0.mk (Kd.R_below (by (with_reducible repeat (first | apply r_a | apply r_d | apply r_e)); exact HO_11.out) hb); replace BK1058 := bbx hb BK1058; replace HB := bsx hb HB; clear HO_8; clear HO_11; have HO_8 := n0_; have HO_11 := n1_; clear n0_ n1_; (try clear hb); (try clear hb2); (try clear hk); (try clear hi)) | ((with_reducible refine gate_callee (f := 17) rfl ?_); refine goesL_ (some 90) rfl rfl Try.func17 (by kernel_rfl) rfl #[.slice A1 l1.length c1] rfl (by (try simp only [m_1, m_2, m_3]); first | done | rfl | (simp only [m_4, m_5]; rfl)) ?_; (with_reducible refine (laws_toStringS.calls kj35 _ _ l1 t1091 _ ?side1 ?side2 A51.out).mono ?_); (case side1 => repeat (first | exact (Kd.C_below HR1.out HB.out) | (with_reducible refine Kd.C_alloc ?_ _) | (with_reducible refine Kd.C_drewN ?_ _) | (with_reducible refine Kd.C_drew ?_))); (case side2 => exact HC1.out); rintro e w59 ⟨v1092, rfl, ho0, hb⟩; refine ⟨_, rfl, ?_⟩; have n0_ := Aside0.mk (Kd.R_elder' (by (with_reducible repeat (first | apply r_a | apply r_d | apply r_e)); exact HO_8.out) (Kd.R_base ho0) hb); have n1_ := Aside0.mk (Kd.R_elder' (by (with_reducible repeat (first | apply r_a | apply r_d | apply r_e)); exact HO_11.out) (Kd.R_base ho0) hb); have n2_ := Aside0.mk (Kd.R_lower (Kd.R_new' (Kd.R_new' ho0 (Kd.R_lt (by (with_reducible repeat (first | apply r_a | apply r_d | apply r_e)); exact HO_8.out))) (Kd.R_lt (by (with_reducible repeat (first | apply r_a | apply r_d | apply r_e)); exact HO_11.out))) (below_size (bB HB))); replace BK1058 := bbx hb BK1058; have n4_ := bsx hb HB; clear HO_8; clear HO_11; clear HB; have HO_8 := n0_; have HO_11 := n1_; have HO1093 := n2_; have HB := n4_; clear n0_ n1_ n2_ n4_; (try clear hb); (try clear hb2); (try clear hk); (try clear hi); (try clear ho0); obtain ⟨Ao60, co60, eo60⟩ := Kd.R_slice HO1093.out; subst eo60) | ((with_reducible refine gate_callee (f := 44) rfl ?_); refine goesL_ (some 92) rfl rfl Try.func44 (by kernel_rfl) rfl #[.agg #[.int .i64 t1089, .int .i64 t1090], .slice Ao60 t1091.length co60, .string a2] rfl (by (try simp only [m_1, m_2, m_3]); first | done | rfl | (simp only [m_4, m_5]; rfl)) ?_; (with_reducible refine (impl_LiveNext.calls kj35 t1089 t1090 _ _ t1091 a2 t1094 t1097 _ ?side1 ?side2 A52.out).mono ?_); (case side1 => repeat (first | exact (Kd.R_reads' HO1093.out).2.2 | (with_reducible refine Kd.C_alloc ?_ _) | (with_reducible refine Kd.C_drewN ?_ _) | (with_reducible refine Kd.C_drew ?_))); (case side2 => exact (Kd.R_reads' HO1093.out).2.1); rintro e w61 ⟨v1095, rfl, ho0, hb⟩; refine ⟨_, rfl, ?_⟩; have n0_ := Aside0.mk (Kd.R_elder' (by (with_reducible repeat (first | apply r_a | apply r_d | apply r_e)); exact HO_8.out) (Kd.R_base ho0) hb); have n1_ := Aside0.mk (Kd.R_elder' (by (with_reducible repeat (first | apply r_a | apply r_d | apply r_e)); exact HO_11.out) (Kd.R_base ho0) hb); have n2_ := Aside0.mk (Kd.R_elder' (by (with_reducible repeat (first | apply r_a | apply r_d | apply r_e)); exact HO1093.out) (Kd.R_base ho0) hb); have n3_ := Aside0.mk (Kd.R_lower (Kd.R_new' (Kd.R_new' (Kd.R_new' ho0 (Kd.R_lt (by (with_reducible repeat (first | apply r_a | apply r_d | apply r_e)); exact HO_8.out))) (Kd.R_lt (by (with_reducible repeat (first | apply r_a | apply r_d | apply r_e)); exact HO_11.out))) (Kd.R_lt (by (with_reducible repeat (first | apply r_a | apply r_d | apply r_e)); exact HO1093.out))) (below_size (bB HB))); replace BK1058 := bbx hb BK1058; have n5_ := bsx hb HB; clear HO_8; clear HO_11; clear HO1093; clear HB; have HO_8 := n0_; have HO_11 := n1_; have HO1093 := n2_; have HO1096 := n3_; have HB := n5_; clear n0_ n1_ n2_ n3_ n5_; (try clear hb); (try clear hb2); (try clear hk); (try clear hi); (try clear ho0)))
  (try simp only [Act.put, s_1, s_2, s_3])
  go_cut [103] from 1 to 0 (fun v103 wc => ∃ (kq : Nat) (x103_52 : Bool), v103 = .bool x103_52 ∧ Aside0 (laws_FnExactLiveNext.j2 kq t1087 t1086 x103_52 = some r) ∧ Aside0 (kq ≤ kj35) ∧ Aside0 (Kd.R Kd.string 9 wc w.heap.size (fun _ => True) (.slice Ao54 t1074.length co54) t1087) ∧ Aside0 (wc.heap[gb1058]? = some (.cells #[.int .i64 a0_0, .int .i64 a0_1] 23 (0, 0))) ∧ Aside0 (Below w.heap.size w wc))
  case first => as_aux_lemma =>
    have H := HC53.out
    clear HC53
    replace H := Option.bind_eq_some_iff.mp H
    obtain ⟨t1098, A620, H⟩ := H
    try dsimp only at H
    have A62 := Aside0.mk A620
    clear A620
    by_cases c63 : t1098 = true
    rotate_left
    · replace c63 := Bool.eq_false_iff.mpr c63
      subst c63
      rw [if_neg (show ¬ (false = true) by decide)] at H
      rw [HRT.out] at H
      exact absurd H (by generalize kj35 = q_; cases q_ <;> simp [laws_FnExactLiveNext.j2])
    subst c63
    rw [if_pos rfl] at H
    have H' := Aside0.mk H
    clear H
    obtain ⟨Ao64, co64, eo64⟩ := Kd.R_slice HO1096.out
    subst eo64
    obtain ⟨Ao65, co65, eo65⟩ := Kd.R_slice HO_8.out
    subst eo65
    go_wp2_with (first | ((with_reducible refine gate_callee (f := 19) rfl ?_); refine goesL_ (some 97) rfl rfl Try.func19 (by kernel_rfl) rfl #[.slice Ao64 t1094.length co64, .slice Ao65 t1065.length co65] rfl (by (try simp only [m_1, m_2, m_3]); first | done | rfl | (simp only [m_4, m_5]; rfl)) ?_; (with_reducible refine (laws_eqStringS.calls kj35 _ _ t1094 _ _ t1065 true _ ?side1 ?side2 ?side3 ?side4 A62.out).mono ?_); (case side1 => repeat (first | exact (Kd.R_reads' HO1096.out).2.2 | (with_reducible refine Kd.C_alloc ?_ _) | (with_reducible refine Kd.C_drewN ?_ _) | (with_reducible refine Kd.C_drew ?_))); (case side2 => exact (Kd.R_reads' HO1096.out).2.1); (case side3 => repeat (first | exact (Kd.R_reads' HO_8.out).2.2 | (with_reducible refine Kd.C_alloc ?_ _) | (with_reducible refine Kd.C_drewN ?_ _) | (with_reducible refine Kd.C_drew ?_))); (case side4 => exact (Kd.R_reads' HO_8.out).2.1); rintro e w' ⟨rfl, ⟨nd, rfl⟩⟩; refine ⟨_, rfl, ?_⟩))
    go_meet
    case rel => exact ⟨_, ((t1097 != t1068)), (by first | rfl | (simp; done) | (simp [*]; done)), H', ⟨by have := HJ14.out; have := HJ35.out; first | omega | exact Nat.le_refl _⟩, ⟨by (with_reducible repeat (first | apply r_a | apply r_d | apply r_e)); exact Kd.R_mono HO_11.out (fun _ hk => trivial)⟩, ⟨bK BK1058⟩, ⟨bB HB⟩⟩
  clear HC53
  try clear c1
  try clear c45
  try clear c48
  try clear c48b0
  try clear c49
  try clear c49b0
  try clear c49b1
  try clear hcz57_0
  try clear hcz57_1
  try clear hfz57_0
  try clear hfz57_1
  obtain ⟨kq, x103_52, rfl, HA, HJ52, HO_11, BK1058, HB⟩ := hcut
  have hl11_52 := (Kd.R_reads' HO_11.out).1
  rw [hl11_52] at HO_11
  (try simp only [hl11_52])
  (try simp only [hl11_52] at BK1058)
  rcases kq with _ | kj52
  · exact absurd HA.out (by simp [laws_FnExactLiveNext.j2])
  have H := HA.out
  clear HA
  simp only [laws_FnExactLiveNext.j2] at H
  by_cases c66 : x103_52 = true
  · subst c66
    rw [if_pos rfl] at H
    rw [HRT.out] at H
    exact absurd H (by simp)
  replace c66 := Bool.eq_false_iff.mpr c66
  subst c66
  rw [if_neg (show ¬ (false = true) by decide)] at H
  replace H := Option.bind_eq_some_iff.mp H
  obtain ⟨t1099, A670, H⟩ := H
  try dsimp only at H
  have A67 := Aside0.mk A670
  clear A670
  by_cases c68 : t1099 < 0
  · rw [if_pos c68] at H
    have c68b0 : decide (t1099 < 0) = true := decide_eq_true c68
    clear c68
    rw [HRT.out] at H
    exact absurd H (by simp)
  rw [if_neg c68] at H
  have c68b0 : decide (t1099 < 0) = false := decide_eq_false c68
  clear c68
  by_cases c69 : t1099 = t1086
  rotate_left
  · rw [if_neg c69] at H
    have c69b0 : (t1099 == t1086) = false := beq_eq_false_iff_ne.mpr c69
    have c69b1 : (t1099 != t1086) = true := bne_iff_ne.mpr c69
    rw [HRT.out] at H
    exact absurd H (by simp)
  rw [if_pos c69] at H
  have c69b0 : (t1099 == t1086) = true := beq_iff_eq.mpr c69
  have c69b1 : (t1099 != t1086) = false := bne_eq_false_iff_eq.mpr c69
  clear c69
  obtain rfl := Option.some.inj H
  go_wp2_with (first | ((with_reducible refine gate_callee (f := 38) rfl ?_); refine goesL_ (some 106) rfl rfl Try.func38 (by kernel_rfl) rfl #[.slice Ao54 t1087.length co54, .int .i64 1] rfl (by (try simp only [m_1, m_2, m_3]); first | done | rfl | (simp only [m_4, m_5]; rfl)) ?_; (with_reducible refine (laws_heldStringS.calls kj52 _ _ t1087 1 t1099 _ ?side1 ?side2 A67.out).mono ?_); (case side1 => repeat (first | exact (Kd.R_reads' HO_11.out).2.2 | (with_reducible refine Kd.C_alloc ?_ _) | (with_reducible refine Kd.C_drewN ?_ _) | (with_reducible refine Kd.C_drew ?_))); (case side2 => exact (Kd.R_reads' HO_11.out).2.1); rintro e w70 ⟨rfl, hb⟩; refine ⟨_, rfl, ?_⟩; have n0_ := Aside0.mk (Kd.R_below (by (with_reducible repeat (first | apply r_a | apply r_d | apply r_e)); exact HO_11.out) hb); replace BK1058 := bbx hb BK1058; replace HB := bsx hb HB; clear HO_11; have HO_11 := n0_; clear n0_; (try clear hb); (try clear hb2); (try clear hk); (try clear hi)))
  go_ret
  exact ⟨by first | rfl | (simp [errW_none, errW_some] <;> rfl) | (simp [*, errW_none, errW_some] <;> rfl), bB HB⟩
end Go.Proofs.Ytihhiolflbieaaa.P
