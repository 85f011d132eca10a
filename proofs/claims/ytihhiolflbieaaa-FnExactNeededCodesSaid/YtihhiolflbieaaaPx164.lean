-- Texts of this session's own program (wip/dr.py), which runs the kit's printer.
import Derived.Test.YtihhiolflbieaaaPx0
import Derived.Test.YtihhiolflbieaaaPx2
import Derived.Test.YtihhiolflbieaaaPx5
import Derived.Test.YtihhiolflbieaaaPx9
import Derived.Test.YtihhiolflbieaaaPx32
import Derived.Test.YtihhiolflbieaaaPx62
import Derived.Test.YtihhiolflbieaaaPx75
import Derived.Test.YtihhiolflbieaaaPx132
import Derived.Test.YtihhiolflbieaaaPx163
namespace Go.Proofs.Ytihhiolflbieaaa.P
open Go.RowKit Go.Proofs.YtihhiolflbieaaaW.PrintWords Go.Proofs.YtihhiolflbieaaaW.PrintLast Go.Proofs.YtihhiolflbieaaaW.PrintMore
attribute [local go_sem] q_leq q_gtr q_geq max2_int min2_int max_two min_two max_three min_three max_four min_four   -- for this text's walks alone
set_option linter.unusedVariables false
set_option linter.unusedSimpArgs false

/-! ### spec_deFew: function 93 -/
def spec_deFew.f (k : Nat) (a0_0 : Int) (a0_1 : Int) (l1 : List ByteArray) (a2 : ByteArray) (a3 : ByteArray) : Option (Int) := (spec_deFar.f k a0_0 a0_1 l1 a2).bind fun bt1190 => ((spec_whNumber.f k a0_0 a0_1 a3).bind fun t1196 => (if 0 ≤ t1196 then (if t1196 < (bt1190.1.length : Int) then (some (rd bt1190.1 t1196)) else (none)) else (none)))
theorem spec_deFew.mono : ∀ a0 a1 a2 a3 a4 k, LeO (spec_deFew.f k a0 a1 a2 a3 a4) (spec_deFew.f (k + 1) a0 a1 a2 a3 a4) := by
  intro a0 a1 a2 a3 a4 k
  unfold spec_deFew.f
  repeat' first
      | (with_reducible exact spec_deFar.mono _ _ _ _ _)
      | (with_reducible exact spec_whNumber.mono _ _ _ _)
      | (with_reducible exact LeO.refl _)
      | (with_reducible exact LeO.none _)
      | (with_reducible refine LeO.ite ?_ ?_)
      | (with_reducible refine LeO.bind ?_ (fun _ => ?_))
      | exact spec_deFar.mono _ _ _ _ _
      | exact spec_whNumber.mono _ _ _ _
      | exact LeO.none _
      | refine LeO.ite ?_ ?_
      | refine LeO.bind ?_ (fun _ => ?_)
set_option maxHeartbeats 8000000 in
set_option maxRecDepth 100000 in
theorem spec_deFew.calls (k : Nat) (a0_0 : Int) (a0_1 : Int) (A1 : Option Addr) (c1 : Nat) (l1 : List ByteArray) (a2 : ByteArray) (a3 : ByteArray) (r : Int) (w : World) (hr1 : Kd.C Kd.string w A1 l1.length l1) (hc1 : l1.length ≤ c1) (h : spec_deFew.f k a0_0 a0_1 l1 a2 a3 = some r) :
    Calls Try.prog 93 #[.agg #[.int .i64 a0_0, .int .i64 a0_1], .slice A1 l1.length c1, .string a2, .string a3] w fun e w' => e = .returned (.int .i64 r) ∧ Below w.heap.size w w' := by
  have hu28 := Try.underlying28
  have HR1 := Aside0.mk hr1
  have HC1 := Aside0.mk hc1
  clear hr1 hc1
  have HB := Aside0.mk (Below.refl w.heap.size w)
  have H : ((spec_deFar.f k a0_0 a0_1 l1 a2).bind fun bt1190 => ((spec_whNumber.f k a0_0 a0_1 a3).bind fun t1196 => (if 0 ≤ t1196 then (if t1196 < (bt1190.1.length : Int) then (some (rd bt1190.1 t1196)) else (none)) else (none)))) = some r := h
  clear h
  replace H := Option.bind_eq_some_iff.mp H
  obtain ⟨⟨t1190, t1193⟩, A50, H⟩ := H
  try dsimp only at H
  have A5 := Aside0.mk A50
  clear A50
  replace H := Option.bind_eq_some_iff.mp H
  obtain ⟨t1196, A60, H⟩ := H
  try dsimp only at H
  have A6 := Aside0.mk A60
  clear A60
  by_cases c7 : 0 ≤ t1196
  rotate_left
  · rw [if_neg c7] at H
    exact absurd H (by simp)

  rw [if_pos c7] at H
  have c7b0 : decide (0 ≤ t1196) = true := decide_eq_true c7
  clear c7
  by_cases c8 : t1196 < (t1190.length : Int)
  rotate_left
  · rw [if_neg c8] at H
    exact absurd H (by simp)
  rw [if_pos c8] at H
  have c8b0 : decide (t1196 < (t1190.length : Int)) = true := decide_eq_true c8
  clear c8
  obtain rfl := Option.some.inj H
  go_enter Try.func93, Try.ntmps93
  go_wp2_with (first | ((with_reducible refine gate_dst (N := 4) rfl ?_); refine box_event ?hg (N := 4) ?hd (cs := #[.int .i64 a0_0, .int .i64 a0_1]) (t := 28) ?hr ?_; (case hd => rfl); (case hg => rfl); (case hr => first | (go_simp; done) | (go_simp; rfl)); intro gb1189 hg w9 hbox hb; have n0_ := bsx hb HB; have n1_ := Aside0.mk (hbox); have n2_ := gwx hg HB; have n3_ := n2_; clear HB; have HB := n0_; have BK1189 := n1_; have GW1189 := n2_; have GE1189 := n3_; clear n0_ n1_ n2_ n3_; clear hb hbox hg; have hcz10_0 := cz0 BK1189; have hcz10_1 := cz1 BK1189; have hfz10_0 := blk_frozen BK1189.out 0; have hfz10_1 := blk_frozen BK1189.out 1) | ((with_reducible refine gate_callee (f := 144) rfl ?_); refine goesL_ (some 15) rfl rfl Try.func144 (by kernel_rfl) rfl #[.agg #[.int .i64 a0_0, .int .i64 a0_1], .slice A1 l1.length c1, .string a2] rfl (by (try simp only [m_1, m_2, m_3]); first | done | rfl | (simp only [m_4, m_5]; rfl)) ?_; (with_reducible refine (spec_deFar.calls k a0_0 a0_1 _ _ l1 a2 t1190 t1193 _ ?side1 ?side2 A5.out).mono ?_); (case side1 => repeat (first | exact (Kd.C_below HR1.out HB.out) | (with_reducible refine Kd.C_alloc ?_ _) | (with_reducible refine Kd.C_drewN ?_ _) | (with_reducible refine Kd.C_drew ?_))); (case side2 => exact HC1.out); rintro e w11 ⟨v1191, v1194, rfl, ho0, ho1, hb⟩; refine ⟨_, rfl, ?_⟩; have n0_ := Aside0.mk (Kd.R_lower ho0 (below_size (bB HB))); have n1_ := Aside0.mk (Kd.R_lower ho1 (below_size (bB HB))); replace BK1189 := bbx hb BK1189; have n3_ := bsx hb HB; clear HB; have HO1192 := n0_; have HO1195 := n1_; have HB := n3_; clear n0_ n1_ n3_; (try clear hb); (try clear hb2); (try clear hk); (try clear hi); (try clear ho0); (try clear ho1); have hcz12_0 := cz0 BK1189; have hcz12_1 := cz1 BK1189; have hfz12_0 := blk_frozen BK1189.out 0; have hfz12_1 := blk_frozen BK1189.out 1) | ((with_reducible refine gate_callee (f := 63) rfl ?_); refine goesL_ (some 21) rfl rfl Try.func63 (by kernel_rfl) rfl #[.agg #[.int .i64 a0_0, .int .i64 a0_1], .string a3] rfl (by (try simp only [m_1, m_2, m_3]); first | done | rfl | (simp only [m_4, m_5]; rfl)) ?_; (with_reducible refine (spec_whNumber.calls k a0_0 a0_1 a3 t1196 _ A6.out).mono ?_); rintro e w13 ⟨rfl, hb⟩; refine ⟨_, rfl, ?_⟩; have n0_ := Aside0.mk (Kd.R_below (by (with_reducible repeat (first | apply r_a | apply r_d | apply r_e)); exact HO1192.out) hb); have n1_ := Aside0.mk (Kd.R_below (by (with_reducible repeat (first | apply r_a | apply r_d | apply r_e)); exact HO1195.out) hb); replace BK1189 := bbx hb BK1189; replace HB := bsx hb HB; clear HO1192; clear HO1195; have HO1192 := n0_; have HO1195 := n1_; clear n0_ n1_; (try clear hb); (try clear hb2); (try clear hk); (try clear hi); obtain ⟨Ao14, co14, eo14⟩ := Kd.R_slice HO1192.out; subst eo14; have p1197 : 0 ≤ (t1196 : Int) := of_decide_eq_true (by first | (with_reducible assumption) | assumption); have q1197 : t1196 < (t1190.length : Int) := of_decide_eq_true (by first | (with_reducible assumption) | assumption); obtain ⟨ad1197, e1197, hx1197_0⟩ := Kd.at_int (Kd.R_reads' HO1192.out).2.2 t1196 p1197 q1197; cases e1197; replace p1197 := eq_true p1197; replace q1197 := eq_true q1197))
  go_ret
  exact ⟨by first | rfl | (simp [errW_none, errW_some] <;> rfl) | (simp [*, errW_none, errW_some] <;> rfl), bB HB⟩
/-! ### spec_deWith: function 96 -/
def spec_deWith.l0 : Nat → List ByteArray → ByteArray → Int → Option (List ByteArray)
  | 0, _, _, _ => none
  | k + 1, x0, x1, x5 => if x5 < (x0.length : Int) then (if 0 ≤ x5 then (if (Op.bytesLess ((rdOf ByteArray.empty x0 x5).toList) x1.toList) = true then (spec_deWith.l0 k x0 x1 (wrap64 (x5 + 1))) else (if x5 ≤ (x0.length : Int) then ((spec_l1OwnS.f (x0.take (x5 : Int).toNat)).bind fun t1200 => ((some (([x1] : List ByteArray) : List ByteArray)).bind fun y1203 => (if t1200.length + y1203.length < 8796093022208 then ((some (t1200 ++ y1203 : List ByteArray)).bind fun y1206 => (if y1206.length + (x0.drop (x5 : Int).toNat).length < 8796093022208 then (some (y1206 ++ (x0.drop (x5 : Int).toNat))) else (none))) else (none)))) else (none))) else (none)) else (if 0 ≤ x5 then (if x5 ≤ (x0.length : Int) then ((spec_l1OwnS.f (x0.take (x5 : Int).toNat)).bind fun t1214 => ((some (([x1] : List ByteArray) : List ByteArray)).bind fun y1217 => (if t1214.length + y1217.length < 8796093022208 then ((some (t1214 ++ y1217 : List ByteArray)).bind fun y1220 => (if y1220.length + (x0.drop (x5 : Int).toNat).length < 8796093022208 then (some (y1220 ++ (x0.drop (x5 : Int).toNat))) else (none))) else (none)))) else (none)) else (none))
def spec_deWith.f (k : Nat) (l0 : List ByteArray) (a1 : ByteArray) : Option (List ByteArray) := spec_deWith.l0 k l0 a1 0
theorem spec_deWith.mono_l : ∀ k, (∀ y0 y1 y2, LeO (spec_deWith.l0 k y0 y1 y2) (spec_deWith.l0 (k + 1) y0 y1 y2))
  | 0 => fun _ _ _ r h => by simp [spec_deWith.l0] at h
  | k + 1 => by
    have ih0 := spec_deWith.mono_l k
    · intro y0 y1 y2
      unfold spec_deWith.l0
      repeat' first
      | (with_reducible exact ih0 _ _ _)
      | (with_reducible exact LeO.refl _)
      | (with_reducible exact LeO.none _)
      | (with_reducible refine LeO.ite ?_ ?_)
      | (with_reducible refine LeO.bind ?_ (fun _ => ?_))
      | exact ih0 _ _ _
      | exact LeO.none _
      | refine LeO.ite ?_ ?_
      | refine LeO.bind ?_ (fun _ => ?_)
theorem spec_deWith.mono : ∀ a0 a1 k, LeO (spec_deWith.f k a0 a1) (spec_deWith.f (k + 1) a0 a1) := by
  intro a0 a1 k
  have ih0 := spec_deWith.mono_l k
  unfold spec_deWith.f
  repeat' first
      | (with_reducible exact ih0 _ _ _)
      | (with_reducible exact LeO.refl _)
      | (with_reducible exact LeO.none _)
      | (with_reducible refine LeO.ite ?_ ?_)
      | (with_reducible refine LeO.bind ?_ (fun _ => ?_))
      | exact ih0 _ _ _
      | exact LeO.none _
      | refine LeO.ite ?_ ?_
      | refine LeO.bind ?_ (fun _ => ?_)
def spec_deWith.T4 : Bool × List (List Nat × List Nat) := (true, [([], []), ([], []), ([0, 1], [0, 1]), ([2], [2]), ([], []), ([4], [4]), ([3, 5, 3], [3, 5]), ([], []), ([], []), ([7, 8], [7, 8]), ([6, 9, 6], [6, 9]), ([10, 10, 0, 1, 2, 3, 4, 5, 6, 7, 8, 9, 10], [10])])
def spec_deWith.B4 : List Nat := [0, 0, 3, 7, 0, 16, 63, 0, 0, 384, 1023, 2047]
theorem spec_deWith.tab4 : rtab .any (opsOf Try.f96 4) = spec_deWith.T4 := by kernel_rfl
theorem spec_deWith.bits4 : waitsOk spec_deWith.T4.2 spec_deWith.B4 = true := by kernel_rfl
set_option maxHeartbeats 8000000 in
set_option maxRecDepth 100000 in
theorem spec_deWith.calls (k : Nat) (A0 : Option Addr) (c0 : Nat) (l0 : List ByteArray) (a1 : ByteArray) (r : List ByteArray) (w : World) (hr0 : Kd.C Kd.string w A0 l0.length l0) (hc0 : l0.length ≤ c0) (h : spec_deWith.f k l0 a1 = some r) :
    Calls Try.prog 96 #[.slice A0 l0.length c0, .string a1] w fun e w' => ∃ v0_ : Value, e = .returned (v0_) ∧ Kd.R Kd.string 9 w' w.heap.size (fun _ => True) v0_ r ∧ Below w.heap.size w w' := by
  have HR0 := Aside0.mk hr0
  have HC0 := Aside0.mk hc0
  clear hr0 hc0
  have HB := Aside0.mk (Below.refl w.heap.size w)
  have H : (spec_deWith.l0 k l0 a1 0) = some r := h
  clear h
  have H' := Aside0.mk H
  clear H
  go_enter Try.func96, Try.ntmps96
  go_wp2
  go_loopg [5] k (fun kq v5 w' => ∃ (x5_1 : Int), v5 = .int .i64 x5_1 ∧ Aside0 (spec_deWith.l0 kq l0 a1 x5_1 = some r) ∧ Aside0 (kq ≤ k) ∧ Aside0 (Below w.heap.size w w'))
  case atStart => exact ⟨(0), (by first | rfl | (simp; done) | (simp [*]; done)), H', ⟨Nat.le_refl _⟩, ⟨bB HB⟩⟩
  clear H'
  obtain ⟨x5_1, rfl, HA, HK1, HB⟩ := hrel
  rcases gk with _ | k1
  · exact absurd HA.out (by simp [spec_deWith.l0])
  have H := HA.out
  clear HA
  simp only [spec_deWith.l0] at H
  by_cases c3 : x5_1 < (l0.length : Int)
  rotate_left
  · rw [if_neg c3] at H
    have c3b0 : decide (x5_1 < (l0.length : Int)) = false := decide_eq_false c3
    clear c3
    by_cases c23 : 0 ≤ x5_1
    rotate_left
    · rw [if_neg c23] at H
      exact absurd H (by simp)

    rw [if_pos c23] at H
    have c23b0 := eq_true c23
    have c23b1 : decide (0 ≤ x5_1) = true := decide_eq_true c23
    clear c23
    by_cases c24 : x5_1 ≤ (l0.length : Int)
    rotate_left
    · rw [if_neg c24] at H
      exact absurd H (by simp)
    rw [if_pos c24] at H
    have c24b0 := eq_true c24
    have c24b1 : decide (x5_1 ≤ (l0.length : Int)) = true := decide_eq_true c24
    clear c24
    replace H := Option.bind_eq_some_iff.mp H
    obtain ⟨t1214, A250, H⟩ := H
    try dsimp only at H
    have A25 := Aside0.mk A250
    clear A250
    obtain ⟨y1217, hy1217⟩ : ∃ y_ : List ByteArray, y_ = (([a1] : List ByteArray)) := ⟨_, rfl⟩
    replace H : (if t1214.length + y1217.length < 8796093022208 then ((some (t1214 ++ y1217 : List ByteArray)).bind fun y1220 => (if y1220.length + (l0.drop (x5_1 : Int).toNat).length < 8796093022208 then (some (y1220 ++ (l0.drop (x5_1 : Int).toNat))) else (none))) else (none)) = some r := by first | (rw [hy1217]; with_reducible exact H) | (have H2_ := (Option.bind_some _ _).symm.trans H; rw [hy1217]; with_reducible exact H2_) | (have H2_ := (Option.bind_some _ _).symm.trans H; with_reducible exact H2_) | with_reducible exact H | (rw [hy1217]; exact H) | exact H
    have Ny1217 := Aside0.mk hy1217
    clear hy1217
    by_cases c26 : t1214.length + y1217.length < 8796093022208
    rotate_left
    · rw [if_neg c26] at H
      exact absurd H (by simp)
    rw [if_pos c26] at H
    have LMc26 := Aside0.mk c26
    clear c26
    obtain ⟨y1220, hy1220⟩ : ∃ y_ : List ByteArray, y_ = (t1214 ++ y1217) := ⟨_, rfl⟩
    replace H : (if y1220.length + (l0.drop (x5_1 : Int).toNat).length < 8796093022208 then (some (y1220 ++ (l0.drop (x5_1 : Int).toNat))) else (none)) = some r := by first | (rw [hy1220]; with_reducible exact H) | (have H2_ := (Option.bind_some _ _).symm.trans H; rw [hy1220]; with_reducible exact H2_) | (have H2_ := (Option.bind_some _ _).symm.trans H; with_reducible exact H2_) | with_reducible exact H | (rw [hy1220]; exact H) | exact H
    have Ny1220 := Aside0.mk hy1220
    clear hy1220
    have c27b0 := eq_true (of_decide_eq_true (by first | (with_reducible assumption) | assumption) : 0 ≤ x5_1)
    have c28b0 := eq_true (of_decide_eq_true (by first | (with_reducible assumption) | assumption) : x5_1 ≤ (l0.length : Int))
    by_cases c29 : y1220.length + (l0.drop (x5_1 : Int).toNat).length < 8796093022208
    rotate_left
    · rw [if_neg c29] at H
      exact absurd H (by simp)
    rw [if_pos c29] at H
    have LMc29 := Aside0.mk c29
    clear c29
    obtain ⟨y1224, hy1224⟩ : ∃ y_ : List ByteArray, y_ = (y1220 ++ (l0.drop (x5_1 : Int).toNat)) := ⟨_, rfl⟩
    replace H : (some y1224) = some r := by first | (rw [hy1224]; with_reducible exact H) | (have H2_ := (Option.bind_some _ _).symm.trans H; rw [hy1224]; with_reducible exact H2_) | (have H2_ := (Option.bind_some _ _).symm.trans H; with_reducible exact H2_) | with_reducible exact H | (rw [hy1224]; exact H) | exact H
    have Ny1224 := Aside0.mk hy1224
    clear hy1224
    obtain rfl := Option.some.inj H
    try go_wp2
    have n0_ := Aside0.mk (b_e HB.out)
    clear HB
    have HB := n0_
    clear n0_
    obtain ⟨i031, hi031, _, hsz31, _⟩ := info_parts info9
    obtain ⟨hcut31, hA31, hC31⟩ := print_take_of (P := Try.prog) Value.string (⟨#[]⟩ : ByteArray) 24 9 .i64 Try.underlying24 hi031 hsz31 A0 c0 l0 x5_1 (of_decide_eq_true (by first | (with_reducible assumption) | assumption)) (of_decide_eq_true (by first | (with_reducible assumption) | assumption)) HC0.out
    have HR1213 := Aside0.mk (Kd.C_of_reads (h1 := fun _ => rfl) (hA31 _ (Kd.reads_of_C HR0.out)))
    have HC1213 := Aside0.mk hC31
    clear hA31 hC31 hi031 hsz31
    obtain ⟨i032, hi032, _, hsz32, _⟩ := info_parts info9
    obtain ⟨A32, hcut32, hA32, hC32⟩ := print_drop_of (P := Try.prog) Value.string (⟨#[]⟩ : ByteArray) 24 9 .i64 Try.underlying24 hi032 hsz32 A0 c0 l0 x5_1 (of_decide_eq_true (by first | (with_reducible assumption) | assumption)) (of_decide_eq_true (by first | (with_reducible assumption) | assumption)) HC0.out
    have HR1223 := Aside0.mk (Kd.C_of_reads (h1 := fun _ => rfl) (hA32 _ (Kd.reads_of_C HR0.out)))
    have HC1223 := Aside0.mk hC32
    clear hA32 hC32 hi032 hsz32
    refine start_ (n := 12) (S := fun w' => True) (ds := []) (bs_ 12 0) (by kernel_rfl) rfl rfl trivial (fun hHeld => ?_); refine with_tabW spec_deWith.tab4 spec_deWith.bits4 (fun HT_ HW_ => ?_)
    generalize wr.drew = w30 at HB HR1213 HR1223 hHeld ⊢
    refine pua 0 20 (bs_ 12 1) HT_ ?_
    refine pua 1 21 (bs_ 12 3) HT_ ?_
    refine pua 2 22 (bs_ 12 7) HT_ ?_
    refine pua 4 24 (bs_ 12 23) HT_ ?_
    refine pua 7 27 (bs_ 12 151) HT_ ?_
    refine pua 8 28 (bs_ 12 407) HT_ ?_
    refine pua 9 29 (bs_ 12 919) HT_ ?_
    refine join_ (σ := Value × Value) 3 (bs_ 12 959) (fun s_ => [(23, s_.1), (25, s_.2)]) (fun s_ w' => (Kd.R Kd.string 9 w' w.heap.size (fun k_ => some k_ ≠ (s_.2 : Value).ownBlock) s_.1 t1214) ∧ (Kd.R Kd.string 9 w' w.heap.size (fun k_ => some k_ ≠ (s_.1 : Value).ownBlock) s_.2 y1217) ∧ (Below w.heap.size w w')) ?_ ?_
    rotate_left
    · intro hCont
      refine two_ (i := 3) (j := 5) (Ni := some 23) (Nj := some 25) (bs_ 12 927) (bs_ 12 951) rfl rfl rfl rfl (two_of HT_.out (by kernel_rfl)) (by decide) (by decide) (fun K hK => ?_) (fun K hK => ?_)
      rotate_left
      · skip
        refine Kd.R_lit_step Kd.string _ 9 ?hg (N := 25) ?hd (xs := ([a1] : List ByteArray)) (inner := [.string a1]) (ok := fun _ => True) (okp := fun _ => True) ?hr ?hp (fun _ hk => hk) trivial (Below.refl _ _) (Nat.le_refl _) (by simp) ?_; (case hd => rfl); (case hg => rfl); (case hr => first | (go_simp; done) | (go_simp; rfl)); (case hp => exact (Reps.one (show Kd.M Kd.string _ _ _ a1 [.string a1] from rfl) (Reps.none _ _)))
        intro v1218 w33 ho34 hb hg_ hnew_
        clear hg_ hnew_
        (first | rw [← Ny1217.out] at ho34 | (simp only [Int.reduceToNat] at ho34; rw [← Ny1217.out] at ho34))
        have n0_ := Aside0.mk (Kd.R_lower ho34 (below_size (bB HB)))
        have n1_ := bsx hb HB
        clear HB
        have HO1219 := n0_
        have HB := n1_
        clear n0_ n1_
        clear hb ho34
        refine hK.out _ _ trivial (fun hHeld => ?_)
        clear hK K
        refine norm_ (a' := ?_) ?_ ?_
        rotate_left
        · show Act.put _ (some 25) _ = _
          simp only [Act.put, s_1, s_2, s_3, i64_w, i32_w]
          rfl
        refine one_ (i := 3) (N := some 23) (bs_ 12 959) rfl rfl (one_of HT_.out (by kernel_rfl)) (by decide) (fun K hK => ?_)
        refine goes_ Try.func131 (by kernel_rfl) rfl #[.slice A0 (l0.take (x5_1 : Int).toNat).length c0] (by rfl) rfl rfl (by (try simp only [m_1, m_2, m_3]); first | done | (rw [show (l0.take (x5_1 : Int).toNat).length = x5_1.toNat from (by rw [m_5]; have h_ : (x5_1 : Int) ≤ (l0.length : Int) := of_decide_eq_true (by first | (with_reducible assumption) | assumption); omega)] <;> rfl) | rfl | (simp only [m_4, m_5]; rfl)) ?_
        with_reducible refine (spec_l1OwnS.calls _ _ (l0.take (x5_1 : Int).toNat) t1214 _ ?side1 ?side2 A25.out).mono ?_
        (case side1 => repeat (first | exact (Kd.C_below HR1213.out HB.out) | (with_reducible refine Kd.C_alloc ?_ _) | (with_reducible refine Kd.C_drewN ?_ _) | (with_reducible refine Kd.C_drew ?_)))
        (case side2 => exact HC1213.out)
        rintro e w35 ⟨v1215, rfl, ho0, hb⟩
        refine ⟨_, rfl, ?_⟩
        have n0_ := Aside0.mk (Kd.R_elder' (by (with_reducible repeat (first | apply r_a | apply r_d | apply r_e)); exact HO1219.out) (Kd.R_base ho0) hb)
        have n1_ := Aside0.mk (Kd.R_lower (Kd.R_new' ho0 (Kd.R_lt (by (with_reducible repeat (first | apply r_a | apply r_d | apply r_e)); exact HO1219.out))) (below_size (bB HB)))
        have n2_ := bsx hb HB
        clear HO1219
        clear HB
        have HO1219 := n0_
        have HO1216 := n1_
        have HB := n2_
        clear n0_ n1_ n2_
        (try clear hb)
        (try clear hb2)
        (try clear hk)
        (try clear hi)
        (try clear ho0)
        refine hK.out _ _ trivial (fun hHeld => ?_)
        clear hK K
        refine norm_ (a' := ?_) ?_ ?_
        rotate_left
        · show Act.put _ (some 23) _ = _
          simp only [Act.put, s_1, s_2, s_3, i64_w, i32_w]
          rfl
        exact norm_ (by simp only [putAll, Act.put, s_1, s_2, s_3]) (hCont (v1215, v1218) _ ⟨(by (with_reducible repeat (first | apply r_a | apply r_d | apply r_e)); exact Kd.R_mono HO1216.out (fun _ hk => hk.2)), (by (with_reducible repeat (first | apply r_a | apply r_d | apply r_e)); exact Kd.R_mono HO1219.out (fun _ hk => hk.2)), (bB HB)⟩)
      skip
      refine goes_ Try.func131 (by kernel_rfl) rfl #[.slice A0 (l0.take (x5_1 : Int).toNat).length c0] (by rfl) rfl rfl (by (try simp only [m_1, m_2, m_3]); first | done | (rw [show (l0.take (x5_1 : Int).toNat).length = x5_1.toNat from (by rw [m_5]; have h_ : (x5_1 : Int) ≤ (l0.length : Int) := of_decide_eq_true (by first | (with_reducible assumption) | assumption); omega)] <;> rfl) | rfl | (simp only [m_4, m_5]; rfl)) ?_
      with_reducible refine (spec_l1OwnS.calls _ _ (l0.take (x5_1 : Int).toNat) t1214 _ ?side1 ?side2 A25.out).mono ?_
      (case side1 => repeat (first | exact (Kd.C_below HR1213.out HB.out) | (with_reducible refine Kd.C_alloc ?_ _) | (with_reducible refine Kd.C_drewN ?_ _) | (with_reducible refine Kd.C_drew ?_)))
      (case side2 => exact HC1213.out)
      rintro e w33 ⟨v1215, rfl, ho0, hb⟩
      refine ⟨_, rfl, ?_⟩
      have n0_ := Aside0.mk (Kd.R_lower ho0 (below_size (bB HB)))
      have n1_ := bsx hb HB
      clear HB
      have HO1216 := n0_
      have HB := n1_
      clear n0_ n1_
      (try clear hb)
      (try clear hb2)
      (try clear hk)
      (try clear hi)
      (try clear ho0)
      refine hK.out _ _ trivial (fun hHeld => ?_)
      clear hK K
      refine norm_ (a' := ?_) ?_ ?_
      rotate_left
      · show Act.put _ (some 23) _ = _
        simp only [Act.put, s_1, s_2, s_3, i64_w, i32_w]
        rfl
      refine one_ (i := 5) (N := some 25) (bs_ 12 959) rfl rfl (one_of HT_.out (by kernel_rfl)) (by decide) (fun K hK => ?_)
      refine Kd.R_lit_step Kd.string _ 9 ?hg (N := 25) ?hd (xs := ([a1] : List ByteArray)) (inner := [.string a1]) (ok := fun _ => True) (okp := fun _ => True) ?hr ?hp (fun _ hk => hk) trivial (Below.refl _ _) (Nat.le_refl _) (by simp) ?_; (case hd => rfl); (case hg => rfl); (case hr => first | (go_simp; done) | (go_simp; rfl)); (case hp => exact (Reps.one (show Kd.M Kd.string _ _ _ a1 [.string a1] from rfl) (Reps.none _ _)))
      intro v1218 w34 ho35 hb hg_ hnew_
      clear hg_ hnew_
      (first | rw [← Ny1217.out] at ho35 | (simp only [Int.reduceToNat] at ho35; rw [← Ny1217.out] at ho35))
      have n0_ := Aside0.mk (Kd.R_elder' (by (with_reducible repeat (first | apply r_a | apply r_d | apply r_e)); exact HO1216.out) (Kd.R_base ho35) hb)
      have n1_ := Aside0.mk (Kd.R_lower (Kd.R_new' ho35 (Kd.R_lt (by (with_reducible repeat (first | apply r_a | apply r_d | apply r_e)); exact HO1216.out))) (below_size (bB HB)))
      have n2_ := bsx hb HB
      clear HO1216
      clear HB
      have HO1216 := n0_
      have HO1219 := n1_
      have HB := n2_
      clear n0_ n1_ n2_
      clear hb ho35
      refine hK.out _ _ trivial (fun hHeld => ?_)
      clear hK K
      refine norm_ (a' := ?_) ?_ ?_
      rotate_left
      · show Act.put _ (some 25) _ = _
        simp only [Act.put, s_1, s_2, s_3, i64_w, i32_w]
        rfl
      exact norm_ (by simp only [putAll, Act.put, s_1, s_2, s_3]) (hCont (v1215, v1218) _ ⟨(by (with_reducible repeat (first | apply r_a | apply r_d | apply r_e)); exact Kd.R_mono HO1216.out (fun _ hk => hk.2)), (by (with_reducible repeat (first | apply r_a | apply r_d | apply r_e)); exact Kd.R_mono HO1219.out (fun _ hk => hk.2)), (bB HB)⟩)
    rintro ⟨v1215, v1218⟩ w36 ⟨h0_, h1_, h2_⟩
    have n0_ : Aside0 (Kd.R Kd.string 9 w36 w.heap.size (fun k_ => some k_ ≠ (v1218 : Value).ownBlock) v1215 t1214) := ⟨h0_⟩
    have n1_ : Aside0 (Kd.R Kd.string 9 w36 w.heap.size (fun k_ => some k_ ≠ (v1215 : Value).ownBlock) v1218 y1217) := ⟨h1_⟩
    have n2_ : Aside0 (Below w.heap.size w w36) := ⟨h2_⟩
    clear HB
    clear h0_ h1_ h2_
    have HO1216 := n0_
    have HO1219 := n1_
    have HB := n2_
    clear n0_ n1_ n2_
    have hHeld := trivial
    obtain ⟨Ao38, co38, eo38⟩ := Kd.R_slice HO1219.out
    (first | subst eo38 | (injection eo38 with f1_ f2_ f3_; have f4_ := f1_.symm; have f5_ := f3_.symm; clear f1_ f2_ f3_; subst f4_; subst f5_))
    refine norm_ (a' := ?_) ?_ ?_
    rotate_left
    · simp only [putAll, Act.put, s_1, s_2, s_3]
      rfl
    refine one_ (i := 6) (N := some 26) (bs_ 12 1023) rfl rfl (one_of HT_.out (by kernel_rfl)) (by decide) (fun K hK => ?_)
    refine Kd.R_append_rows_step Kd.string (w0 := w) w.heap.size (by rfl) (.tmp 23) (.tmp 25) 24 9 (.string ⟨#[]⟩) 16 rfl Try.underlying24 info9 rfl (by decide) (by omega) v1215 t1214 y1217 _ _ _ (fun k_ => some k_ ≠ (.slice Ao38 y1217.length co38 : Value).ownBlock) (fun _ => False) rfl rfl ?aO ?aR (fun _ _ h => h) (fun _ h => h.elim) ?aF ?aB ?aS ?aL ?_
    (case aR => repeat (first | exact (Kd.R_reads' HO1219.out).2.2 | (with_reducible refine Kd.C_alloc ?_ _) | (with_reducible refine Kd.C_drewN ?_ _) | (with_reducible refine Kd.C_drew ?_)))
    (case aB => exact (bB HB))
    (case aF => exact (fun k_ hk => Kd.fresh' (Kd.R_lt (by (with_reducible repeat (first | apply r_a | apply r_d | apply r_e)); exact HO1219.out)) k_ hk))
    (case aO => exact (by (with_reducible repeat (first | apply r_a | apply r_d | apply r_e)); exact HO1216.out))
    (case aS => exact (below_size (bB HB)))
    (case aL => have := LMc26.out; omega)
    intro v1221 w37 ho hb hg hat
    rw [← Ny1220.out] at ho
    have n0_ := Aside0.mk (Kd.R_after (ok := (fun _ => True)) (by (with_reducible repeat (first | apply r_a | apply r_d | apply r_e)); exact Kd.R_mono HO1219.out (fun _ hk => ⟨trivial, hk⟩)) hg hat)
    have n1_ := Aside0.mk (hb)
    have n2_ := Aside0.mk (ho)
    clear HO1219
    clear HB
    clear HO1216
    have HO1219 := n0_
    have HB := n1_
    have HO1222 := n2_
    clear n0_ n1_ n2_
    clear ho hb hg hat
    refine hK.out _ _ trivial (fun hHeld => ?_)
    clear hK K
    refine norm_ (a' := ?_) ?_ ?_
    rotate_left
    · show Act.put _ (some 26) _ = _
      simp only [Act.put, s_1, s_2, s_3, i64_w, i32_w]
      rfl
    refine one_ (i := 10) (N := some 30) (bs_ 12 2047) rfl rfl (one_of HT_.out (by kernel_rfl)) (by decide) (fun K hK => ?_)
    refine Kd.R_append_rows_step Kd.string (w0 := w) w.heap.size (by rfl) (.tmp 26) (.tmp 29) 24 9 (.string ⟨#[]⟩) 16 rfl Try.underlying24 info9 rfl (by decide) (by omega) v1221 y1220 (l0.drop (x5_1 : Int).toNat) _ _ _ (fun k_ => some k_ ≠ (.slice Ao38 y1217.length co38 : Value).ownBlock) (fun _ => False) rfl rfl ?aO ?aR (fun _ _ h => h) (fun _ h => h.elim) ?aF ?aB ?aS ?aL ?_
    (case aR => first | (rw [← show (l0.drop (x5_1 : Int).toNat).length = (l0.length - x5_1.toNat) from m_4]; repeat (first | exact (Kd.C_below HR1223.out HB.out) | (with_reducible refine Kd.C_alloc ?_ _) | (with_reducible refine Kd.C_drewN ?_ _) | (with_reducible refine Kd.C_drew ?_))) | (repeat (first | exact (Kd.C_below HR1223.out HB.out) | (with_reducible refine Kd.C_alloc ?_ _) | (with_reducible refine Kd.C_drewN ?_ _) | (with_reducible refine Kd.C_drew ?_))))
    (case aB => exact (bB HB))
    (case aF => exact (fun k_ hk => Kd.fresh' (Kd.R_lt (by (with_reducible repeat (first | apply r_a | apply r_d | apply r_e)); exact HO1219.out)) k_ hk))
    (case aO => exact (by (with_reducible repeat (first | apply r_a | apply r_d | apply r_e)); exact HO1222.out))
    (case aS => exact (below_size (bB HB)))
    (case aL => have := LMc29.out; have hlx_ := (show (l0.drop (x5_1 : Int).toNat).length = (l0.length - x5_1.toNat) from m_4); omega)
    intro v1225 w39 ho hb hg hat
    rw [← Ny1224.out] at ho
    have n0_ := Aside0.mk (Kd.R_after (ok := (fun _ => True)) (by (with_reducible repeat (first | apply r_a | apply r_d | apply r_e)); exact HO1219.out) hg hat)
    have n1_ := Aside0.mk (hb)
    have n2_ := Aside0.mk (ho)
    clear HO1219
    clear HB
    clear HO1222
    have HO1219 := n0_
    have HB := n1_
    have HO1226 := n2_
    clear n0_ n1_ n2_
    clear ho hb hg hat
    refine hK.out _ _ trivial (fun hHeld => ?_)
    clear hK K
    refine norm_ (a' := ?_) ?_ ?_
    rotate_left
    · show Act.put _ (some 30) _ = _
      simp only [Act.put, s_1, s_2, s_3, i64_w, i32_w]
      rfl
    refine pua 11 4 (bs_ 12 4095) HT_ ?_
    refine done_ (done_of HT_.out (by kernel_rfl)) ?_
    try go_wp2
    go_ret
    exact ⟨_, by first | rfl | (simp [errW_none, errW_some] <;> rfl) | (simp [*, errW_none, errW_some] <;> rfl), by (with_reducible repeat (first | apply r_a | apply r_d | apply r_e)); exact Kd.R_mono HO1226.out (fun _ hk => trivial), bB HB⟩
  rw [if_pos c3] at H
  have c3b0 : decide (x5_1 < (l0.length : Int)) = true := decide_eq_true c3
  clear c3
  by_cases c4 : 0 ≤ x5_1
  rotate_left
  · rw [if_neg c4] at H
    exact absurd H (by simp)
  rw [if_pos c4] at H
  have c4b0 : decide (0 ≤ x5_1) = true := decide_eq_true c4
  clear c4
  by_cases c5 : (Op.bytesLess ((rdOf ByteArray.empty l0 x5_1).toList) a1.toList) = true
  · rw [if_pos c5] at H
    have c5b0 : (Op.bytesLess ((rdOf ByteArray.empty l0 x5_1).toList) a1.toList) = true := c5
    clear c5
    have H' := Aside0.mk H
    clear H
    have p1198 : 0 ≤ (x5_1 : Int) := of_decide_eq_true (by first | (with_reducible assumption) | assumption)
    have q1198 : x5_1 < (l0.length : Int) := of_decide_eq_true (by first | (with_reducible assumption) | assumption)
    obtain ⟨ad1198, e1198, hx1198_0⟩ := Kd.at_string HR0.out x5_1 p1198 q1198
    cases e1198
    replace hx1198_0 := (HB.out.cell (World.block_lt_of_cell? w _ hx1198_0)).trans hx1198_0
    replace p1198 := eq_true p1198
    replace q1198 := eq_true q1198
    go_wp2
    go_roundg k1
    case measure => have := HK1.out; omega
    case rel => exact ⟨(wrap64 (x5_1 + 1)), (by first | rfl | (simp; done) | (simp [*]; done)), H', ⟨by have := HK1.out; omega⟩, ⟨bB HB⟩⟩
  rw [if_neg c5] at H
  have c5b0 : (Op.bytesLess ((rdOf ByteArray.empty l0 x5_1).toList) a1.toList) = false := by simpa using c5
  clear c5
  have c6b0 := eq_true (of_decide_eq_true (by first | (with_reducible assumption) | assumption) : 0 ≤ x5_1)
  by_cases c7 : x5_1 ≤ (l0.length : Int)
  rotate_left
  · rw [if_neg c7] at H
    exact absurd H (by simp)
  rw [if_pos c7] at H
  have c7b0 := eq_true c7
  have c7b1 : decide (x5_1 ≤ (l0.length : Int)) = true := decide_eq_true c7
  clear c7
  replace H := Option.bind_eq_some_iff.mp H
  obtain ⟨t1200, A80, H⟩ := H
  try dsimp only at H
  have A8 := Aside0.mk A80
  clear A80
  obtain ⟨y1203, hy1203⟩ : ∃ y_ : List ByteArray, y_ = (([a1] : List ByteArray)) := ⟨_, rfl⟩
  replace H : (if t1200.length + y1203.length < 8796093022208 then ((some (t1200 ++ y1203 : List ByteArray)).bind fun y1206 => (if y1206.length + (l0.drop (x5_1 : Int).toNat).length < 8796093022208 then (some (y1206 ++ (l0.drop (x5_1 : Int).toNat))) else (none))) else (none)) = some r := by first | (rw [hy1203]; with_reducible exact H) | (have H2_ := (Option.bind_some _ _).symm.trans H; rw [hy1203]; with_reducible exact H2_) | (have H2_ := (Option.bind_some _ _).symm.trans H; with_reducible exact H2_) | with_reducible exact H | (rw [hy1203]; exact H) | exact H
  have Ny1203 := Aside0.mk hy1203
  clear hy1203
  by_cases c9 : t1200.length + y1203.length < 8796093022208
  rotate_left
  · rw [if_neg c9] at H
    exact absurd H (by simp)
  rw [if_pos c9] at H
  have LMc9 := Aside0.mk c9
  clear c9
  obtain ⟨y1206, hy1206⟩ : ∃ y_ : List ByteArray, y_ = (t1200 ++ y1203) := ⟨_, rfl⟩
  replace H : (if y1206.length + (l0.drop (x5_1 : Int).toNat).length < 8796093022208 then (some (y1206 ++ (l0.drop (x5_1 : Int).toNat))) else (none)) = some r := by first | (rw [hy1206]; with_reducible exact H) | (have H2_ := (Option.bind_some _ _).symm.trans H; rw [hy1206]; with_reducible exact H2_) | (have H2_ := (Option.bind_some _ _).symm.trans H; with_reducible exact H2_) | with_reducible exact H | (rw [hy1206]; exact H) | exact H
  have Ny1206 := Aside0.mk hy1206
  clear hy1206
  have c10b0 := eq_true (of_decide_eq_true (by first | (with_reducible assumption) | assumption) : 0 ≤ x5_1)
  have c11b0 := eq_true (of_decide_eq_true (by first | (with_reducible assumption) | assumption) : x5_1 ≤ (l0.length : Int))
  by_cases c12 : y1206.length + (l0.drop (x5_1 : Int).toNat).length < 8796093022208
  rotate_left
  · rw [if_neg c12] at H
    exact absurd H (by simp)
  rw [if_pos c12] at H
  have LMc12 := Aside0.mk c12
  clear c12
  obtain ⟨y1210, hy1210⟩ : ∃ y_ : List ByteArray, y_ = (y1206 ++ (l0.drop (x5_1 : Int).toNat)) := ⟨_, rfl⟩
  replace H : (some y1210) = some r := by first | (rw [hy1210]; with_reducible exact H) | (have H2_ := (Option.bind_some _ _).symm.trans H; rw [hy1210]; with_reducible exact H2_) | (have H2_ := (Option.bind_some _ _).symm.trans H; with_reducible exact H2_) | with_reducible exact H | (rw [hy1210]; exact H) | exact H
  have Ny1210 := Aside0.mk hy1210
  clear hy1210
  obtain rfl := Option.some.inj H
  have p1198 : 0 ≤ (x5_1 : Int) := of_decide_eq_true (by first | (with_reducible assumption) | assumption)
  have q1198 : x5_1 < (l0.length : Int) := of_decide_eq_true (by first | (with_reducible assumption) | assumption)
  obtain ⟨ad1198, e1198, hx1198_0⟩ := Kd.at_string HR0.out x5_1 p1198 q1198
  cases e1198
  replace hx1198_0 := (HB.out.cell (World.block_lt_of_cell? w _ hx1198_0)).trans hx1198_0
  replace p1198 := eq_true p1198
  replace q1198 := eq_true q1198
  try go_wp2
  have n0_ := Aside0.mk (b_e HB.out)
  clear HB
  have HB := n0_
  clear n0_
  obtain ⟨i014, hi014, _, hsz14, _⟩ := info_parts info9
  obtain ⟨hcut14, hA14, hC14⟩ := print_take_of (P := Try.prog) Value.string (⟨#[]⟩ : ByteArray) 24 9 .i64 Try.underlying24 hi014 hsz14 (some ad1198) c0 l0 x5_1 (of_decide_eq_true (by first | (with_reducible assumption) | assumption)) (of_decide_eq_true (by first | (with_reducible assumption) | assumption)) HC0.out
  have HR1199 := Aside0.mk (Kd.C_of_reads (h1 := fun _ => rfl) (hA14 _ (Kd.reads_of_C HR0.out)))
  have HC1199 := Aside0.mk hC14
  clear hA14 hC14 hi014 hsz14
  obtain ⟨i015, hi015, _, hsz15, _⟩ := info_parts info9
  obtain ⟨A15, hcut15, hA15, hC15⟩ := print_drop_of (P := Try.prog) Value.string (⟨#[]⟩ : ByteArray) 24 9 .i64 Try.underlying24 hi015 hsz15 (some ad1198) c0 l0 x5_1 (of_decide_eq_true (by first | (with_reducible assumption) | assumption)) (of_decide_eq_true (by first | (with_reducible assumption) | assumption)) HC0.out
  have HR1209 := Aside0.mk (Kd.C_of_reads (h1 := fun _ => rfl) (hA15 _ (Kd.reads_of_C HR0.out)))
  have HC1209 := Aside0.mk hC15
  clear hA15 hC15 hi015 hsz15
  refine start_ (n := 12) (S := fun w' => True) (ds := []) (bs_ 12 0) (by kernel_rfl) rfl rfl trivial (fun hHeld => ?_); refine with_tabW spec_deWith.tab4 spec_deWith.bits4 (fun HT_ HW_ => ?_)
  generalize wr.drew = w13 at HB HR1199 HR1209 hHeld ⊢
  refine pua 0 20 (bs_ 12 1) HT_ ?_
  refine pua 1 21 (bs_ 12 3) HT_ ?_
  refine pua 2 22 (bs_ 12 7) HT_ ?_
  refine pua 4 24 (bs_ 12 23) HT_ ?_
  refine pua 7 27 (bs_ 12 151) HT_ ?_
  refine pua 8 28 (bs_ 12 407) HT_ ?_
  refine pua 9 29 (bs_ 12 919) HT_ ?_
  refine join_ (σ := Value × Value) 3 (bs_ 12 959) (fun s_ => [(23, s_.1), (25, s_.2)]) (fun s_ w' => (Kd.R Kd.string 9 w' w.heap.size (fun k_ => some k_ ≠ (s_.2 : Value).ownBlock) s_.1 t1200) ∧ (Kd.R Kd.string 9 w' w.heap.size (fun k_ => some k_ ≠ (s_.1 : Value).ownBlock) s_.2 y1203) ∧ (Below w.heap.size w w')) ?_ ?_
  rotate_left
  · intro hCont
    refine two_ (i := 3) (j := 5) (Ni := some 23) (Nj := some 25) (bs_ 12 927) (bs_ 12 951) rfl rfl rfl rfl (two_of HT_.out (by kernel_rfl)) (by decide) (by decide) (fun K hK => ?_) (fun K hK => ?_)
    rotate_left
    · skip
      refine Kd.R_lit_step Kd.string _ 9 ?hg (N := 25) ?hd (xs := ([a1] : List ByteArray)) (inner := [.string a1]) (ok := fun _ => True) (okp := fun _ => True) ?hr ?hp (fun _ hk => hk) trivial (Below.refl _ _) (Nat.le_refl _) (by simp) ?_; (case hd => rfl); (case hg => rfl); (case hr => first | (go_simp; done) | (go_simp; rfl)); (case hp => exact (Reps.one (show Kd.M Kd.string _ _ _ a1 [.string a1] from rfl) (Reps.none _ _)))
      intro v1204 w16 ho17 hb hg_ hnew_
      clear hg_ hnew_
      (first | rw [← Ny1203.out] at ho17 | (simp only [Int.reduceToNat] at ho17; rw [← Ny1203.out] at ho17))
      have n0_ := Aside0.mk (Kd.R_lower ho17 (below_size (bB HB)))
      have n1_ := bsx hb HB
      clear HB
      have HO1205 := n0_
      have HB := n1_
      clear n0_ n1_
      clear hb ho17
      refine hK.out _ _ trivial (fun hHeld => ?_)
      clear hK K
      refine norm_ (a' := ?_) ?_ ?_
      rotate_left
      · show Act.put _ (some 25) _ = _
        simp only [Act.put, s_1, s_2, s_3, i64_w, i32_w]
        rfl
      refine one_ (i := 3) (N := some 23) (bs_ 12 959) rfl rfl (one_of HT_.out (by kernel_rfl)) (by decide) (fun K hK => ?_)
      refine goes_ Try.func131 (by kernel_rfl) rfl #[.slice (some ad1198) (l0.take (x5_1 : Int).toNat).length c0] (by rfl) rfl rfl (by (try simp only [m_1, m_2, m_3]); first | done | (rw [show (l0.take (x5_1 : Int).toNat).length = x5_1.toNat from (by rw [m_5]; have h_ : (x5_1 : Int) ≤ (l0.length : Int) := of_decide_eq_true (by first | (with_reducible assumption) | assumption); omega)] <;> rfl) | rfl | (simp only [m_4, m_5]; rfl)) ?_
      with_reducible refine (spec_l1OwnS.calls _ _ (l0.take (x5_1 : Int).toNat) t1200 _ ?side1 ?side2 A8.out).mono ?_
      (case side1 => repeat (first | exact (Kd.C_below HR1199.out HB.out) | (with_reducible refine Kd.C_alloc ?_ _) | (with_reducible refine Kd.C_drewN ?_ _) | (with_reducible refine Kd.C_drew ?_)))
      (case side2 => exact HC1199.out)
      rintro e w18 ⟨v1201, rfl, ho0, hb⟩
      refine ⟨_, rfl, ?_⟩
      have n0_ := Aside0.mk (Kd.R_elder' (by (with_reducible repeat (first | apply r_a | apply r_d | apply r_e)); exact HO1205.out) (Kd.R_base ho0) hb)
      have n1_ := Aside0.mk (Kd.R_lower (Kd.R_new' ho0 (Kd.R_lt (by (with_reducible repeat (first | apply r_a | apply r_d | apply r_e)); exact HO1205.out))) (below_size (bB HB)))
      have n2_ := bsx hb HB
      clear HO1205
      clear HB
      have HO1205 := n0_
      have HO1202 := n1_
      have HB := n2_
      clear n0_ n1_ n2_
      (try clear hb)
      (try clear hb2)
      (try clear hk)
      (try clear hi)
      (try clear ho0)
      refine hK.out _ _ trivial (fun hHeld => ?_)
      clear hK K
      refine norm_ (a' := ?_) ?_ ?_
      rotate_left
      · show Act.put _ (some 23) _ = _
        simp only [Act.put, s_1, s_2, s_3, i64_w, i32_w]
        rfl
      exact norm_ (by simp only [putAll, Act.put, s_1, s_2, s_3]) (hCont (v1201, v1204) _ ⟨(by (with_reducible repeat (first | apply r_a | apply r_d | apply r_e)); exact Kd.R_mono HO1202.out (fun _ hk => hk.2)), (by (with_reducible repeat (first | apply r_a | apply r_d | apply r_e)); exact Kd.R_mono HO1205.out (fun _ hk => hk.2)), (bB HB)⟩)
    skip
    refine goes_ Try.func131 (by kernel_rfl) rfl #[.slice (some ad1198) (l0.take (x5_1 : Int).toNat).length c0] (by rfl) rfl rfl (by (try simp only [m_1, m_2, m_3]); first | done | (rw [show (l0.take (x5_1 : Int).toNat).length = x5_1.toNat from (by rw [m_5]; have h_ : (x5_1 : Int) ≤ (l0.length : Int) := of_decide_eq_true (by first | (with_reducible assumption) | assumption); omega)] <;> rfl) | rfl | (simp only [m_4, m_5]; rfl)) ?_
    with_reducible refine (spec_l1OwnS.calls _ _ (l0.take (x5_1 : Int).toNat) t1200 _ ?side1 ?side2 A8.out).mono ?_
    (case side1 => repeat (first | exact (Kd.C_below HR1199.out HB.out) | (with_reducible refine Kd.C_alloc ?_ _) | (with_reducible refine Kd.C_drewN ?_ _) | (with_reducible refine Kd.C_drew ?_)))
    (case side2 => exact HC1199.out)
    rintro e w16 ⟨v1201, rfl, ho0, hb⟩
    refine ⟨_, rfl, ?_⟩
    have n0_ := Aside0.mk (Kd.R_lower ho0 (below_size (bB HB)))
    have n1_ := bsx hb HB
    clear HB
    have HO1202 := n0_
    have HB := n1_
    clear n0_ n1_
    (try clear hb)
    (try clear hb2)
    (try clear hk)
    (try clear hi)
    (try clear ho0)
    refine hK.out _ _ trivial (fun hHeld => ?_)
    clear hK K
    refine norm_ (a' := ?_) ?_ ?_
    rotate_left
    · show Act.put _ (some 23) _ = _
      simp only [Act.put, s_1, s_2, s_3, i64_w, i32_w]
      rfl
    refine one_ (i := 5) (N := some 25) (bs_ 12 959) rfl rfl (one_of HT_.out (by kernel_rfl)) (by decide) (fun K hK => ?_)
    refine Kd.R_lit_step Kd.string _ 9 ?hg (N := 25) ?hd (xs := ([a1] : List ByteArray)) (inner := [.string a1]) (ok := fun _ => True) (okp := fun _ => True) ?hr ?hp (fun _ hk => hk) trivial (Below.refl _ _) (Nat.le_refl _) (by simp) ?_; (case hd => rfl); (case hg => rfl); (case hr => first | (go_simp; done) | (go_simp; rfl)); (case hp => exact (Reps.one (show Kd.M Kd.string _ _ _ a1 [.string a1] from rfl) (Reps.none _ _)))
    intro v1204 w17 ho18 hb hg_ hnew_
    clear hg_ hnew_
    (first | rw [← Ny1203.out] at ho18 | (simp only [Int.reduceToNat] at ho18; rw [← Ny1203.out] at ho18))
    have n0_ := Aside0.mk (Kd.R_elder' (by (with_reducible repeat (first | apply r_a | apply r_d | apply r_e)); exact HO1202.out) (Kd.R_base ho18) hb)
    have n1_ := Aside0.mk (Kd.R_lower (Kd.R_new' ho18 (Kd.R_lt (by (with_reducible repeat (first | apply r_a | apply r_d | apply r_e)); exact HO1202.out))) (below_size (bB HB)))
    have n2_ := bsx hb HB
    clear HO1202
    clear HB
    have HO1202 := n0_
    have HO1205 := n1_
    have HB := n2_
    clear n0_ n1_ n2_
    clear hb ho18
    refine hK.out _ _ trivial (fun hHeld => ?_)
    clear hK K
    refine norm_ (a' := ?_) ?_ ?_
    rotate_left
    · show Act.put _ (some 25) _ = _
      simp only [Act.put, s_1, s_2, s_3, i64_w, i32_w]
      rfl
    exact norm_ (by simp only [putAll, Act.put, s_1, s_2, s_3]) (hCont (v1201, v1204) _ ⟨(by (with_reducible repeat (first | apply r_a | apply r_d | apply r_e)); exact Kd.R_mono HO1202.out (fun _ hk => hk.2)), (by (with_reducible repeat (first | apply r_a | apply r_d | apply r_e)); exact Kd.R_mono HO1205.out (fun _ hk => hk.2)), (bB HB)⟩)
  rintro ⟨v1201, v1204⟩ w19 ⟨h0_, h1_, h2_⟩
  have n0_ : Aside0 (Kd.R Kd.string 9 w19 w.heap.size (fun k_ => some k_ ≠ (v1204 : Value).ownBlock) v1201 t1200) := ⟨h0_⟩
  have n1_ : Aside0 (Kd.R Kd.string 9 w19 w.heap.size (fun k_ => some k_ ≠ (v1201 : Value).ownBlock) v1204 y1203) := ⟨h1_⟩
  have n2_ : Aside0 (Below w.heap.size w w19) := ⟨h2_⟩
  clear HB
  clear h0_ h1_ h2_
  have HO1202 := n0_
  have HO1205 := n1_
  have HB := n2_
  clear n0_ n1_ n2_
  have hHeld := trivial
  obtain ⟨Ao21, co21, eo21⟩ := Kd.R_slice HO1205.out
  (first | subst eo21 | (injection eo21 with f1_ f2_ f3_; have f4_ := f1_.symm; have f5_ := f3_.symm; clear f1_ f2_ f3_; subst f4_; subst f5_))
  refine norm_ (a' := ?_) ?_ ?_
  rotate_left
  · simp only [putAll, Act.put, s_1, s_2, s_3]
    rfl
  refine one_ (i := 6) (N := some 26) (bs_ 12 1023) rfl rfl (one_of HT_.out (by kernel_rfl)) (by decide) (fun K hK => ?_)
  refine Kd.R_append_rows_step Kd.string (w0 := w) w.heap.size (by rfl) (.tmp 23) (.tmp 25) 24 9 (.string ⟨#[]⟩) 16 rfl Try.underlying24 info9 rfl (by decide) (by omega) v1201 t1200 y1203 _ _ _ (fun k_ => some k_ ≠ (.slice Ao21 y1203.length co21 : Value).ownBlock) (fun _ => False) rfl rfl ?aO ?aR (fun _ _ h => h) (fun _ h => h.elim) ?aF ?aB ?aS ?aL ?_
  (case aR => repeat (first | exact (Kd.R_reads' HO1205.out).2.2 | (with_reducible refine Kd.C_alloc ?_ _) | (with_reducible refine Kd.C_drewN ?_ _) | (with_reducible refine Kd.C_drew ?_)))
  (case aB => exact (bB HB))
  (case aF => exact (fun k_ hk => Kd.fresh' (Kd.R_lt (by (with_reducible repeat (first | apply r_a | apply r_d | apply r_e)); exact HO1205.out)) k_ hk))
  (case aO => exact (by (with_reducible repeat (first | apply r_a | apply r_d | apply r_e)); exact HO1202.out))
  (case aS => exact (below_size (bB HB)))
  (case aL => have := LMc9.out; omega)
  intro v1207 w20 ho hb hg hat
  rw [← Ny1206.out] at ho
  have n0_ := Aside0.mk (Kd.R_after (ok := (fun _ => True)) (by (with_reducible repeat (first | apply r_a | apply r_d | apply r_e)); exact Kd.R_mono HO1205.out (fun _ hk => ⟨trivial, hk⟩)) hg hat)
  have n1_ := Aside0.mk (hb)
  have n2_ := Aside0.mk (ho)
  clear HO1205
  clear HB
  clear HO1202
  have HO1205 := n0_
  have HB := n1_
  have HO1208 := n2_
  clear n0_ n1_ n2_
  clear ho hb hg hat
  refine hK.out _ _ trivial (fun hHeld => ?_)
  clear hK K
  refine norm_ (a' := ?_) ?_ ?_
  rotate_left
  · show Act.put _ (some 26) _ = _
    simp only [Act.put, s_1, s_2, s_3, i64_w, i32_w]
    rfl
  refine one_ (i := 10) (N := some 30) (bs_ 12 2047) rfl rfl (one_of HT_.out (by kernel_rfl)) (by decide) (fun K hK => ?_)
  refine Kd.R_append_rows_step Kd.string (w0 := w) w.heap.size (by rfl) (.tmp 26) (.tmp 29) 24 9 (.string ⟨#[]⟩) 16 rfl Try.underlying24 info9 rfl (by decide) (by omega) v1207 y1206 (l0.drop (x5_1 : Int).toNat) _ _ _ (fun k_ => some k_ ≠ (.slice Ao21 y1203.length co21 : Value).ownBlock) (fun _ => False) rfl rfl ?aO ?aR (fun _ _ h => h) (fun _ h => h.elim) ?aF ?aB ?aS ?aL ?_
  (case aR => first | (rw [← show (l0.drop (x5_1 : Int).toNat).length = (l0.length - x5_1.toNat) from m_4]; repeat (first | exact (Kd.C_below HR1209.out HB.out) | (with_reducible refine Kd.C_alloc ?_ _) | (with_reducible refine Kd.C_drewN ?_ _) | (with_reducible refine Kd.C_drew ?_))) | (repeat (first | exact (Kd.C_below HR1209.out HB.out) | (with_reducible refine Kd.C_alloc ?_ _) | (with_reducible refine Kd.C_drewN ?_ _) | (with_reducible refine Kd.C_drew ?_))))
  (case aB => exact (bB HB))
  (case aF => exact (fun k_ hk => Kd.fresh' (Kd.R_lt (by (with_reducible repeat (first | apply r_a | apply r_d | apply r_e)); exact HO1205.out)) k_ hk))
  (case aO => exact (by (with_reducible repeat (first | apply r_a | apply r_d | apply r_e)); exact HO1208.out))
  (case aS => exact (below_size (bB HB)))
  (case aL => have := LMc12.out; have hlx_ := (show (l0.drop (x5_1 : Int).toNat).length = (l0.length - x5_1.toNat) from m_4); omega)
  intro v1211 w22 ho hb hg hat
  rw [← Ny1210.out] at ho
  have n0_ := Aside0.mk (Kd.R_after (ok := (fun _ => True)) (by (with_reducible repeat (first | apply r_a | apply r_d | apply r_e)); exact HO1205.out) hg hat)
  have n1_ := Aside0.mk (hb)
  have n2_ := Aside0.mk (ho)
  clear HO1205
  clear HB
  clear HO1208
  have HO1205 := n0_
  have HB := n1_
  have HO1212 := n2_
  clear n0_ n1_ n2_
  clear ho hb hg hat
  refine hK.out _ _ trivial (fun hHeld => ?_)
  clear hK K
  refine norm_ (a' := ?_) ?_ ?_
  rotate_left
  · show Act.put _ (some 30) _ = _
    simp only [Act.put, s_1, s_2, s_3, i64_w, i32_w]
    rfl
  refine pua 11 4 (bs_ 12 4095) HT_ ?_
  refine done_ (done_of HT_.out (by kernel_rfl)) ?_
  try go_wp2
  go_ret
  exact ⟨_, by first | rfl | (simp [errW_none, errW_some] <;> rfl) | (simp [*, errW_none, errW_some] <;> rfl), by (with_reducible repeat (first | apply r_a | apply r_d | apply r_e)); exact Kd.R_mono HO1212.out (fun _ hk => trivial), bB HB⟩
/-! ### spec_NeededCodes: function 47 -/
mutual
def spec_NeededCodes.j0 : Nat → List ByteArray → ByteArray → ByteArray → Bool → Int → Int → Option (List ByteArray × Bool)
  | 0, _, _, _, _, _, _ => none
  | k + 1, x1, x2, x3, x26, x1228000, x1228001 => if x26 = true then (some (([] : List ByteArray), false)) else (spec_NeededCodes.l0 k x1 x2 x3 ([] : List ByteArray) 0 x1228000 x1228001)
def spec_NeededCodes.l0 : Nat → List ByteArray → ByteArray → ByteArray → List ByteArray → Int → Int → Int → Option (List ByteArray × Bool)
  | 0, _, _, _, _, _, _, _ => none
  | k + 1, x1, x2, x3, x10, x11, x1228000, x1228001 => (spec_whCount.f k x1228000 x1228001).bind fun t1230 => (if x11 < t1230 then ((spec_whOf.f k x1228000 x1228001 x11).bind fun t1231 => (if t1231.toList = x2.toList then (spec_NeededCodes.j2 k x1 x2 x3 x10 x11 t1231 true x1228000 x1228001) else (if t1231.toList = x3.toList then (spec_NeededCodes.j2 k x1 x2 x3 x10 x11 t1231 true x1228000 x1228001) else ((spec_l1HasS.f k x1 t1231).bind fun t1232 => (spec_NeededCodes.j2 k x1 x2 x3 x10 x11 t1231 t1232 x1228000 x1228001))))) else (some (x10, true)))
def spec_NeededCodes.j2 : Nat → List ByteArray → ByteArray → ByteArray → List ByteArray → Int → ByteArray → Bool → Int → Int → Option (List ByteArray × Bool)
  | 0, _, _, _, _, _, _, _, _, _ => none
  | k + 1, x1, x2, x3, x10, x11, x12, x48, x1228000, x1228001 => if x48 = true then (spec_NeededCodes.l0 k x1 x2 x3 x10 (wrap64 (x11 + 1)) x1228000 x1228001) else ((spec_deWith.f k x1 x12).bind fun t1233 => ((spec_deFew.f k x1228000 x1228001 t1233 x2 x3).bind fun t1236 => (if t1236 < 0 then (if x10.length < 8796093022208 then (spec_NeededCodes.l0 k x1 x2 x3 (x10 ++ [x12]) (wrap64 (x11 + 1)) x1228000 x1228001) else (none)) else (spec_NeededCodes.l0 k x1 x2 x3 x10 (wrap64 (x11 + 1)) x1228000 x1228001))))
end
def spec_NeededCodes.f (k : Nat) (a0_0 : Int) (a0_1 : Int) (l1 : List ByteArray) (a2 : ByteArray) (a3 : ByteArray) : Option (List ByteArray × Bool) := (spec_deTwo.f k a0_0 a0_1 l1 a2 a3).bind fun t1228 => (if t1228 = true then ((spec_deFew.f k a0_0 a0_1 l1 a2 a3).bind fun t1229 => (spec_NeededCodes.j0 k l1 a2 a3 (decide (t1229 < 0)) a0_0 a0_1)) else (spec_NeededCodes.j0 k l1 a2 a3 true a0_0 a0_1))
theorem spec_NeededCodes.mono_l : ∀ k, (∀ y0 y1 y2 y3 y4 y5, LeO (spec_NeededCodes.j0 k y0 y1 y2 y3 y4 y5) (spec_NeededCodes.j0 (k + 1) y0 y1 y2 y3 y4 y5)) ∧ (∀ y0 y1 y2 y3 y4 y5 y6, LeO (spec_NeededCodes.l0 k y0 y1 y2 y3 y4 y5 y6) (spec_NeededCodes.l0 (k + 1) y0 y1 y2 y3 y4 y5 y6)) ∧ (∀ y0 y1 y2 y3 y4 y5 y6 y7 y8, LeO (spec_NeededCodes.j2 k y0 y1 y2 y3 y4 y5 y6 y7 y8) (spec_NeededCodes.j2 (k + 1) y0 y1 y2 y3 y4 y5 y6 y7 y8))
  | 0 => ⟨fun _ _ _ _ _ _ r h => by simp [spec_NeededCodes.j0] at h, fun _ _ _ _ _ _ _ r h => by simp [spec_NeededCodes.l0] at h, fun _ _ _ _ _ _ _ _ _ r h => by simp [spec_NeededCodes.j2] at h⟩
  | k + 1 => by
    obtain ⟨ih0, ih1, ih2⟩ := spec_NeededCodes.mono_l k
    refine ⟨?_, ?_, ?_⟩
    · intro y0 y1 y2 y3 y4 y5
      unfold spec_NeededCodes.j0
      repeat' first
      | (with_reducible exact ih0 _ _ _ _ _ _)
      | (with_reducible exact ih1 _ _ _ _ _ _ _)
      | (with_reducible exact ih2 _ _ _ _ _ _ _ _ _)
      | (with_reducible exact spec_deFew.mono _ _ _ _ _ _)
      | (with_reducible exact spec_deTwo.mono _ _ _ _ _ _)
      | (with_reducible exact spec_deWith.mono _ _ _)
      | (with_reducible exact spec_l1HasS.mono _ _ _)
      | (with_reducible exact spec_whCount.mono _ _ _)
      | (with_reducible exact spec_whOf.mono _ _ _ _)
      | (with_reducible exact LeO.refl _)
      | (with_reducible exact LeO.none _)
      | (with_reducible refine LeO.ite ?_ ?_)
      | (with_reducible refine LeO.bind ?_ (fun _ => ?_))
      | exact ih0 _ _ _ _ _ _
      | exact ih1 _ _ _ _ _ _ _
      | exact ih2 _ _ _ _ _ _ _ _ _
      | exact spec_deFew.mono _ _ _ _ _ _
      | exact spec_deTwo.mono _ _ _ _ _ _
      | exact spec_deWith.mono _ _ _
      | exact spec_l1HasS.mono _ _ _
      | exact spec_whCount.mono _ _ _
      | exact spec_whOf.mono _ _ _ _
      | exact LeO.none _
      | refine LeO.ite ?_ ?_
      | refine LeO.bind ?_ (fun _ => ?_)
    · intro y0 y1 y2 y3 y4 y5 y6
      unfold spec_NeededCodes.l0
      repeat' first
      | (with_reducible exact ih0 _ _ _ _ _ _)
      | (with_reducible exact ih1 _ _ _ _ _ _ _)
      | (with_reducible exact ih2 _ _ _ _ _ _ _ _ _)
      | (with_reducible exact spec_deFew.mono _ _ _ _ _ _)
      | (with_reducible exact spec_deTwo.mono _ _ _ _ _ _)
      | (with_reducible exact spec_deWith.mono _ _ _)
      | (with_reducible exact spec_l1HasS.mono _ _ _)
      | (with_reducible exact spec_whCount.mono _ _ _)
      | (with_reducible exact spec_whOf.mono _ _ _ _)
      | (with_reducible exact LeO.refl _)
      | (with_reducible exact LeO.none _)
      | (with_reducible refine LeO.ite ?_ ?_)
      | (with_reducible refine LeO.bind ?_ (fun _ => ?_))
      | exact ih0 _ _ _ _ _ _
      | exact ih1 _ _ _ _ _ _ _
      | exact ih2 _ _ _ _ _ _ _ _ _
      | exact spec_deFew.mono _ _ _ _ _ _
      | exact spec_deTwo.mono _ _ _ _ _ _
      | exact spec_deWith.mono _ _ _
      | exact spec_l1HasS.mono _ _ _
      | exact spec_whCount.mono _ _ _
      | exact spec_whOf.mono _ _ _ _
      | exact LeO.none _
      | refine LeO.ite ?_ ?_
      | refine LeO.bind ?_ (fun _ => ?_)
    · intro y0 y1 y2 y3 y4 y5 y6 y7 y8
      unfold spec_NeededCodes.j2
      repeat' first
      | (with_reducible exact ih0 _ _ _ _ _ _)
      | (with_reducible exact ih1 _ _ _ _ _ _ _)
      | (with_reducible exact ih2 _ _ _ _ _ _ _ _ _)
      | (with_reducible exact spec_deFew.mono _ _ _ _ _ _)
      | (with_reducible exact spec_deTwo.mono _ _ _ _ _ _)
      | (with_reducible exact spec_deWith.mono _ _ _)
      | (with_reducible exact spec_l1HasS.mono _ _ _)
      | (with_reducible exact spec_whCount.mono _ _ _)
      | (with_reducible exact spec_whOf.mono _ _ _ _)
      | (with_reducible exact LeO.refl _)
      | (with_reducible exact LeO.none _)
      | (with_reducible refine LeO.ite ?_ ?_)
      | (with_reducible refine LeO.bind ?_ (fun _ => ?_))
      | exact ih0 _ _ _ _ _ _
      | exact ih1 _ _ _ _ _ _ _
      | exact ih2 _ _ _ _ _ _ _ _ _
      | exact spec_deFew.mono _ _ _ _ _ _
      | exact spec_deTwo.mono _ _ _ _ _ _
      | exact spec_deWith.mono _ _ _
      | exact spec_l1HasS.mono _ _ _
      | exact spec_whCount.mono _ _ _
      | exact spec_whOf.mono _ _ _ _
      | exact LeO.none _
      | refine LeO.ite ?_ ?_
      | refine LeO.bind ?_ (fun _ => ?_)
theorem spec_NeededCodes.mono : ∀ a0 a1 a2 a3 a4 k, LeO (spec_NeededCodes.f k a0 a1 a2 a3 a4) (spec_NeededCodes.f (k + 1) a0 a1 a2 a3 a4) := by
  intro a0 a1 a2 a3 a4 k
  obtain ⟨ih0, ih1, ih2⟩ := spec_NeededCodes.mono_l k
  unfold spec_NeededCodes.f
  repeat' first
      | (with_reducible exact ih0 _ _ _ _ _ _)
      | (with_reducible exact ih1 _ _ _ _ _ _ _)
      | (with_reducible exact ih2 _ _ _ _ _ _ _ _ _)
      | (with_reducible exact spec_deFew.mono _ _ _ _ _ _)
      | (with_reducible exact spec_deTwo.mono _ _ _ _ _ _)
      | (with_reducible exact spec_deWith.mono _ _ _)
      | (with_reducible exact spec_l1HasS.mono _ _ _)
      | (with_reducible exact spec_whCount.mono _ _ _)
      | (with_reducible exact spec_whOf.mono _ _ _ _)
      | (with_reducible exact LeO.refl _)
      | (with_reducible exact LeO.none _)
      | (with_reducible refine LeO.ite ?_ ?_)
      | (with_reducible refine LeO.bind ?_ (fun _ => ?_))
      | exact ih0 _ _ _ _ _ _
      | exact ih1 _ _ _ _ _ _ _
      | exact ih2 _ _ _ _ _ _ _ _ _
      | exact spec_deFew.mono _ _ _ _ _ _
      | exact spec_deTwo.mono _ _ _ _ _ _
      | exact spec_deWith.mono _ _ _
      | exact spec_l1HasS.mono _ _ _
      | exact spec_whCount.mono _ _ _
      | exact spec_whOf.mono _ _ _ _
      | exact LeO.none _
      | refine LeO.ite ?_ ?_
      | refine LeO.bind ?_ (fun _ => ?_)
def spec_NeededCodes.T9 : Bool × List (List Nat × List Nat) := (true, [([], []), ([], []), ([], []), ([1, 2], [1, 2]), ([], []), ([], []), ([0, 3, 4, 5, 3], [0, 3, 4, 5]), ([6], [6])])
def spec_NeededCodes.B9 : List Nat := [0, 0, 0, 6, 0, 0, 63, 127]
theorem spec_NeededCodes.tab9 : rtab .any (opsOf Try.f47 9) = spec_NeededCodes.T9 := by kernel_rfl
theorem spec_NeededCodes.bits9 : waitsOk spec_NeededCodes.T9.2 spec_NeededCodes.B9 = true := by kernel_rfl
set_option maxHeartbeats 8000000 in
set_option maxRecDepth 100000 in
theorem spec_NeededCodes.calls (k : Nat) (a0_0 : Int) (a0_1 : Int) (A1 : Option Addr) (c1 : Nat) (l1 : List ByteArray) (a2 : ByteArray) (a3 : ByteArray) (r1 : List ByteArray) (r2 : Bool) (w : World) (hr1 : Kd.C Kd.string w A1 l1.length l1) (hc1 : l1.length ≤ c1) (h : spec_NeededCodes.f k a0_0 a0_1 l1 a2 a3 = some (r1, r2)) :
    Calls Try.prog 47 #[.agg #[.int .i64 a0_0, .int .i64 a0_1], .slice A1 l1.length c1, .string a2, .string a3] w fun e w' => ∃ v0_ : Value, e = .returned (.tuple #[v0_, .bool r2]) ∧ Kd.R Kd.string 9 w' w.heap.size (fun _ => True) v0_ r1 ∧ Below w.heap.size w w' := by
  have hu28 := Try.underlying28
  have HR1 := Aside0.mk hr1
  have HC1 := Aside0.mk hc1
  clear hr1 hc1
  have HB := Aside0.mk (Below.refl w.heap.size w)
  have H : ((spec_deTwo.f k a0_0 a0_1 l1 a2 a3).bind fun t1228 => (if t1228 = true then ((spec_deFew.f k a0_0 a0_1 l1 a2 a3).bind fun t1229 => (spec_NeededCodes.j0 k l1 a2 a3 (decide (t1229 < 0)) a0_0 a0_1)) else (spec_NeededCodes.j0 k l1 a2 a3 true a0_0 a0_1))) = some (r1, r2) := h
  clear h
  have HC5 := Aside0.mk H
  clear H
  go_enter Try.func47, Try.ntmps47
  go_upto_region 1 with (first | ((with_reducible refine gate_dst (N := 4) rfl ?_); refine box_event ?hg (N := 4) ?hd (cs := #[.int .i64 a0_0, .int .i64 a0_1]) (t := 28) ?hr ?_; (case hd => rfl); (case hg => rfl); (case hr => first | (go_simp; done) | (go_simp; rfl)); intro gb1227 hg w6 hbox hb; have n0_ := bsx hb HB; have n1_ := Aside0.mk (hbox); have n2_ := gwx hg HB; have n3_ := n2_; clear HB; have HB := n0_; have BK1227 := n1_; have GW1227 := n2_; have GE1227 := n3_; clear n0_ n1_ n2_ n3_; clear hb hbox hg))
  (try simp only [Act.put, s_1, s_2, s_3])
  go_cut [26] (fun v26 wc => ∃ (kq : Nat) (x26_4 : Bool), v26 = .bool x26_4 ∧ Aside0 (spec_NeededCodes.j0 kq l1 a2 a3 x26_4 a0_0 a0_1 = some (r1, r2)) ∧ Aside0 (kq ≤ k) ∧ Aside0 (wc.heap[gb1227]? = some (.cells #[.int .i64 a0_0, .int .i64 a0_1] 28 (0, 0))) ∧ Aside0 (Below w.heap.size w wc))
  case first =>
    have H := HC5.out
    clear HC5
    replace H := Option.bind_eq_some_iff.mp H
    obtain ⟨t1228, A70, H⟩ := H
    try dsimp only at H
    have A7 := Aside0.mk A70
    clear A70
    by_cases c8 : t1228 = true
    rotate_left
    · replace c8 := Bool.eq_false_iff.mpr c8
      subst c8
      rw [if_neg (show ¬ (false = true) by decide)] at H
      have H' := Aside0.mk H
      clear H
      have hcz14_0 := cz0 BK1227
      have hcz14_1 := cz1 BK1227
      have hfz14_0 := blk_frozen BK1227.out 0
      have hfz14_1 := blk_frozen BK1227.out 1
      go_wp2_with (first | ((with_reducible refine gate_callee (f := 92) rfl ?_); refine goesL_ (some 17) rfl rfl Try.func92 (by kernel_rfl) rfl #[.agg #[.int .i64 a0_0, .int .i64 a0_1], .slice A1 l1.length c1, .string a2, .string a3] rfl (by (try simp only [m_1, m_2, m_3]); first | done | rfl | (simp only [m_4, m_5]; rfl)) ?_; (with_reducible refine (spec_deTwo.calls k a0_0 a0_1 _ _ l1 a2 a3 false _ ?side1 ?side2 A7.out).mono ?_); (case side1 => repeat (first | exact (Kd.C_below HR1.out HB.out) | (with_reducible refine Kd.C_alloc ?_ _) | (with_reducible refine Kd.C_drewN ?_ _) | (with_reducible refine Kd.C_drew ?_))); (case side2 => exact HC1.out); rintro e w15 ⟨rfl, hb⟩; refine ⟨_, rfl, ?_⟩; replace BK1227 := bbx hb BK1227; replace HB := bsx hb HB; skip; (try clear hb); (try clear hb2); (try clear hk); (try clear hi)))
      go_meet
      case rel => exact ⟨_, (true), (by first | rfl | (simp; done) | (simp [*]; done)), H', ⟨by first | omega | exact Nat.le_refl _⟩, ⟨bK BK1227⟩, ⟨bB HB⟩⟩
    subst c8
    rw [if_pos rfl] at H
    replace H := Option.bind_eq_some_iff.mp H
    obtain ⟨t1229, A90, H⟩ := H
    try dsimp only at H
    have A9 := Aside0.mk A90
    clear A90
    have H' := Aside0.mk H
    clear H
    have hcz10_0 := cz0 BK1227
    have hcz10_1 := cz1 BK1227
    have hfz10_0 := blk_frozen BK1227.out 0
    have hfz10_1 := blk_frozen BK1227.out 1
    go_wp2_with (first | ((with_reducible refine gate_callee (f := 92) rfl ?_); refine goesL_ (some 17) rfl rfl Try.func92 (by kernel_rfl) rfl #[.agg #[.int .i64 a0_0, .int .i64 a0_1], .slice A1 l1.length c1, .string a2, .string a3] rfl (by (try simp only [m_1, m_2, m_3]); first | done | rfl | (simp only [m_4, m_5]; rfl)) ?_; (with_reducible refine (spec_deTwo.calls k a0_0 a0_1 _ _ l1 a2 a3 true _ ?side1 ?side2 A7.out).mono ?_); (case side1 => repeat (first | exact (Kd.C_below HR1.out HB.out) | (with_reducible refine Kd.C_alloc ?_ _) | (with_reducible refine Kd.C_drewN ?_ _) | (with_reducible refine Kd.C_drew ?_))); (case side2 => exact HC1.out); rintro e w11 ⟨rfl, hb⟩; refine ⟨_, rfl, ?_⟩; replace BK1227 := bbx hb BK1227; replace HB := bsx hb HB; skip; (try clear hb); (try clear hb2); (try clear hk); (try clear hi); have hcz12_0 := cz0 BK1227; have hcz12_1 := cz1 BK1227; have hfz12_0 := blk_frozen BK1227.out 0; have hfz12_1 := blk_frozen BK1227.out 1) | (go_at_call 93; (with_reducible refine (spec_deFew.calls k a0_0 a0_1 _ _ l1 a2 a3 t1229 _ ?side1 ?side2 A9.out).mono ?_); (case side1 => repeat (first | exact (Kd.C_below HR1.out HB.out) | (with_reducible refine Kd.C_alloc ?_ _) | (with_reducible refine Kd.C_drewN ?_ _) | (with_reducible refine Kd.C_drew ?_))); (case side2 => exact HC1.out); rintro e w13 ⟨rfl, hb⟩; replace BK1227 := bbx hb BK1227; replace HB := bsx hb HB; skip; (try clear hb); (try clear hb2); (try clear hk); (try clear hi)))
    go_meet
    case rel => exact ⟨_, (decide (t1229 < 0)), (by first | rfl | (simp; done) | (simp [*]; done)), H', ⟨by first | omega | exact Nat.le_refl _⟩, ⟨bK BK1227⟩, ⟨bB HB⟩⟩
  clear HC5
  try clear c1
  obtain ⟨kq, x26_4, rfl, HA, HJ4, BK1227, HB⟩ := hcut
  rcases kq with _ | kj4
  · exact absurd HA.out (by simp [spec_NeededCodes.j0])
  have H := HA.out
  clear HA
  simp only [spec_NeededCodes.j0] at H
  by_cases c16 : x26_4 = true
  · subst c16
    rw [if_pos rfl] at H
    simp only [Option.some.injEq, Prod.mk.injEq] at H
    obtain ⟨rfl, rfl⟩ := H
    go_wp2
    go_ret2
    exact ⟨_, by first | rfl | (simp [errW_none, errW_some] <;> rfl) | (simp [*, errW_none, errW_some] <;> rfl), by first | exact Kd.R_nil _ _ _ _ _ | exact Kd.N_nil _ _ _ _ _ | exact Kd.V_nil _ _ _ _ _ | exact Kd.Q_nil _ _ _ _ _ | exact Kd.S_nil _ _ _ _ _, bB HB⟩
  replace c16 := Bool.eq_false_iff.mpr c16
  subst c16
  rw [if_neg (show ¬ (false = true) by decide)] at H
  have H' := Aside0.mk H
  clear H
  go_wp2
  go_loopg [10, 11] kj4 (fun kq v10 v11 w' => ∃ (x10_2 : List ByteArray) (x11_2 : Int), v11 = .int .i64 x11_2 ∧ Aside0 (spec_NeededCodes.l0 kq l1 a2 a3 x10_2 x11_2 a0_0 a0_1 = some (r1, r2)) ∧ Aside0 (kq ≤ kj4) ∧ Aside0 (Kd.R Kd.string 9 w' w.heap.size (fun _ => True) v10 x10_2) ∧ Aside0 (w'.heap[gb1227]? = some (.cells #[.int .i64 a0_0, .int .i64 a0_1] 28 (0, 0))) ∧ Aside0 (Below w.heap.size w w'))
  case atStart => exact ⟨(([] : List ByteArray)), (0), (by first | rfl | (simp; done) | (simp [*]; done)), H', ⟨Nat.le_refl _⟩, ⟨by first | exact Kd.R_nil _ _ _ _ _ | exact Kd.N_nil _ _ _ _ _ | exact Kd.V_nil _ _ _ _ _ | exact Kd.Q_nil _ _ _ _ _ | exact Kd.S_nil _ _ _ _ _⟩, ⟨bK BK1227⟩, ⟨bB HB⟩⟩
  clear H'
  try clear c16
  obtain ⟨x10_2, x11_2, rfl, HA, HK2, HO_10, BK1227, HB⟩ := hrel
  rcases gk with _ | k2
  · exact absurd HA.out (by simp [spec_NeededCodes.l0])
  have H := HA.out
  clear HA
  simp only [spec_NeededCodes.l0] at H
  replace H := Option.bind_eq_some_iff.mp H
  obtain ⟨t1230, A170, H⟩ := H
  try dsimp only at H
  have A17 := Aside0.mk A170
  clear A170
  by_cases c18 : x11_2 < t1230
  rotate_left
  · rw [if_neg c18] at H
    have c18b0 : decide (x11_2 < t1230) = false := decide_eq_false c18
    clear c18
    simp only [Option.some.injEq, Prod.mk.injEq] at H
    obtain ⟨rfl, rfl⟩ := H
    have hcz42_0 := cz0 BK1227
    have hcz42_1 := cz1 BK1227
    have hfz42_0 := blk_frozen BK1227.out 0
    have hfz42_1 := blk_frozen BK1227.out 1
    go_wp2_with (first | ((with_reducible refine gate_callee (f := 94) rfl ?_); refine goesL_ (some 29) rfl rfl Try.func94 (by kernel_rfl) rfl #[.agg #[.int .i64 a0_0, .int .i64 a0_1]] rfl (by (try simp only [m_1, m_2, m_3]); first | done | rfl | (simp only [m_4, m_5]; rfl)) ?_; (with_reducible refine (spec_whCount.calls k2 a0_0 a0_1 t1230 _ A17.out).mono ?_); rintro e w43 ⟨rfl, hb⟩; refine ⟨_, rfl, ?_⟩; have n0_ := Aside0.mk (Kd.R_below (by (with_reducible repeat (first | apply r_a | apply r_d | apply r_e)); exact HO_10.out) hb); replace BK1227 := bbx hb BK1227; replace HB := bsx hb HB; clear HO_10; have HO_10 := n0_; clear n0_; (try clear hb); (try clear hb2); (try clear hk); (try clear hi)))
    go_ret2
    exact ⟨_, by first | rfl | (simp [errW_none, errW_some] <;> rfl) | (simp [*, errW_none, errW_some] <;> rfl), by (with_reducible repeat (first | apply r_a | apply r_d | apply r_e)); exact HO_10.out, bB HB⟩

  rw [if_pos c18] at H
  have c18b0 : decide (x11_2 < t1230) = true := decide_eq_true c18
  clear c18
  replace H := Option.bind_eq_some_iff.mp H
  obtain ⟨t1231, A190, H⟩ := H
  try dsimp only at H
  have A19 := Aside0.mk A190
  clear A190
  have HC20 := Aside0.mk H
  clear H
  have hcz21_0 := cz0 BK1227
  have hcz21_1 := cz1 BK1227
  have hfz21_0 := blk_frozen BK1227.out 0
  have hfz21_1 := blk_frozen BK1227.out 1
  go_upto_region 8 with (first | ((with_reducible refine gate_callee (f := 94) rfl ?_); refine goesL_ (some 29) rfl rfl Try.func94 (by kernel_rfl) rfl #[.agg #[.int .i64 a0_0, .int .i64 a0_1]] rfl (by (try simp only [m_1, m_2, m_3]); first | done | rfl | (simp only [m_4, m_5]; rfl)) ?_; (with_reducible refine (spec_whCount.calls k2 a0_0 a0_1 t1230 _ A17.out).mono ?_); rintro e w22 ⟨rfl, hb⟩; refine ⟨_, rfl, ?_⟩; have n0_ := Aside0.mk (Kd.R_below (by (with_reducible repeat (first | apply r_a | apply r_d | apply r_e)); exact HO_10.out) hb); replace BK1227 := bbx hb BK1227; replace HB := bsx hb HB; clear HO_10; have HO_10 := n0_; clear n0_; (try clear hb); (try clear hb2); (try clear hk); (try clear hi); have hcz23_0 := cz0 BK1227; have hcz23_1 := cz1 BK1227; have hfz23_0 := blk_frozen BK1227.out 0; have hfz23_1 := blk_frozen BK1227.out 1) | ((with_reducible refine gate_callee (f := 95) rfl ?_); refine goesL_ (some 35) rfl rfl Try.func95 (by kernel_rfl) rfl #[.agg #[.int .i64 a0_0, .int .i64 a0_1], .int .i64 x11_2] rfl (by (try simp only [m_1, m_2, m_3]); first | done | rfl | (simp only [m_4, m_5]; rfl)) ?_; (with_reducible refine (spec_whOf.calls k2 a0_0 a0_1 x11_2 t1231 _ A19.out).mono ?_); rintro e w24 ⟨rfl, hb⟩; refine ⟨_, rfl, ?_⟩; have n0_ := Aside0.mk (Kd.R_below (by (with_reducible repeat (first | apply r_a | apply r_d | apply r_e)); exact HO_10.out) hb); replace BK1227 := bbx hb BK1227; replace HB := bsx hb HB; clear HO_10; have HO_10 := n0_; clear n0_; (try clear hb); (try clear hb2); (try clear hk); (try clear hi)))
  (try simp only [Act.put, s_1, s_2, s_3])
  go_cut [48] (fun v48 wc => ∃ (kq : Nat) (x48_19 : Bool), v48 = .bool x48_19 ∧ Aside0 (spec_NeededCodes.j2 kq l1 a2 a3 x10_2 x11_2 t1231 x48_19 a0_0 a0_1 = some (r1, r2)) ∧ Aside0 (kq ≤ k2) ∧ Aside0 (Kd.R Kd.string 9 wc w.heap.size (fun _ => True) u10 x10_2) ∧ Aside0 (wc.heap[gb1227]? = some (.cells #[.int .i64 a0_0, .int .i64 a0_1] 28 (0, 0))) ∧ Aside0 (Below w.heap.size w wc))
  case first =>
    have H := HC20.out
    clear HC20
    by_cases c25 : t1231.toList = a2.toList
    · rw [if_pos c25] at H
      have c25b0 : (t1231.toList == a2.toList) = true := beq_iff_eq.mpr c25
      have c25b1 : (t1231.toList != a2.toList) = false := bne_eq_false_iff_eq.mpr c25
      clear c25
      (first | rw [c25b0] | (simp only [i64_w, i32_w]; rw [c25b0]) | skip)
      have H' := Aside0.mk H
      clear H
      go_wp2
      go_meet
      case rel => refine ⟨_, (true), (by first | rfl | (simp; done) | (simp [*]; done)), H', ⟨by have := HJ4.out; have := HK2.out; first | omega | exact Nat.le_refl _⟩, ⟨?_⟩, ⟨?_⟩, ⟨bB HB⟩⟩ <;> (with_reducible repeat (first | refine g_d ?_ _ | refine g_e ?_ | refine g_a ?_ _ | apply r_a | apply r_d | apply r_e)) <;> first | exact BK1227.out | exact HO_10.out
    rw [if_neg c25] at H
    have c25b0 : (t1231.toList == a2.toList) = false := beq_eq_false_iff_ne.mpr c25
    have c25b1 : (t1231.toList != a2.toList) = true := bne_iff_ne.mpr c25
    (first | rw [c25b0] | (simp only [i64_w, i32_w]; rw [c25b0]) | skip)
    by_cases c26 : t1231.toList = a3.toList
    · rw [if_pos c26] at H
      have c26b0 : (t1231.toList == a3.toList) = true := beq_iff_eq.mpr c26
      have c26b1 : (t1231.toList != a3.toList) = false := bne_eq_false_iff_eq.mpr c26
      clear c26
      have H' := Aside0.mk H
      clear H
      go_wp2
      go_meet
      case rel => refine ⟨_, (true), (by first | rfl | (simp; done) | (simp [*]; done)), H', ⟨by have := HJ4.out; have := HK2.out; first | omega | exact Nat.le_refl _⟩, ⟨?_⟩, ⟨?_⟩, ⟨bB HB⟩⟩ <;> (with_reducible repeat (first | refine g_d ?_ _ | refine g_e ?_ | refine g_a ?_ _ | apply r_a | apply r_d | apply r_e)) <;> first | exact BK1227.out | exact HO_10.out
    rw [if_neg c26] at H
    have c26b0 : (t1231.toList == a3.toList) = false := beq_eq_false_iff_ne.mpr c26
    have c26b1 : (t1231.toList != a3.toList) = true := bne_iff_ne.mpr c26
    replace H := Option.bind_eq_some_iff.mp H
    obtain ⟨t1232, A270, H⟩ := H
    try dsimp only at H
    have A27 := Aside0.mk A270
    clear A270
    have H' := Aside0.mk H
    clear H
    go_wp2_with (first | (go_at_call 86; (with_reducible refine (spec_l1HasS.calls k2 _ _ l1 t1231 t1232 _ ?side1 ?side2 A27.out).mono ?_); (case side1 => repeat (first | exact (Kd.C_below HR1.out HB.out) | (with_reducible refine Kd.C_alloc ?_ _) | (with_reducible refine Kd.C_drewN ?_ _) | (with_reducible refine Kd.C_drew ?_))); (case side2 => exact HC1.out); rintro e w' ⟨rfl, ⟨nd, rfl⟩⟩))
    go_meet
    case rel => refine ⟨_, (t1232), (by first | rfl | (simp; done) | (simp [*]; done)), H', ⟨by have := HJ4.out; have := HK2.out; first | omega | exact Nat.le_refl _⟩, ⟨?_⟩, ⟨?_⟩, ⟨bB HB⟩⟩ <;> (with_reducible repeat (first | refine g_d ?_ _ | refine g_e ?_ | refine g_a ?_ _ | apply r_a | apply r_d | apply r_e)) <;> first | exact BK1227.out | exact HO_10.out
  clear HC20
  try clear c18
  try clear c18b0
  try clear hcz21_0
  try clear hcz21_1
  try clear hcz23_0
  try clear hcz23_1
  try clear hfz21_0
  try clear hfz21_1
  try clear hfz23_0
  try clear hfz23_1
  obtain ⟨kq, x48_19, rfl, HA, HJ19, HO_10, BK1227, HB⟩ := hcut
  rcases kq with _ | kj19
  · exact absurd HA.out (by simp [spec_NeededCodes.j2])
  have H := HA.out
  clear HA
  simp only [spec_NeededCodes.j2] at H
  by_cases c28 : x48_19 = true
  · subst c28
    rw [if_pos rfl] at H
    have H' := Aside0.mk H
    clear H
    go_wp2
    go_roundg kj19
    case measure => have := HJ4.out; have := HK2.out; have := HJ19.out; omega
    case rel => refine ⟨(x10_2), (wrap64 (x11_2 + 1)), (by first | rfl | (simp; done) | (simp [*]; done)), H', ⟨by have := HJ4.out; have := HK2.out; have := HJ19.out; omega⟩, ⟨?_⟩, ⟨?_⟩, ⟨bB HB⟩⟩ <;> (with_reducible repeat (first | refine g_d ?_ _ | refine g_e ?_ | refine g_a ?_ _ | apply r_a | apply r_d | apply r_e)) <;> first | exact BK1227.out | exact HO_10.out
  replace c28 := Bool.eq_false_iff.mpr c28
  subst c28
  rw [if_neg (show ¬ (false = true) by decide)] at H
  replace H := Option.bind_eq_some_iff.mp H
  obtain ⟨t1233, A290, H⟩ := H
  try dsimp only at H
  have A29 := Aside0.mk A290
  clear A290
  replace H := Option.bind_eq_some_iff.mp H
  obtain ⟨t1236, A300, H⟩ := H
  try dsimp only at H
  have A30 := Aside0.mk A300
  clear A300
  by_cases c31 : t1236 < 0
  rotate_left
  · rw [if_neg c31] at H
    have c31b0 : decide (t1236 < 0) = false := decide_eq_false c31
    clear c31
    have H' := Aside0.mk H
    clear H
    try go_wp2
    have n0_ := Aside0.mk (r_e HO_10.out)
    have n1_ := Aside0.mk (g_e BK1227.out)
    have n2_ := Aside0.mk (b_e HB.out)
    clear HO_10
    clear BK1227
    clear HB
    have HO_10 := n0_
    have BK1227 := n1_
    have HB := n2_
    clear n0_ n1_ n2_
    refine start_ (n := 8) (S := fun w' => w'.cell? ⟨gb1227, 0, none⟩ = some (.int .i64 a0_0) ∧ w'.cell? ⟨gb1227, 1, none⟩ = some (.int .i64 a0_1)) (ds := []) (bs_ 8 0) (by kernel_rfl) rfl rfl ⟨(blk_cell BK1227.out 0).trans rfl, (blk_cell BK1227.out 1).trans rfl⟩ (fun hHeld => ?_); refine with_tabW spec_NeededCodes.tab9 spec_NeededCodes.bits9 (fun HT_ HW_ => ?_)
    generalize wc.drew = w38 at HO_10 BK1227 HB hHeld ⊢
    refine pua 1 50 (bs_ 8 2) HT_ ?_
    refine pua 2 51 (bs_ 8 6) HT_ ?_
    refine pua 4 53 (bs_ 8 22) HT_ ?_
    refine pua 5 54 (bs_ 8 54) HT_ ?_
    refine tk_ 0 49 (bs_ 8 55) rfl rfl HT_ HW_ (by kernel_rfl) (fun _ _ _ h => h) (by rfl) hHeld (by rintro w' ⟨s0, s1⟩; go_simp; with_reducible rfl) (by simp only [Act.put, s_1, s_2, s_3, i64_w, i32_w]; rfl) ?_
    refine one_ (i := 3) (N := some 52) (bs_ 8 63) rfl rfl (one_of HT_.out (by kernel_rfl)) (by decide) (fun K hK => ?_)
    refine goes_ Try.func96 (by kernel_rfl) rfl #[.slice A1 l1.length c1, .string t1231] (by rfl) rfl rfl (by (try simp only [m_1, m_2, m_3]); first | done | rfl | (simp only [m_4, m_5]; rfl)) ?_
    with_reducible refine (spec_deWith.calls kj19 _ _ l1 t1231 t1233 _ ?side1 ?side2 A29.out).mono ?_
    (case side1 => repeat (first | exact (Kd.C_below HR1.out HB.out) | (with_reducible refine Kd.C_alloc ?_ _) | (with_reducible refine Kd.C_drewN ?_ _) | (with_reducible refine Kd.C_drew ?_)))
    (case side2 => exact HC1.out)
    rintro e w39 ⟨v1234, rfl, ho0, hb⟩
    refine ⟨_, rfl, ?_⟩
    have n0_ := Aside0.mk (Kd.R_elder' (by (with_reducible repeat (first | apply r_a | apply r_d | apply r_e)); exact HO_10.out) (Kd.R_base ho0) hb)
    have n1_ := Aside0.mk (Kd.R_lower (Kd.R_new' ho0 (Kd.R_lt (by (with_reducible repeat (first | apply r_a | apply r_d | apply r_e)); exact HO_10.out))) (below_size (bB HB)))
    have n2_ := bbx hb BK1227
    have n3_ := bsx hb HB
    clear HO_10
    clear BK1227
    clear HB
    have HO_10 := n0_
    have HO1235 := n1_
    have BK1227 := n2_
    have HB := n3_
    clear n0_ n1_ n2_ n3_
    (try clear hb)
    (try clear hb2)
    (try clear hk)
    (try clear hi)
    (try clear ho0)
    obtain ⟨Ao40, co40, eo40⟩ := Kd.R_slice HO1235.out
    (first | subst eo40 | (injection eo40 with f1_ f2_ f3_; have f4_ := f1_.symm; have f5_ := f3_.symm; clear f1_ f2_ f3_; subst f4_; subst f5_))
    refine hK.out _ _ ⟨(blk_cell BK1227.out 0).trans rfl, (blk_cell BK1227.out 1).trans rfl⟩ (fun hHeld => ?_)
    clear hK K
    refine norm_ (a' := ?_) ?_ ?_
    rotate_left
    · show Act.put _ (some 52) _ = _
      simp only [Act.put, s_1, s_2, s_3, i64_w, i32_w]
      rfl
    refine one_ (i := 6) (N := some 55) (bs_ 8 127) rfl rfl (one_of HT_.out (by kernel_rfl)) (by decide) (fun K hK => ?_)
    refine goes_ Try.func93 (by kernel_rfl) rfl #[.agg #[.int .i64 a0_0, .int .i64 a0_1], .slice Ao40 t1233.length co40, .string a2, .string a3] (by rfl) rfl rfl (by (try simp only [m_1, m_2, m_3]); first | done | rfl | (simp only [m_4, m_5]; rfl)) ?_
    with_reducible refine (spec_deFew.calls kj19 a0_0 a0_1 _ _ t1233 a2 a3 t1236 _ ?side1 ?side2 A30.out).mono ?_
    (case side1 => repeat (first | exact (Kd.R_reads' HO1235.out).2.2 | (with_reducible refine Kd.C_alloc ?_ _) | (with_reducible refine Kd.C_drewN ?_ _) | (with_reducible refine Kd.C_drew ?_)))
    (case side2 => exact (Kd.R_reads' HO1235.out).2.1)
    rintro e w41 ⟨rfl, hb⟩
    refine ⟨_, rfl, ?_⟩
    have n0_ := Aside0.mk (Kd.R_below (by (with_reducible repeat (first | apply r_a | apply r_d | apply r_e)); exact HO_10.out) hb)
    have n1_ := Aside0.mk (Kd.R_below (by (with_reducible repeat (first | apply r_a | apply r_d | apply r_e)); exact HO1235.out) hb)
    have n2_ := bbx hb BK1227
    have n3_ := bsx hb HB
    clear HO_10
    clear HO1235
    clear BK1227
    clear HB
    have HO_10 := n0_
    have HO1235 := n1_
    have BK1227 := n2_
    have HB := n3_
    clear n0_ n1_ n2_ n3_
    (try clear hb)
    (try clear hb2)
    (try clear hk)
    (try clear hi)
    refine hK.out _ _ ⟨(blk_cell BK1227.out 0).trans rfl, (blk_cell BK1227.out 1).trans rfl⟩ (fun hHeld => ?_)
    clear hK K
    refine norm_ (a' := ?_) ?_ ?_
    rotate_left
    · show Act.put _ (some 55) _ = _
      simp only [Act.put, s_1, s_2, s_3, i64_w, i32_w]
      rfl
    refine pua 7 56 (bs_ 8 255) HT_ ?_
    refine done_ (done_of HT_.out (by kernel_rfl)) ?_
    try go_wp2
    go_roundg kj19
    case measure => have := HJ4.out; have := HK2.out; have := HJ19.out; omega
    case rel => exact ⟨(x10_2), (wrap64 (x11_2 + 1)), (by first | rfl | (simp; done) | (simp [*]; done)), H', ⟨by have := HJ4.out; have := HK2.out; have := HJ19.out; omega⟩, ⟨by (with_reducible repeat (first | apply r_a | apply r_d | apply r_e)); exact Kd.R_mono HO_10.out (fun _ hk => trivial)⟩, ⟨bK BK1227⟩, ⟨bB HB⟩⟩
  rw [if_pos c31] at H
  have c31b0 : decide (t1236 < 0) = true := decide_eq_true c31
  clear c31
  by_cases c32 : x10_2.length < 8796093022208
  rotate_left
  · rw [if_neg c32] at H
    exact absurd H (by simp)
  rw [if_pos c32] at H
  have LMc32 := Aside0.mk c32
  clear c32
  obtain ⟨y1237, hy1237⟩ : ∃ y_ : List ByteArray, y_ = (x10_2 ++ [t1231]) := ⟨_, rfl⟩
  replace H : (spec_NeededCodes.l0 kj19 l1 a2 a3 y1237 (wrap64 (x11_2 + 1)) a0_0 a0_1) = some (r1, r2) := by first | (rw [hy1237]; with_reducible exact H) | (have H2_ := (Option.bind_some _ _).symm.trans H; rw [hy1237]; with_reducible exact H2_) | (have H2_ := (Option.bind_some _ _).symm.trans H; with_reducible exact H2_) | with_reducible exact H | (rw [hy1237]; exact H) | exact H
  have Ny1237 := Aside0.mk hy1237
  clear hy1237
  have H' := Aside0.mk H
  clear H
  try go_wp2
  have n0_ := Aside0.mk (r_e HO_10.out)
  have n1_ := Aside0.mk (g_e BK1227.out)
  have n2_ := Aside0.mk (b_e HB.out)
  clear HO_10
  clear BK1227
  clear HB
  have HO_10 := n0_
  have BK1227 := n1_
  have HB := n2_
  clear n0_ n1_ n2_
  refine start_ (n := 8) (S := fun w' => w'.cell? ⟨gb1227, 0, none⟩ = some (.int .i64 a0_0) ∧ w'.cell? ⟨gb1227, 1, none⟩ = some (.int .i64 a0_1)) (ds := []) (bs_ 8 0) (by kernel_rfl) rfl rfl ⟨(blk_cell BK1227.out 0).trans rfl, (blk_cell BK1227.out 1).trans rfl⟩ (fun hHeld => ?_); refine with_tabW spec_NeededCodes.tab9 spec_NeededCodes.bits9 (fun HT_ HW_ => ?_)
  generalize wc.drew = w33 at HO_10 BK1227 HB hHeld ⊢
  refine pua 1 50 (bs_ 8 2) HT_ ?_
  refine pua 2 51 (bs_ 8 6) HT_ ?_
  refine pua 4 53 (bs_ 8 22) HT_ ?_
  refine pua 5 54 (bs_ 8 54) HT_ ?_
  refine tk_ 0 49 (bs_ 8 55) rfl rfl HT_ HW_ (by kernel_rfl) (fun _ _ _ h => h) (by rfl) hHeld (by rintro w' ⟨s0, s1⟩; go_simp; with_reducible rfl) (by simp only [Act.put, s_1, s_2, s_3, i64_w, i32_w]; rfl) ?_
  refine one_ (i := 3) (N := some 52) (bs_ 8 63) rfl rfl (one_of HT_.out (by kernel_rfl)) (by decide) (fun K hK => ?_)
  refine goes_ Try.func96 (by kernel_rfl) rfl #[.slice A1 l1.length c1, .string t1231] (by rfl) rfl rfl (by (try simp only [m_1, m_2, m_3]); first | done | rfl | (simp only [m_4, m_5]; rfl)) ?_
  with_reducible refine (spec_deWith.calls kj19 _ _ l1 t1231 t1233 _ ?side1 ?side2 A29.out).mono ?_
  (case side1 => repeat (first | exact (Kd.C_below HR1.out HB.out) | (with_reducible refine Kd.C_alloc ?_ _) | (with_reducible refine Kd.C_drewN ?_ _) | (with_reducible refine Kd.C_drew ?_)))
  (case side2 => exact HC1.out)
  rintro e w34 ⟨v1234, rfl, ho0, hb⟩
  refine ⟨_, rfl, ?_⟩
  have n0_ := Aside0.mk (Kd.R_elder' (by (with_reducible repeat (first | apply r_a | apply r_d | apply r_e)); exact HO_10.out) (Kd.R_base ho0) hb)
  have n1_ := Aside0.mk (Kd.R_lower (Kd.R_new' ho0 (Kd.R_lt (by (with_reducible repeat (first | apply r_a | apply r_d | apply r_e)); exact HO_10.out))) (below_size (bB HB)))
  have n2_ := bbx hb BK1227
  have n3_ := bsx hb HB
  clear HO_10
  clear BK1227
  clear HB
  have HO_10 := n0_
  have HO1235 := n1_
  have BK1227 := n2_
  have HB := n3_
  clear n0_ n1_ n2_ n3_
  (try clear hb)
  (try clear hb2)
  (try clear hk)
  (try clear hi)
  (try clear ho0)
  obtain ⟨Ao35, co35, eo35⟩ := Kd.R_slice HO1235.out
  (first | subst eo35 | (injection eo35 with f1_ f2_ f3_; have f4_ := f1_.symm; have f5_ := f3_.symm; clear f1_ f2_ f3_; subst f4_; subst f5_))
  refine hK.out _ _ ⟨(blk_cell BK1227.out 0).trans rfl, (blk_cell BK1227.out 1).trans rfl⟩ (fun hHeld => ?_)
  clear hK K
  refine norm_ (a' := ?_) ?_ ?_
  rotate_left
  · show Act.put _ (some 52) _ = _
    simp only [Act.put, s_1, s_2, s_3, i64_w, i32_w]
    rfl
  refine one_ (i := 6) (N := some 55) (bs_ 8 127) rfl rfl (one_of HT_.out (by kernel_rfl)) (by decide) (fun K hK => ?_)
  refine goes_ Try.func93 (by kernel_rfl) rfl #[.agg #[.int .i64 a0_0, .int .i64 a0_1], .slice Ao35 t1233.length co35, .string a2, .string a3] (by rfl) rfl rfl (by (try simp only [m_1, m_2, m_3]); first | done | rfl | (simp only [m_4, m_5]; rfl)) ?_
  with_reducible refine (spec_deFew.calls kj19 a0_0 a0_1 _ _ t1233 a2 a3 t1236 _ ?side1 ?side2 A30.out).mono ?_
  (case side1 => repeat (first | exact (Kd.R_reads' HO1235.out).2.2 | (with_reducible refine Kd.C_alloc ?_ _) | (with_reducible refine Kd.C_drewN ?_ _) | (with_reducible refine Kd.C_drew ?_)))
  (case side2 => exact (Kd.R_reads' HO1235.out).2.1)
  rintro e w36 ⟨rfl, hb⟩
  refine ⟨_, rfl, ?_⟩
  have n0_ := Aside0.mk (Kd.R_below (by (with_reducible repeat (first | apply r_a | apply r_d | apply r_e)); exact HO_10.out) hb)
  have n1_ := Aside0.mk (Kd.R_below (by (with_reducible repeat (first | apply r_a | apply r_d | apply r_e)); exact HO1235.out) hb)
  have n2_ := bbx hb BK1227
  have n3_ := bsx hb HB
  clear HO_10
  clear HO1235
  clear BK1227
  clear HB
  have HO_10 := n0_
  have HO1235 := n1_
  have BK1227 := n2_
  have HB := n3_
  clear n0_ n1_ n2_ n3_
  (try clear hb)
  (try clear hb2)
  (try clear hk)
  (try clear hi)
  refine hK.out _ _ ⟨(blk_cell BK1227.out 0).trans rfl, (blk_cell BK1227.out 1).trans rfl⟩ (fun hHeld => ?_)
  clear hK K
  refine norm_ (a' := ?_) ?_ ?_
  rotate_left
  · show Act.put _ (some 55) _ = _
    simp only [Act.put, s_1, s_2, s_3, i64_w, i32_w]
    rfl
  refine pua 7 56 (bs_ 8 255) HT_ ?_
  refine done_ (done_of HT_.out (by kernel_rfl)) ?_
  try go_wp2_with (first | ((with_reducible refine gate_builtin (b := .append) (xs := #[.tmp 57, .tmp 59]) rfl ?_); at_builtin; refine Kd.R_append Kd.string (w0 := w) w.heap.size rfl (.tmp 57) (.tmp 59) 24 9 (.string ⟨#[]⟩) 16 rfl Try.underlying24 info9 rfl (by decide) (by omega) u10 x10_2 t1231 [.string t1231] (fun k_ => some k_ ≠ (.slice Ao35 t1233.length co35 : Value).ownBlock) (fun _ => False) rfl rfl ?aP (fun _ hk => hk.elim) ?aF ?aO ?aB ?aS ?aL ?_; (case aP => exact rfl); (case aB => exact (bB HB)); (case aF => exact (fun k_ hk => Kd.fresh' (Kd.R_lt (by (with_reducible repeat (first | apply r_a | apply r_d | apply r_e)); exact HO1235.out)) k_ hk)); (case aO => exact (by (with_reducible repeat (first | apply r_a | apply r_d | apply r_e)); exact Kd.R_mono HO_10.out (fun _ hk => hk.2))); (case aS => exact (below_size (bB HB))); (case aL => have := LMc32.out; omega); intro v1238 w37 ho hb hg hat; rw [← Ny1237.out] at ho; have n0_ := Aside0.mk (blk_grown (g := gb1227) (o := .cells #[.int .i64 a0_0, .int .i64 a0_1] 28 (0, 0)) (bK BK1227) hg (Kd.R_ne HO_10.out BK1227.out (by decide))); have n1_ := Aside0.mk (Kd.R_after (ok := (fun _ => True)) (by (with_reducible repeat (first | apply r_a | apply r_d | apply r_e)); exact HO1235.out) hg hat); have n2_ := Aside0.mk (hb); have n3_ := Aside0.mk (ho); clear BK1227; clear HO1235; clear HB; clear HO_10; have BK1227 := n0_; have HO1235 := n1_; have HB := n2_; have HO1239 := n3_; clear n0_ n1_ n2_ n3_; clear ho hb hg hat))
  go_roundg kj19
  case measure => have := HJ4.out; have := HK2.out; have := HJ19.out; omega
  case rel => exact ⟨(y1237), (wrap64 (x11_2 + 1)), (by first | rfl | (simp; done) | (simp [*]; done)), H', ⟨by have := HJ4.out; have := HK2.out; have := HJ19.out; omega⟩, ⟨by (with_reducible repeat (first | apply r_a | apply r_d | apply r_e)); exact Kd.R_mono HO1239.out (fun _ hk => trivial)⟩, ⟨bK BK1227⟩, ⟨bB HB⟩⟩
/-! ### impl_fieldOf: function 98 -/
def impl_fieldOf.l0 : Nat → List ByteArray → Int → Int → Int → Int → Int → Int → List Bool → Option (Int × Int × List Bool)
  | 0, _, _, _, _, _, _, _, _ => none
  | k + 1, x13, x14, x15, x1241000, x1241001, x1247000, x1247001, x1247002 => if x15 < x14 then (if 0 ≤ x15 then (if x15 < (x13.length : Int) then ((impl_Lock_number.f k x1241000 x1241001 (rdOf ByteArray.empty x13 x15)).bind fun t1248 => (if 0 ≤ t1248 then (if t1248 < (x1247002.length : Int) then (impl_fieldOf.l0 k x13 x14 (wrap64 (x15 + 1)) x1241000 x1241001 x1247000 x1247001 (x1247002.set (t1248 : Int).toNat true)) else (none)) else (none))) else (none)) else (none)) else (some (x1247000, x1247001, x1247002))
def impl_fieldOf.f (k : Nat) (a0_0 : Int) (a0_1 : Int) (l1 : List ByteArray) : Option (Int × Int × List Bool) := (impl_Lock_count.f k a0_0 a0_1).bind fun t1242 => (if 0 ≤ t1242 then (if (t1242 : Int).toNat ≤ 281474976710656 then (impl_fieldOf.l0 k l1 (l1.length : Int) 0 a0_0 a0_1 a0_0 a0_1 (List.replicate (t1242 : Int).toNat false)) else (none)) else (none))
theorem impl_fieldOf.mono_l : ∀ k, (∀ y0 y1 y2 y3 y4 y5 y6 y7, LeO (impl_fieldOf.l0 k y0 y1 y2 y3 y4 y5 y6 y7) (impl_fieldOf.l0 (k + 1) y0 y1 y2 y3 y4 y5 y6 y7))
  | 0 => fun _ _ _ _ _ _ _ _ r h => by simp [impl_fieldOf.l0] at h
  | k + 1 => by
    have ih0 := impl_fieldOf.mono_l k
    · intro y0 y1 y2 y3 y4 y5 y6 y7
      unfold impl_fieldOf.l0
      repeat' first
      | (with_reducible exact ih0 _ _ _ _ _ _ _ _)
      | (with_reducible exact impl_Lock_count.mono _ _ _)
      | (with_reducible exact impl_Lock_number.mono _ _ _ _)
      | (with_reducible exact LeO.refl _)
      | (with_reducible exact LeO.none _)
      | (with_reducible refine LeO.ite ?_ ?_)
      | (with_reducible refine LeO.bind ?_ (fun _ => ?_))
      | exact ih0 _ _ _ _ _ _ _ _
      | exact impl_Lock_count.mono _ _ _
      | exact impl_Lock_number.mono _ _ _ _
      | exact LeO.none _
      | refine LeO.ite ?_ ?_
      | refine LeO.bind ?_ (fun _ => ?_)
theorem impl_fieldOf.mono : ∀ a0 a1 a2 k, LeO (impl_fieldOf.f k a0 a1 a2) (impl_fieldOf.f (k + 1) a0 a1 a2) := by
  intro a0 a1 a2 k
  have ih0 := impl_fieldOf.mono_l k
  unfold impl_fieldOf.f
  repeat' first
      | (with_reducible exact ih0 _ _ _ _ _ _ _ _)
      | (with_reducible exact impl_Lock_count.mono _ _ _)
      | (with_reducible exact impl_Lock_number.mono _ _ _ _)
      | (with_reducible exact LeO.refl _)
      | (with_reducible exact LeO.none _)
      | (with_reducible refine LeO.ite ?_ ?_)
      | (with_reducible refine LeO.bind ?_ (fun _ => ?_))
      | exact ih0 _ _ _ _ _ _ _ _
      | exact impl_Lock_count.mono _ _ _
      | exact impl_Lock_number.mono _ _ _ _
      | exact LeO.none _
      | refine LeO.ite ?_ ?_
      | refine LeO.bind ?_ (fun _ => ?_)
set_option maxHeartbeats 8000000 in
set_option maxRecDepth 100000 in
theorem impl_fieldOf.calls (k : Nat) (a0_0 : Int) (a0_1 : Int) (A1 : Option Addr) (c1 : Nat) (l1 : List ByteArray) (r1 : Int) (r2 : Int) (r3 : List Bool) (w : World) (hr1 : Kd.C Kd.string w A1 l1.length l1) (hc1 : l1.length ≤ c1) (h : impl_fieldOf.f k a0_0 a0_1 l1 = some (r1, r2, r3)) :
    Calls Try.prog 98 #[.agg #[.int .i64 a0_0, .int .i64 a0_1], .slice A1 l1.length c1] w fun e w' => ∃ v2_ : Value, e = .returned (.agg #[.int .i64 r1, .int .i64 r2, v2_]) ∧ Kd.R Kd.bool 4 w' w.heap.size (fun _ => True) v2_ r3 ∧ Below w.heap.size w w' := by
  have hu28 := Try.underlying28
  have hu105 := Try.underlying105
  have HR1 := Aside0.mk hr1
  have HC1 := Aside0.mk hc1
  clear hr1 hc1
  have HB := Aside0.mk (Below.refl w.heap.size w)
  have H : ((impl_Lock_count.f k a0_0 a0_1).bind fun t1242 => (if 0 ≤ t1242 then (if (t1242 : Int).toNat ≤ 281474976710656 then (impl_fieldOf.l0 k l1 (l1.length : Int) 0 a0_0 a0_1 a0_0 a0_1 (List.replicate (t1242 : Int).toNat false)) else (none)) else (none))) = some (r1, r2, r3) := h
  clear h
  replace H := Option.bind_eq_some_iff.mp H
  obtain ⟨t1242, A30, H⟩ := H
  try dsimp only at H
  have A3 := Aside0.mk A30
  clear A30
  by_cases c4 : 0 ≤ t1242
  rotate_left
  · rw [if_neg c4] at H
    exact absurd H (by simp)

  rw [if_pos c4] at H
  have c4b0 := eq_true c4
  have c4b1 : decide (0 ≤ t1242) = true := decide_eq_true c4
  clear c4
  by_cases c5 : (t1242 : Int).toNat ≤ 281474976710656
  rotate_left
  · rw [if_neg c5] at H
    exact absurd H (by simp)
  rw [if_pos c5] at H
  have c5b0 := eq_true c5
  have c5b1 : decide ((t1242 : Int).toNat ≤ 281474976710656) = true := decide_eq_true c5
  clear c5
  obtain ⟨y1243, hy1243⟩ : ∃ y_ : List Bool, y_ = (List.replicate (t1242 : Int).toNat false) := ⟨_, rfl⟩
  replace H : (impl_fieldOf.l0 k l1 (l1.length : Int) 0 a0_0 a0_1 a0_0 a0_1 y1243) = some (r1, r2, r3) := by first | (rw [hy1243]; with_reducible exact H) | (have H2_ := (Option.bind_some _ _).symm.trans H; rw [hy1243]; with_reducible exact H2_) | (have H2_ := (Option.bind_some _ _).symm.trans H; with_reducible exact H2_) | with_reducible exact H | (rw [hy1243]; exact H) | exact H
  have Ny1243 := Aside0.mk hy1243
  clear hy1243
  have H' := Aside0.mk H
  clear H
  go_enter Try.func98, Try.ntmps98
  try go_wp2_with (first | ((with_reducible refine gate_dst (N := 2) rfl ?_); refine box_event ?hg (N := 2) ?hd (cs := #[.int .i64 a0_0, .int .i64 a0_1]) (t := 28) ?hr ?_; (case hd => rfl); (case hg => rfl); (case hr => first | (go_simp; done) | (go_simp; rfl)); intro gb1240 hg w6 hbox hb; have n0_ := bsx hb HB; have n1_ := Aside0.mk (hbox); have n2_ := gwx hg HB; have n3_ := n2_; clear HB; have HB := n0_; have BK1240 := n1_; have GW1240 := n2_; have GE1240 := n3_; clear n0_ n1_ n2_ n3_; clear hb hbox hg) | ((with_reducible refine gate_dst (N := 4) rfl ?_); refine box_event ?hg (N := 4) ?hd (cs := #[.int .i64 0, .int .i64 0, .slice none 0 0]) (t := 105) ?hr ?_; (case hd => rfl); (case hg => rfl); (case hr => first | (go_simp; done) | (go_simp; rfl)); intro gb1241 hg w7 hbox hb; have n0_ := bbx hb BK1240; have n1_ := bsx hb HB; have n2_ := Aside0.mk (hbox); have n3_ := gwx hg HB; have n4_ := gwx hg HB; have n5_ := nlx hg BK1240; have n6_ := ngx hg BK1240; clear BK1240; clear HB; have BK1240 := n0_; have HB := n1_; have BK1241 := n2_; have GW1241 := n3_; have GE1241 := n4_; have NB1240_1241 := n5_; have NB1241_1240 := n6_; clear n0_ n1_ n2_ n3_ n4_ n5_ n6_; clear hb hbox hg))
  have n0_ := Aside0.mk (g_e BK1240.out)
  have n1_ := Aside0.mk (g_e BK1241.out)
  have n2_ := Aside0.mk (b_e HB.out)
  clear BK1240
  clear BK1241
  clear HB
  have BK1240 := n0_
  have BK1241 := n1_
  have HB := n2_
  clear n0_ n1_ n2_
  refine start_ (n := 7) (S := fun w' => w'.cell? ⟨gb1240, 0, none⟩ = some (.int .i64 a0_0) ∧ w'.cell? ⟨gb1240, 1, none⟩ = some (.int .i64 a0_1)) (ds := []) (bs_ 7 0) (by kernel_rfl) rfl rfl ⟨(blk_cell BK1240.out 0).trans rfl, (blk_cell BK1240.out 1).trans rfl⟩ (fun hHeld => ?_)
  generalize w7.drew = w8 at BK1240 BK1241 HB hHeld ⊢
  refine take_ (i := 0) (N := some 8) (v := ?_) (a' := ?_) (bs_ 7 1) rfl rfl (by kernel_rfl) (fun _ _ _ h => h) (Or.inl ⟨by rfl, ?_⟩) hHeld ?_ ?_
  rotate_left
  · rintro w' ⟨s0, s1⟩
    go_simp
    with_reducible rfl
  rotate_left
  · simp only [Act.put, s_1, s_2, s_3, i64_w, i32_w]
    rfl
  refine take_ (i := 1) (N := some 9) (v := ?_) (a' := ?_) (bs_ 7 3) rfl rfl (by kernel_rfl) (fun _ _ _ h => h) (Or.inl ⟨by rfl, ?_⟩) hHeld ?_ ?_
  rotate_left
  · rintro w' ⟨s0, s1⟩
    go_simp
    with_reducible rfl
  rotate_left
  · simp only [Act.put, s_1, s_2, s_3, i64_w, i32_w]
    rfl
  refine join_ (σ := Value × Nat) 1 (bs_ 7 63) (fun s_ => [(10, .int .i64 t1242), (11, s_.1), (5, .pointer (some ⟨s_.2, 0, none⟩)), (12, .agg #[.int .i64 a0_0, .int .i64 a0_1, s_.1])]) (fun s_ w' => (w'.cell? ⟨gb1240, 0, none⟩ = some (.int .i64 a0_0) ∧ w'.cell? ⟨gb1240, 1, none⟩ = some (.int .i64 a0_1)) ∧ (Kd.R Kd.bool 4 w' w.heap.size (fun _ => True) s_.1 y1243) ∧ (w'.heap[gb1240]? = some (.cells #[.int .i64 a0_0, .int .i64 a0_1] 28 (0, 0))) ∧ (w'.heap[gb1241]? = some (.cells #[.int .i64 0, .int .i64 0, .slice none 0 0] 105 (0, 0))) ∧ (w'.heap[s_.2]? = some (.cells #[.int .i64 0, .int .i64 0, .slice none 0 0] 105 (0, 0))) ∧ (w.heap.size ≤ s_.2) ∧ (w.heap.size ≤ s_.2) ∧ (gb1240 ≠ s_.2) ∧ (s_.2 ≠ gb1240) ∧ (gb1241 ≠ s_.2) ∧ (s_.2 ≠ gb1241) ∧ (Below w.heap.size w w')) ?_ ?_
  rotate_left
  · intro hCont
    refine two_ (i := 2) (j := 5) (Ni := some 10) (Nj := some 5) (bs_ 7 7) (bs_ 7 35) rfl rfl rfl rfl (by kernel_rfl) (by decide) (by decide) (fun K hK => ?_) (fun K hK => ?_)
    rotate_left
    · skip
      refine box_step ?hg (N := 5) ?hd (cs := #[.int .i64 0, .int .i64 0, .slice none 0 0]) (t := 105) ?hr ?_; (case hd => rfl); (case hg => rfl); (case hr => first | (go_simp; done) | (go_simp; rfl))
      intro gb1246 hg w9 hbox hb
      have n0_ := bbx hb BK1240
      have n1_ := bbx hb BK1241
      have n2_ := bsx hb HB
      have n3_ := Aside0.mk (hbox)
      have n4_ := gwx hg HB
      have n5_ := gwx hg HB
      have n6_ := nlx hg BK1240
      have n7_ := ngx hg BK1240
      have n8_ := nlx hg BK1241
      have n9_ := ngx hg BK1241
      clear BK1240
      clear BK1241
      clear HB
      have BK1240 := n0_
      have BK1241 := n1_
      have HB := n2_
      have BK1246 := n3_
      have GW1246 := n4_
      have GE1246 := n5_
      have NB1240_1246 := n6_
      have NB1246_1240 := n7_
      have NB1241_1246 := n8_
      have NB1246_1241 := n9_
      clear n0_ n1_ n2_ n3_ n4_ n5_ n6_ n7_ n8_ n9_
      clear hb hbox hg
      refine hK.out _ _ ⟨(blk_cell BK1240.out 0).trans rfl, (blk_cell BK1240.out 1).trans rfl⟩ (fun hHeld => ?_)
      clear hK K
      refine norm_ (a' := ?_) ?_ ?_
      rotate_left
      · show Act.put _ (some 5) _ = _
        simp only [Act.put, s_1, s_2, s_3, i64_w, i32_w]
        rfl
      refine one_ (i := 2) (N := some 10) (bs_ 7 39) rfl rfl (by kernel_rfl) (by decide) (fun K hK => ?_)
      refine goes_ Try.func107 (by kernel_rfl) rfl #[.agg #[.int .i64 a0_0, .int .i64 a0_1]] (by rfl) rfl rfl (by (try simp only [m_1, m_2, m_3]); first | done | rfl | (simp only [m_4, m_5]; rfl)) ?_
      with_reducible refine (impl_Lock_count.calls k a0_0 a0_1 t1242 _ A3.out).mono ?_
      rintro e w10 ⟨rfl, hb⟩
      refine ⟨_, rfl, ?_⟩
      have n0_ := bbx hb BK1240
      have n1_ := bbx hb BK1241
      have n2_ := bbx hb BK1246
      have n3_ := bsx hb HB
      clear BK1240
      clear BK1241
      clear BK1246
      clear HB
      have BK1240 := n0_
      have BK1241 := n1_
      have BK1246 := n2_
      have HB := n3_
      clear n0_ n1_ n2_ n3_
      (try clear hb)
      (try clear hb2)
      (try clear hk)
      (try clear hi)
      refine hK.out _ _ ⟨(blk_cell BK1240.out 0).trans rfl, (blk_cell BK1240.out 1).trans rfl⟩ (fun hHeld => ?_)
      clear hK K
      refine norm_ (a' := ?_) ?_ ?_
      rotate_left
      · show Act.put _ (some 10) _ = _
        simp only [Act.put, s_1, s_2, s_3, i64_w, i32_w]
        rfl
      refine one_ (i := 3) (N := some 11) (bs_ 7 47) rfl rfl (by kernel_rfl) (by decide) (fun K hK => ?_)
      refine Kd.R_make_step Kd.bool _ 4 (by rfl) (N := 11) rfl 103 _ _ rfl t1242 rfl rfl Try.underlying103 (.bool false) 1 info4 rfl (by decide) (by omega) false (ok := fun _ => True) (okp := fun _ => True) rfl (fun _ hk => hk) trivial (of_decide_eq_true (by first | (with_reducible assumption) | assumption)) (Nat.le_trans (Nat.mul_le_mul_right _ (of_decide_eq_true (by first | (with_reducible assumption) | assumption) : t1242.toNat ≤ 281474976710656)) (by omega)) (Below.refl _ _) (Nat.le_refl _) ?_
      intro v1244 w11 ho12 hb hg_ hnew_
      clear hg_ hnew_
      (first | rw [← Ny1243.out] at ho12 | (simp only [Int.reduceToNat] at ho12; rw [← Ny1243.out] at ho12))
      have n0_ := Aside0.mk (Kd.R_lower ho12 (below_size (bB HB)))
      have n1_ := bbx hb BK1240
      have n2_ := bbx hb BK1241
      have n3_ := bbx hb BK1246
      have n4_ := bsx hb HB
      clear BK1240
      clear BK1241
      clear BK1246
      clear HB
      have HO1245 := n0_
      have BK1240 := n1_
      have BK1241 := n2_
      have BK1246 := n3_
      have HB := n4_
      clear n0_ n1_ n2_ n3_ n4_
      clear hb ho12
      obtain ⟨Ao13, co13, eo13⟩ := Kd.R_slice HO1245.out
      (first | subst eo13 | (injection eo13 with f1_ f2_ f3_; have f4_ := f1_.symm; have f5_ := f3_.symm; clear f1_ f2_ f3_; subst f4_; subst f5_))
      refine hK.out _ _ ⟨(blk_cell BK1240.out 0).trans rfl, (blk_cell BK1240.out 1).trans rfl⟩ (fun hHeld => ?_)
      clear hK K
      refine norm_ (a' := ?_) ?_ ?_
      rotate_left
      · show Act.put _ (some 11) _ = _
        simp only [Act.put, s_1, s_2, s_3, i64_w, i32_w]
        rfl
      refine pure_ (i := 4) (N := some 12) (v := ?_) (a' := ?_) (bs_ 7 63) rfl rfl (by kernel_rfl) (fun _ _ _ h => h) (Or.inl ⟨by rfl, ?_⟩) ?_ ?_
      rotate_left
      · intro w'
        go_simp
        with_reducible rfl
      rotate_left
      · simp only [Act.put, s_1, s_2, s_3, i64_w, i32_w]
        rfl
      exact norm_ (by simp only [putAll, Act.put, s_1, s_2, s_3]) (hCont (.slice Ao13 y1243.length co13, gb1246) _ ⟨hHeld, (by (with_reducible repeat (first | apply r_a | apply r_d | apply r_e)); exact HO1245.out), (bK BK1240), (bK BK1241), (bK BK1246), GW1246.out, GE1246.out, NB1240_1246.out, NB1246_1240.out, NB1241_1246.out, NB1246_1241.out, (bB HB)⟩)
    skip
    refine goes_ Try.func107 (by kernel_rfl) rfl #[.agg #[.int .i64 a0_0, .int .i64 a0_1]] (by rfl) rfl rfl (by (try simp only [m_1, m_2, m_3]); first | done | rfl | (simp only [m_4, m_5]; rfl)) ?_
    with_reducible refine (impl_Lock_count.calls k a0_0 a0_1 t1242 _ A3.out).mono ?_
    rintro e w9 ⟨rfl, hb⟩
    refine ⟨_, rfl, ?_⟩
    have n0_ := bbx hb BK1240
    have n1_ := bbx hb BK1241
    have n2_ := bsx hb HB
    clear BK1240
    clear BK1241
    clear HB
    have BK1240 := n0_
    have BK1241 := n1_
    have HB := n2_
    clear n0_ n1_ n2_
    (try clear hb)
    (try clear hb2)
    (try clear hk)
    (try clear hi)
    refine hK.out _ _ ⟨(blk_cell BK1240.out 0).trans rfl, (blk_cell BK1240.out 1).trans rfl⟩ (fun hHeld => ?_)
    clear hK K
    refine norm_ (a' := ?_) ?_ ?_
    rotate_left
    · show Act.put _ (some 10) _ = _
      simp only [Act.put, s_1, s_2, s_3, i64_w, i32_w]
      rfl
    refine two_ (i := 3) (j := 5) (Ni := some 11) (Nj := some 5) (bs_ 7 15) (bs_ 7 39) rfl rfl rfl rfl (by kernel_rfl) (by decide) (by decide) (fun K hK => ?_) (fun K hK => ?_)
    rotate_left
    · skip
      refine box_step ?hg (N := 5) ?hd (cs := #[.int .i64 0, .int .i64 0, .slice none 0 0]) (t := 105) ?hr ?_; (case hd => rfl); (case hg => rfl); (case hr => first | (go_simp; done) | (go_simp; rfl))
      intro gb1246 hg w10 hbox hb
      have n0_ := bbx hb BK1240
      have n1_ := bbx hb BK1241
      have n2_ := bsx hb HB
      have n3_ := Aside0.mk (hbox)
      have n4_ := gwx hg HB
      have n5_ := gwx hg HB
      have n6_ := nlx hg BK1240
      have n7_ := ngx hg BK1240
      have n8_ := nlx hg BK1241
      have n9_ := ngx hg BK1241
      clear BK1240
      clear BK1241
      clear HB
      have BK1240 := n0_
      have BK1241 := n1_
      have HB := n2_
      have BK1246 := n3_
      have GW1246 := n4_
      have GE1246 := n5_
      have NB1240_1246 := n6_
      have NB1246_1240 := n7_
      have NB1241_1246 := n8_
      have NB1246_1241 := n9_
      clear n0_ n1_ n2_ n3_ n4_ n5_ n6_ n7_ n8_ n9_
      clear hb hbox hg
      refine hK.out _ _ ⟨(blk_cell BK1240.out 0).trans rfl, (blk_cell BK1240.out 1).trans rfl⟩ (fun hHeld => ?_)
      clear hK K
      refine norm_ (a' := ?_) ?_ ?_
      rotate_left
      · show Act.put _ (some 5) _ = _
        simp only [Act.put, s_1, s_2, s_3, i64_w, i32_w]
        rfl
      refine one_ (i := 3) (N := some 11) (bs_ 7 47) rfl rfl (by kernel_rfl) (by decide) (fun K hK => ?_)
      refine Kd.R_make_step Kd.bool _ 4 (by rfl) (N := 11) rfl 103 _ _ rfl t1242 rfl rfl Try.underlying103 (.bool false) 1 info4 rfl (by decide) (by omega) false (ok := fun _ => True) (okp := fun _ => True) rfl (fun _ hk => hk) trivial (of_decide_eq_true (by first | (with_reducible assumption) | assumption)) (Nat.le_trans (Nat.mul_le_mul_right _ (of_decide_eq_true (by first | (with_reducible assumption) | assumption) : t1242.toNat ≤ 281474976710656)) (by omega)) (Below.refl _ _) (Nat.le_refl _) ?_
      intro v1244 w11 ho12 hb hg_ hnew_
      clear hg_ hnew_
      (first | rw [← Ny1243.out] at ho12 | (simp only [Int.reduceToNat] at ho12; rw [← Ny1243.out] at ho12))
      have n0_ := Aside0.mk (Kd.R_lower ho12 (below_size (bB HB)))
      have n1_ := bbx hb BK1240
      have n2_ := bbx hb BK1241
      have n3_ := bbx hb BK1246
      have n4_ := bsx hb HB
      clear BK1240
      clear BK1241
      clear BK1246
      clear HB
      have HO1245 := n0_
      have BK1240 := n1_
      have BK1241 := n2_
      have BK1246 := n3_
      have HB := n4_
      clear n0_ n1_ n2_ n3_ n4_
      clear hb ho12
      obtain ⟨Ao13, co13, eo13⟩ := Kd.R_slice HO1245.out
      (first | subst eo13 | (injection eo13 with f1_ f2_ f3_; have f4_ := f1_.symm; have f5_ := f3_.symm; clear f1_ f2_ f3_; subst f4_; subst f5_))
      refine hK.out _ _ ⟨(blk_cell BK1240.out 0).trans rfl, (blk_cell BK1240.out 1).trans rfl⟩ (fun hHeld => ?_)
      clear hK K
      refine norm_ (a' := ?_) ?_ ?_
      rotate_left
      · show Act.put _ (some 11) _ = _
        simp only [Act.put, s_1, s_2, s_3, i64_w, i32_w]
        rfl
      refine pure_ (i := 4) (N := some 12) (v := ?_) (a' := ?_) (bs_ 7 63) rfl rfl (by kernel_rfl) (fun _ _ _ h => h) (Or.inl ⟨by rfl, ?_⟩) ?_ ?_
      rotate_left
      · intro w'
        go_simp
        with_reducible rfl
      rotate_left
      · simp only [Act.put, s_1, s_2, s_3, i64_w, i32_w]
        rfl
      exact norm_ (by simp only [putAll, Act.put, s_1, s_2, s_3]) (hCont (.slice Ao13 y1243.length co13, gb1246) _ ⟨hHeld, (by (with_reducible repeat (first | apply r_a | apply r_d | apply r_e)); exact HO1245.out), (bK BK1240), (bK BK1241), (bK BK1246), GW1246.out, GE1246.out, NB1240_1246.out, NB1246_1240.out, NB1241_1246.out, NB1246_1241.out, (bB HB)⟩)
    skip
    refine Kd.R_make_step Kd.bool _ 4 (by rfl) (N := 11) rfl 103 _ _ rfl t1242 rfl rfl Try.underlying103 (.bool false) 1 info4 rfl (by decide) (by omega) false (ok := fun _ => True) (okp := fun _ => True) rfl (fun _ hk => hk) trivial (of_decide_eq_true (by first | (with_reducible assumption) | assumption)) (Nat.le_trans (Nat.mul_le_mul_right _ (of_decide_eq_true (by first | (with_reducible assumption) | assumption) : t1242.toNat ≤ 281474976710656)) (by omega)) (Below.refl _ _) (Nat.le_refl _) ?_
    intro v1244 w10 ho11 hb hg_ hnew_
    clear hg_ hnew_
    (first | rw [← Ny1243.out] at ho11 | (simp only [Int.reduceToNat] at ho11; rw [← Ny1243.out] at ho11))
    have n0_ := Aside0.mk (Kd.R_lower ho11 (below_size (bB HB)))
    have n1_ := bbx hb BK1240
    have n2_ := bbx hb BK1241
    have n3_ := bsx hb HB
    clear BK1240
    clear BK1241
    clear HB
    have HO1245 := n0_
    have BK1240 := n1_
    have BK1241 := n2_
    have HB := n3_
    clear n0_ n1_ n2_ n3_
    clear hb ho11
    obtain ⟨Ao12, co12, eo12⟩ := Kd.R_slice HO1245.out
    (first | subst eo12 | (injection eo12 with f1_ f2_ f3_; have f4_ := f1_.symm; have f5_ := f3_.symm; clear f1_ f2_ f3_; subst f4_; subst f5_))
    refine hK.out _ _ ⟨(blk_cell BK1240.out 0).trans rfl, (blk_cell BK1240.out 1).trans rfl⟩ (fun hHeld => ?_)
    clear hK K
    refine norm_ (a' := ?_) ?_ ?_
    rotate_left
    · show Act.put _ (some 11) _ = _
      simp only [Act.put, s_1, s_2, s_3, i64_w, i32_w]
      rfl
    refine pure_ (i := 4) (N := some 12) (v := ?_) (a' := ?_) (bs_ 7 31) rfl rfl (by kernel_rfl) (fun _ _ _ h => h) (Or.inl ⟨by rfl, ?_⟩) ?_ ?_
    rotate_left
    · intro w'
      go_simp
      with_reducible rfl
    rotate_left
    · simp only [Act.put, s_1, s_2, s_3, i64_w, i32_w]
      rfl
    refine one_ (i := 5) (N := some 5) (bs_ 7 63) rfl rfl (by kernel_rfl) (by decide) (fun K hK => ?_)
    refine box_step ?hg (N := 5) ?hd (cs := #[.int .i64 0, .int .i64 0, .slice none 0 0]) (t := 105) ?hr ?_; (case hd => rfl); (case hg => rfl); (case hr => first | (go_simp; done) | (go_simp; rfl))
    intro gb1246 hg w13 hbox hb
    have n0_ := Aside0.mk (Kd.R_below (by (with_reducible repeat (first | apply r_a | apply r_d | apply r_e)); exact HO1245.out) hb)
    have n1_ := bbx hb BK1240
    have n2_ := bbx hb BK1241
    have n3_ := bsx hb HB
    have n4_ := Aside0.mk (hbox)
    have n5_ := gwx hg HB
    have n6_ := gwx hg HB
    have n7_ := nlx hg BK1240
    have n8_ := ngx hg BK1240
    have n9_ := nlx hg BK1241
    have n10_ := ngx hg BK1241
    clear HO1245
    clear BK1240
    clear BK1241
    clear HB
    have HO1245 := n0_
    have BK1240 := n1_
    have BK1241 := n2_
    have HB := n3_
    have BK1246 := n4_
    have GW1246 := n5_
    have GE1246 := n6_
    have NB1240_1246 := n7_
    have NB1246_1240 := n8_
    have NB1241_1246 := n9_
    have NB1246_1241 := n10_
    clear n0_ n1_ n2_ n3_ n4_ n5_ n6_ n7_ n8_ n9_ n10_
    clear hb hbox hg
    refine hK.out _ _ ⟨(blk_cell BK1240.out 0).trans rfl, (blk_cell BK1240.out 1).trans rfl⟩ (fun hHeld => ?_)
    clear hK K
    refine norm_ (a' := ?_) ?_ ?_
    rotate_left
    · show Act.put _ (some 5) _ = _
      simp only [Act.put, s_1, s_2, s_3, i64_w, i32_w]
      rfl
    exact norm_ (by simp only [putAll, Act.put, s_1, s_2, s_3]) (hCont (.slice Ao12 y1243.length co12, gb1246) _ ⟨hHeld, (by (with_reducible repeat (first | apply r_a | apply r_d | apply r_e)); exact HO1245.out), (bK BK1240), (bK BK1241), (bK BK1246), GW1246.out, GE1246.out, NB1240_1246.out, NB1246_1240.out, NB1241_1246.out, NB1246_1241.out, (bB HB)⟩)
  rintro ⟨v1244, gb1246⟩ w14 ⟨hS_, h0_, h1_, h2_, h3_, h4_, h5_, h6_, h7_, h8_, h9_, h10_⟩
  have n0_ : Aside0 (Kd.R Kd.bool 4 w14 w.heap.size (fun _ => True) v1244 y1243) := ⟨h0_⟩
  have n1_ : Aside0 (w14.heap[gb1240]? = some (.cells #[.int .i64 a0_0, .int .i64 a0_1] 28 (0, 0))) := ⟨h1_⟩
  have n2_ : Aside0 (w14.heap[gb1241]? = some (.cells #[.int .i64 0, .int .i64 0, .slice none 0 0] 105 (0, 0))) := ⟨h2_⟩
  have n3_ : Aside0 (w14.heap[gb1246]? = some (.cells #[.int .i64 0, .int .i64 0, .slice none 0 0] 105 (0, 0))) := ⟨h3_⟩
  have n4_ : Aside0 (w.heap.size ≤ gb1246) := ⟨h4_⟩
  have n5_ : Aside0 (w.heap.size ≤ gb1246) := ⟨h5_⟩
  have n6_ : Aside0 (gb1240 ≠ gb1246) := ⟨h6_⟩
  have n7_ : Aside0 (gb1246 ≠ gb1240) := ⟨h7_⟩
  have n8_ : Aside0 (gb1241 ≠ gb1246) := ⟨h8_⟩
  have n9_ : Aside0 (gb1246 ≠ gb1241) := ⟨h9_⟩
  have n10_ : Aside0 (Below w.heap.size w w14) := ⟨h10_⟩
  clear BK1240
  clear BK1241
  clear HB
  clear h0_ h1_ h2_ h3_ h4_ h5_ h6_ h7_ h8_ h9_ h10_
  have HO1245 := n0_
  have BK1240 := n1_
  have BK1241 := n2_
  have BK1246 := n3_
  have GW1246 := n4_
  have GE1246 := n5_
  have NB1240_1246 := n6_
  have NB1246_1240 := n7_
  have NB1241_1246 := n8_
  have NB1246_1241 := n9_
  have HB := n10_
  clear n0_ n1_ n2_ n3_ n4_ n5_ n6_ n7_ n8_ n9_ n10_
  have hHeld : w14.cell? ⟨gb1240, 0, none⟩ = some (.int .i64 a0_0) ∧ w14.cell? ⟨gb1240, 1, none⟩ = some (.int .i64 a0_1) := hS_
  obtain ⟨Ao15, co15, eo15⟩ := Kd.R_slice HO1245.out
  (first | subst eo15 | (injection eo15 with f1_ f2_ f3_; have f4_ := f1_.symm; have f5_ := f3_.symm; clear f1_ f2_ f3_; subst f4_; subst f5_))
  refine norm_ (a' := ?_) ?_ ?_
  rotate_left
  · simp only [putAll, Act.put, s_1, s_2, s_3]
    rfl
  refine one_ (i := 6) (N := none) (bs_ 7 127) rfl rfl (by kernel_rfl) (by decide) (fun K hK => ?_)
  have hs16 : w14.cell? ⟨gb1246, 0, none⟩ = some (.int .i64 0) := (blk_cell BK1246.out 0).trans rfl
  have hfs16 := blk_frozen BK1246.out 0
  have hns16_0 := NB1240_1246.out
  have hns16_1 := NB1241_1246.out
  have hms16_0 := NB1246_1240.out
  have hms16_1 := NB1246_1241.out
  have hs17 : w14.cell? ⟨gb1246, 1, none⟩ = some (.int .i64 0) := (blk_cell BK1246.out 1).trans rfl
  have hfs17 := blk_frozen BK1246.out 1
  have hns17_0 := NB1240_1246.out
  have hns17_1 := NB1241_1246.out
  have hms17_0 := NB1246_1240.out
  have hms17_1 := NB1246_1241.out
  have hs18 : w14.cell? ⟨gb1246, 2, none⟩ = some (.slice none 0 0) := (blk_cell BK1246.out 2).trans rfl
  have hfs18 := blk_frozen BK1246.out 2
  have hns18_0 := NB1240_1246.out
  have hns18_1 := NB1241_1246.out
  have hms18_0 := NB1246_1240.out
  have hms18_1 := NB1246_1241.out
  refine skip_ (w1 := ?_) (by rfl) rfl ?_ ?_
  rotate_left
  · go_simp
    rfl
  refine hK.out _ _ ⟨((cell_far (p := ⟨gb1246, _, none⟩) NB1240_1246.out _).trans (((cell_far (p := ⟨gb1246, _, none⟩) NB1240_1246.out _).trans (((cell_far (p := ⟨gb1246, _, none⟩) NB1240_1246.out _).trans (hHeld.1)))))), ((cell_far (p := ⟨gb1246, _, none⟩) NB1240_1246.out _).trans (((cell_far (p := ⟨gb1246, _, none⟩) NB1240_1246.out _).trans (((cell_far (p := ⟨gb1246, _, none⟩) NB1240_1246.out _).trans (hHeld.2))))))⟩ (fun hHeld => ?_)
  clear hK K
  refine done_ (by kernel_rfl) ?_
  try go_wp2
  go_loopg [15] k (fun kq v15 w' => ∃ (x15_1 : Int) (x1247002_1 : List Bool) (u1247002 : Value), v15 = .int .i64 x15_1 ∧ Aside0 (impl_fieldOf.l0 kq l1 (l1.length : Int) x15_1 a0_0 a0_1 a0_0 a0_1 x1247002_1 = some (r1, r2, r3)) ∧ Aside0 (kq ≤ k) ∧ Aside0 (Kd.R Kd.bool 4 w' w.heap.size (fun _ => True) u1247002 x1247002_1) ∧ Aside0 (w'.heap[gb1240]? = some (.cells #[.int .i64 a0_0, .int .i64 a0_1] 28 (0, 0))) ∧ Aside0 (w'.heap[gb1241]? = some (.cells #[.int .i64 0, .int .i64 0, (.slice none 0 0)] 105 (0, 0))) ∧ Aside0 (w'.heap[gb1246]? = some (.cells #[.int .i64 a0_0, .int .i64 a0_1, u1247002] 105 (0, 0))) ∧ Aside0 (Below w.heap.size w w'))
  case atStart => exact ⟨(0), (y1243), (.slice Ao15 y1243.length co15), (by first | rfl | (simp; done) | (simp [*]; done)), H', ⟨Nat.le_refl _⟩, ⟨by (with_reducible repeat (first | apply r_a | apply r_d | apply r_e)); exact Kd.R_mono (Kd.R_far (p := ⟨gb1246, 2, none⟩) (Kd.R_far (p := ⟨gb1246, 1, none⟩) (Kd.R_far (p := ⟨gb1246, 0, none⟩) (Kd.R_types HO1245.out BK1246.out (by decide)) (fun _ hk => hk.2) (.int .i64 a0_0)) (fun _ hk => hk.2) (.int .i64 a0_1)) (fun _ hk => hk.2) (.slice Ao15 y1243.length co15)) (fun _ hk => trivial)⟩, ⟨bF⟩, ⟨bF⟩, ⟨by (with_reducible repeat (first | refine g_d ?_ _ | refine g_e ?_ | refine g_a ?_ _)); refine blk_put (cs := #[.int .i64 a0_0, .int .i64 a0_1, .slice none 0 0]) ?_ 2 _ rfl; (with_reducible repeat (first | refine g_d ?_ _ | refine g_e ?_ | refine g_a ?_ _)); refine blk_put (cs := #[.int .i64 a0_0, .int .i64 0, .slice none 0 0]) ?_ 1 _ rfl; (with_reducible repeat (first | refine g_d ?_ _ | refine g_e ?_ | refine g_a ?_ _)); refine blk_put (cs := #[.int .i64 0, .int .i64 0, .slice none 0 0]) ?_ 0 _ rfl; (with_reducible repeat (first | refine g_d ?_ _ | refine g_e ?_ | refine g_a ?_ _)); exact BK1246.out⟩, ⟨bB HB⟩⟩
  clear H'
  try clear c1
  try clear c4
  try clear c4b0
  try clear c4b1
  try clear c5
  try clear c5b0
  try clear c5b1
  obtain ⟨x15_1, x1247002_1, u1247002, rfl, HA, HK1, HO_1247002, BK1240, BK1241, BK1246, HB⟩ := hrel
  rcases gk with _ | k1
  · exact absurd HA.out (by simp [impl_fieldOf.l0])
  have H := HA.out
  clear HA
  simp only [impl_fieldOf.l0] at H
  by_cases c19 : x15_1 < (l1.length : Int)
  rotate_left
  · rw [if_neg c19] at H
    have c19b0 : decide (x15_1 < (l1.length : Int)) = false := decide_eq_false c19
    clear c19
    simp only [Option.some.injEq, Prod.mk.injEq] at H
    obtain ⟨rfl, rfl, rfl⟩ := H
    have hnb29 := NB1246_1240.out
    have hnc29 := NB1240_1246.out
    have hnb30 := NB1246_1241.out
    have hnc30 := NB1241_1246.out
    have hcz31_0 : wr.cell? ⟨gb1246, 0, none⟩ = some (.int .i64 a0_0) := (blk_cell BK1246.out 0).trans rfl
    have hcz31_1 : wr.cell? ⟨gb1246, 1, none⟩ = some (.int .i64 a0_1) := (blk_cell BK1246.out 1).trans rfl
    have hcz31_2 : wr.cell? ⟨gb1246, 2, none⟩ = some (u1247002) := (blk_cell BK1246.out 2).trans rfl
    have hfz31_0 := blk_frozen BK1246.out 0
    have hfz31_1 := blk_frozen BK1246.out 1
    have hfz31_2 := blk_frozen BK1246.out 2
    have hnb32 := NB1241_1240.out
    have hnc32 := NB1240_1241.out
    have hcz33_0 : wr.cell? ⟨gb1241, 0, none⟩ = some (.int .i64 0) := (blk_cell BK1241.out 0).trans rfl
    have hcz33_1 : wr.cell? ⟨gb1241, 1, none⟩ = some (.int .i64 0) := (blk_cell BK1241.out 1).trans rfl
    have hcz33_2 : wr.cell? ⟨gb1241, 2, none⟩ = some (.slice none 0 0) := (blk_cell BK1241.out 2).trans rfl
    have hfz33_0 := blk_frozen BK1241.out 0
    have hfz33_1 := blk_frozen BK1241.out 1
    have hfz33_2 := blk_frozen BK1241.out 2
    obtain ⟨Ao34, co34, eo34⟩ := Kd.R_slice HO_1247002.out
    subst eo34
    go_wp2
    refine bodyPost_ret (results_cell_row rfl _ _ gb1241 105 #[.int .i64 a0_0, .int .i64 a0_1, .slice Ao34 x1247002_1.length co34] (0, 0) _ rfl (by (with_reducible repeat (first | refine g_d ?_ _ | refine g_e ?_ | refine g_a ?_ _)); refine blk_put (cs := #[.int .i64 a0_0, .int .i64 a0_1, .slice none 0 0]) ?_ 2 _ rfl; (with_reducible repeat (first | refine g_d ?_ _ | refine g_e ?_ | refine g_a ?_ _)); refine blk_put (cs := #[.int .i64 a0_0, .int .i64 0, .slice none 0 0]) ?_ 1 _ rfl; (with_reducible repeat (first | refine g_d ?_ _ | refine g_e ?_ | refine g_a ?_ _)); refine blk_put (cs := #[.int .i64 0, .int .i64 0, .slice none 0 0]) ?_ 0 _ rfl; (with_reducible repeat (first | refine g_d ?_ _ | refine g_e ?_ | refine g_a ?_ _)); exact BK1241.out) Try.underlying105 rfl (by kernel_rfl)) rfl ?_
    exact ⟨_, by first | rfl | (simp [errW_none, errW_some] <;> rfl) | (simp [*, errW_none, errW_some] <;> rfl), by (with_reducible repeat (first | apply r_a | apply r_d | apply r_e)); exact Kd.R_mono (Kd.R_far (p := ⟨gb1241, 2, none⟩) (Kd.R_far (p := ⟨gb1241, 1, none⟩) (Kd.R_far (p := ⟨gb1241, 0, none⟩) (Kd.R_types HO_1247002.out BK1241.out (by decide)) (fun _ hk => hk.2) (.int .i64 a0_0)) (fun _ hk => hk.2) (.int .i64 a0_1)) (fun _ hk => hk.2) (.slice Ao34 x1247002_1.length co34)) (fun _ hk => trivial), bB HB⟩
  rw [if_pos c19] at H
  have c19b0 : decide (x15_1 < (l1.length : Int)) = true := decide_eq_true c19
  clear c19
  by_cases c20 : 0 ≤ x15_1
  rotate_left
  · rw [if_neg c20] at H
    exact absurd H (by simp)
  rw [if_pos c20] at H
  have c20b0 : decide (0 ≤ x15_1) = true := decide_eq_true c20
  clear c20
  by_cases c21 : x15_1 < (l1.length : Int)
  rotate_left
  · rw [if_neg c21] at H
    exact absurd H (by simp)
  rw [if_pos c21] at H
  have c21b0 : decide (x15_1 < (l1.length : Int)) = true := decide_eq_true c21
  clear c21
  replace H := Option.bind_eq_some_iff.mp H
  obtain ⟨t1248, A220, H⟩ := H
  try dsimp only at H
  have A22 := Aside0.mk A220
  clear A220
  by_cases c23 : 0 ≤ t1248
  rotate_left
  · rw [if_neg c23] at H
    exact absurd H (by simp)
  rw [if_pos c23] at H
  have c23b0 : decide (0 ≤ t1248) = true := decide_eq_true c23
  clear c23
  by_cases c24 : t1248 < (x1247002_1.length : Int)
  rotate_left
  · rw [if_neg c24] at H
    exact absurd H (by simp)
  rw [if_pos c24] at H
  have c24b0 : decide (t1248 < (x1247002_1.length : Int)) = true := decide_eq_true c24
  clear c24
  obtain ⟨y1249, hy1249⟩ : ∃ y_ : List Bool, y_ = (x1247002_1.set (t1248 : Int).toNat true) := ⟨_, rfl⟩
  replace H : (impl_fieldOf.l0 k1 l1 (l1.length : Int) (wrap64 (x15_1 + 1)) a0_0 a0_1 a0_0 a0_1 y1249) = some (r1, r2, r3) := by first | (rw [hy1249]; with_reducible exact H) | (have H2_ := (Option.bind_some _ _).symm.trans H; rw [hy1249]; with_reducible exact H2_) | (have H2_ := (Option.bind_some _ _).symm.trans H; with_reducible exact H2_) | with_reducible exact H | (rw [hy1249]; exact H) | exact H
  have Ny1249 := Aside0.mk hy1249
  clear hy1249
  have H' := Aside0.mk H
  clear H
  have p1247 : 0 ≤ (x15_1 : Int) := of_decide_eq_true (by first | (with_reducible assumption) | assumption)
  have q1247 : x15_1 < (l1.length : Int) := of_decide_eq_true (by first | (with_reducible assumption) | assumption)
  obtain ⟨ad1247, e1247, hx1247_0⟩ := Kd.at_string HR1.out x15_1 p1247 q1247
  cases e1247
  replace hx1247_0 := (HB.out.cell (World.block_lt_of_cell? w _ hx1247_0)).trans hx1247_0
  replace p1247 := eq_true p1247
  replace q1247 := eq_true q1247
  try go_wp2
  have n0_ := Aside0.mk (r_e HO_1247002.out)
  have n1_ := Aside0.mk (g_e BK1240.out)
  have n2_ := Aside0.mk (g_e BK1241.out)
  have n3_ := Aside0.mk (g_e BK1246.out)
  have n4_ := Aside0.mk (b_e HB.out)
  clear HO_1247002
  clear BK1240
  clear BK1241
  clear BK1246
  clear HB
  have HO_1247002 := n0_
  have BK1240 := n1_
  have BK1241 := n2_
  have BK1246 := n3_
  have HB := n4_
  clear n0_ n1_ n2_ n3_ n4_
  refine start_ (n := 7) (S := fun w' => w'.cell? ⟨gb1246, 0, none⟩ = some (.int .i64 a0_0) ∧ w'.cell? ⟨gb1246, 1, none⟩ = some (.int .i64 a0_1) ∧ w'.cell? ⟨gb1246, 2, none⟩ = some (u1247002) ∧ w'.cell? ⟨gb1240, 0, none⟩ = some (.int .i64 a0_0) ∧ w'.cell? ⟨gb1240, 1, none⟩ = some (.int .i64 a0_1)) (ds := [6]) (bs_ 7 0) (by kernel_rfl) rfl rfl ⟨(blk_cell BK1246.out 0).trans rfl, (blk_cell BK1246.out 1).trans rfl, (blk_cell BK1246.out 2).trans rfl, (blk_cell BK1240.out 0).trans rfl, (blk_cell BK1240.out 1).trans rfl⟩ (fun hHeld => ?_)
  generalize wr.drew = w26 at HO_1247002 BK1240 BK1241 BK1246 HB hHeld ⊢
  refine pure_ (i := 0) (N := some 19) (v := ?_) (a' := ?_) (bs_ 7 1) rfl rfl (by kernel_rfl) (fun _ _ _ h => h) (Or.inl ⟨by rfl, ?_⟩) ?_ ?_
  rotate_left
  · intro w'
    go_simp
    with_reducible rfl
  rotate_left
  · simp only [Act.put, s_1, s_2, s_3, i64_w, i32_w]
    rfl
  refine pure_ (i := 3) (N := some 22) (v := ?_) (a' := ?_) (bs_ 7 9) rfl rfl (by kernel_rfl) (fun _ _ _ h => h) (Or.inl ⟨by rfl, ?_⟩) ?_ ?_
  rotate_left
  · intro w'
    go_simp
    with_reducible rfl
  rotate_left
  · simp only [Act.put, s_1, s_2, s_3, i64_w, i32_w]
    rfl
  refine take_ (i := 1) (N := some 20) (v := ?_) (a' := ?_) (bs_ 7 11) rfl rfl (by kernel_rfl) (fun _ _ _ h => h) (Or.inl ⟨by rfl, ?_⟩) hHeld ?_ ?_
  rotate_left
  · rintro w' ⟨s0, s1, s2, s3, s4⟩
    go_simp
    with_reducible rfl
  rotate_left
  · simp only [Act.put, s_1, s_2, s_3, i64_w, i32_w]
    rfl
  refine take_ (i := 2) (N := some 21) (v := ?_) (a' := ?_) (bs_ 7 15) rfl rfl (by kernel_rfl) (fun _ _ _ h => h) (Or.inl ⟨by rfl, ?_⟩) hHeld ?_ ?_
  rotate_left
  · rintro w' ⟨s0, s1, s2, s3, s4⟩
    go_simp
    with_reducible rfl
  rotate_left
  · simp only [Act.put, s_1, s_2, s_3, i64_w, i32_w]
    rfl
  refine one_ (i := 4) (N := some 23) (bs_ 7 31) rfl rfl (by kernel_rfl) (by decide) (fun K hK => ?_)
  refine goes_ Try.func68 (by kernel_rfl) rfl #[.agg #[.int .i64 a0_0, .int .i64 a0_1], .string (rdOf ByteArray.empty l1 x15_1)] (by rfl) rfl rfl (by (try simp only [m_1, m_2, m_3]); first | done | rfl | (simp only [m_4, m_5]; rfl)) ?_
  with_reducible refine (impl_Lock_number.calls k1 a0_0 a0_1 (rdOf ByteArray.empty l1 x15_1) t1248 _ A22.out).mono ?_
  rintro e w27 ⟨rfl, hb⟩
  refine ⟨_, rfl, ?_⟩
  have n0_ := Aside0.mk (Kd.R_below (by (with_reducible repeat (first | apply r_a | apply r_d | apply r_e)); exact HO_1247002.out) hb)
  have n1_ := bbx hb BK1240
  have n2_ := bbx hb BK1241
  have n3_ := bbx hb BK1246
  have n4_ := bsx hb HB
  clear HO_1247002
  clear BK1240
  clear BK1241
  clear BK1246
  clear HB
  have HO_1247002 := n0_
  have BK1240 := n1_
  have BK1241 := n2_
  have BK1246 := n3_
  have HB := n4_
  clear n0_ n1_ n2_ n3_ n4_
  (try clear hb)
  (try clear hb2)
  (try clear hk)
  (try clear hi)
  have p25 : 0 ≤ (t1248 : Int) := of_decide_eq_true (by first | (with_reducible assumption) | assumption)
  have q25 : (t1248 : Int) < ((x1247002_1.length : Int) : Int) := of_decide_eq_true (by first | (with_reducible assumption) | assumption)
  obtain ⟨go25, co25, eo25, gb25, gl25, cl25, HG25⟩ := Kd.R_form HO_1247002.out (by omega)
  (first | cases eo25 | (injection eo25 with ea_ en_ ec_; (first | subst ea_ | (injection ea_ with ea_; subst ea_)); subst ec_; clear en_))
  have GB25 := Aside0.mk gb25
  have GG25 := Aside0.mk HG25
  clear gb25 gl25 HG25
  obtain ⟨hx25_0, hf25_0⟩ := Kd.R_celln false HO_1247002.out (t1248 : Int) p25 q25
  replace p25 := eq_true p25
  replace q25 := eq_true q25
  have HP28 := Kd.R_putn HO_1247002.out (t1248 : Int) true
  rw [← Ny1249.out] at HP28
  have HQ28 := Aside0.mk HP28
  clear HP28
  refine hK.out _ _ ⟨(blk_cell BK1246.out 0).trans rfl, (blk_cell BK1246.out 1).trans rfl, (blk_cell BK1246.out 2).trans rfl, (blk_cell BK1240.out 0).trans rfl, (blk_cell BK1240.out 1).trans rfl⟩ (fun hHeld => ?_)
  clear hK K
  refine norm_ (a' := ?_) ?_ ?_
  rotate_left
  · show Act.put _ (some 23) _ = _
    simp only [Act.put, s_1, s_2, s_3, i64_w, i32_w]
    rfl
  refine pure_ (i := 5) (N := some 24) (v := ?_) (a' := ?_) (bs_ 7 63) rfl rfl (by kernel_rfl) (fun _ _ _ h => h) (Or.inl ⟨by rfl, ?_⟩) ?_ ?_
  rotate_left
  · intro w'
    go_simp
    with_reducible rfl
  rotate_left
  · simp only [Act.put, s_1, s_2, s_3, i64_w, i32_w]
    rfl
  refine last_ (i := 6) (N := none) (bs_ 7 127) rfl rfl (by kernel_rfl) (by decide) (fun K hK => ?_)
  refine skip_ (w1 := ?_) (by rfl) rfl ?_ ?_
  rotate_left
  · go_simp
    rfl
  refine hK.out _ _ ?_
  clear hK K
  refine done_ (by kernel_rfl) ?_
  try go_wp2
  go_roundg k1
  case measure => have := HK1.out; omega
  case rel => exact ⟨(wrap64 (x15_1 + 1)), (y1249), (.slice (some ⟨go25, 0, none⟩) x1247002_1.length co25), (by first | rfl | (simp; done) | (simp [*]; done)), H', ⟨by have := HK1.out; omega⟩, ⟨by (with_reducible repeat (first | apply r_a | apply r_d | apply r_e)); exact HQ28.out⟩, ⟨by (with_reducible repeat (first | refine g_d ?_ _ | refine g_e ?_ | refine g_a ?_ _)); refine blk_far ?_ (by have h_ := Kd.R_ne HO_1247002.out BK1240.out (by decide); intro e_; exact h_ (by rw [e_]; rfl)) _; (with_reducible repeat (first | refine g_d ?_ _ | refine g_e ?_ | refine g_a ?_ _)); exact BK1240.out⟩, ⟨by (with_reducible repeat (first | refine g_d ?_ _ | refine g_e ?_ | refine g_a ?_ _)); refine blk_far ?_ (by have h_ := Kd.R_ne HO_1247002.out BK1241.out (by decide); intro e_; exact h_ (by rw [e_]; rfl)) _; (with_reducible repeat (first | refine g_d ?_ _ | refine g_e ?_ | refine g_a ?_ _)); exact BK1241.out⟩, ⟨by (with_reducible repeat (first | refine g_d ?_ _ | refine g_e ?_ | refine g_a ?_ _)); refine blk_far ?_ (by have h_ := Kd.R_ne HO_1247002.out BK1246.out (by decide); intro e_; exact h_ (by rw [e_]; rfl)) _; (with_reducible repeat (first | refine g_d ?_ _ | refine g_e ?_ | refine g_a ?_ _)); exact BK1246.out⟩, ⟨by repeat (first | (with_reducible first | exact HB.out | apply b_a | apply b_d | apply b_e | refine b_s ?_ GB25.out | refine b_s ?_ GE1240.out | refine b_s ?_ GE1241.out | refine b_s ?_ GE1246.out) | exact HB.out)⟩⟩
/-! ### impl_field_steps: function 146 -/
def impl_field_steps.l0 : Nat → Int → List Int → Int → Int → Int → Int → Int → List Bool → Option (List Int)
  | 0, _, _, _, _, _, _, _, _ => none
  | k + 1, x1, x5, x6, x14, x15, x1251000, x1251001, x1251002 => if x15 < x14 then (if x1251001 = 0 then (none) else (if (wrap64 (Int.tdiv x6 x1251001)) = 0 then (none) else ((impl_around.f (wrap64 ((Int.tmod (wrap64 (Int.tdiv x1 (wrap64 (Int.tdiv x6 x1251001)))) x1251001) + 1)) x1251001).bind fun t1255 => ((impl_around.f (wrap64 ((Int.tmod (wrap64 (Int.tdiv x1 (wrap64 (Int.tdiv x6 x1251001)))) x1251001) - 1)) x1251001).bind fun t1256 => ((some (([wrap64 (x1 + (wrap64 ((wrap64 (t1255 - (Int.tmod (wrap64 (Int.tdiv x1 (wrap64 (Int.tdiv x6 x1251001)))) x1251001))) * (wrap64 (Int.tdiv x6 x1251001))))), wrap64 (x1 + (wrap64 ((wrap64 (t1256 - (Int.tmod (wrap64 (Int.tdiv x1 (wrap64 (Int.tdiv x6 x1251001)))) x1251001))) * (wrap64 (Int.tdiv x6 x1251001)))))] : List Int) : List Int)).bind fun y1257 => (if x5.length + y1257.length < 17592186044416 then (impl_field_steps.l0 k x1 (x5 ++ y1257) (wrap64 (Int.tdiv x6 x1251001)) x14 (wrap64 (x15 + 1)) x1251000 x1251001 x1251002) else (none))))))) else (some x5)
def impl_field_steps.f (k : Nat) (a0_0 : Int) (a0_1 : Int) (l0_2 : List Bool) (a1 : Int) : Option (List Int) := (impl_Lock_count.f k a0_0 a0_1).bind fun t1254 => (impl_field_steps.l0 k a1 (([] : List Int)) t1254 a0_0 0 a0_0 a0_1 l0_2)
theorem impl_field_steps.mono_l : ∀ k, (∀ y0 y1 y2 y3 y4 y5 y6 y7, LeO (impl_field_steps.l0 k y0 y1 y2 y3 y4 y5 y6 y7) (impl_field_steps.l0 (k + 1) y0 y1 y2 y3 y4 y5 y6 y7))
  | 0 => fun _ _ _ _ _ _ _ _ r h => by simp [impl_field_steps.l0] at h
  | k + 1 => by
    have ih0 := impl_field_steps.mono_l k
    · intro y0 y1 y2 y3 y4 y5 y6 y7
      unfold impl_field_steps.l0
      repeat' first
      | (with_reducible exact ih0 _ _ _ _ _ _ _ _)
      | (with_reducible exact impl_Lock_count.mono _ _ _)
      | (with_reducible exact LeO.refl _)
      | (with_reducible exact LeO.none _)
      | (with_reducible refine LeO.ite ?_ ?_)
      | (with_reducible refine LeO.bind ?_ (fun _ => ?_))
      | exact ih0 _ _ _ _ _ _ _ _
      | exact impl_Lock_count.mono _ _ _
      | exact LeO.none _
      | refine LeO.ite ?_ ?_
      | refine LeO.bind ?_ (fun _ => ?_)
theorem impl_field_steps.mono : ∀ a0 a1 a2 a3 k, LeO (impl_field_steps.f k a0 a1 a2 a3) (impl_field_steps.f (k + 1) a0 a1 a2 a3) := by
  intro a0 a1 a2 a3 k
  have ih0 := impl_field_steps.mono_l k
  unfold impl_field_steps.f
  repeat' first
      | (with_reducible exact ih0 _ _ _ _ _ _ _ _)
      | (with_reducible exact impl_Lock_count.mono _ _ _)
      | (with_reducible exact LeO.refl _)
      | (with_reducible exact LeO.none _)
      | (with_reducible refine LeO.ite ?_ ?_)
      | (with_reducible refine LeO.bind ?_ (fun _ => ?_))
      | exact ih0 _ _ _ _ _ _ _ _
      | exact impl_Lock_count.mono _ _ _
      | exact LeO.none _
      | refine LeO.ite ?_ ?_
      | refine LeO.bind ?_ (fun _ => ?_)
def impl_field_steps.T5 : Bool × List (List Nat × List Nat) := (true, [([], []), ([], []), ([0, 1], [0, 1]), ([], []), ([3], [3]), ([4], [4]), ([2, 5], [2, 5]), ([6, 0, 1, 2, 3, 4, 5, 6], [6])])
def impl_field_steps.B5 : List Nat := [0, 0, 3, 0, 8, 24, 63, 127]
theorem impl_field_steps.tab5 : rtab .any (opsOf Try.f146 5) = impl_field_steps.T5 := by kernel_rfl
theorem impl_field_steps.bits5 : waitsOk impl_field_steps.T5.2 impl_field_steps.B5 = true := by kernel_rfl
def impl_field_steps.T6 : Bool × List (List Nat × List Nat) := (true, [([], []), ([], []), ([], []), ([2], [2]), ([], []), ([4], [4]), ([5], [5]), ([3, 6], [3, 6]), ([], []), ([7, 8], [7, 8]), ([], []), ([9, 10], [9, 10]), ([1, 11], [1, 11]), ([], []), ([], []), ([14], [14]), ([], []), ([16], [16]), ([17], [17]), ([15, 18, 7], [15, 18]), ([], []), ([19, 20], [19, 20]), ([], []), ([21, 22], [21, 22]), ([13, 23], [13, 23]), ([12, 24], [12, 24]), ([0, 25, 19], [0, 25]), ([26, 26, 0, 1, 2, 3, 4, 5, 6, 7, 8, 9, 10, 11, 12, 13, 14, 15, 16, 17, 18, 19, 20, 21, 22, 23, 24, 25, 26], [0, 26])])
def impl_field_steps.B6 : List Nat := [0, 0, 0, 4, 0, 16, 48, 124, 0, 508, 0, 2044, 4094, 0, 0, 16384, 0, 65536, 196608, 508156, 0, 2081020, 0, 8372476, 16769276, 33554430, 67108863, 134217727]
theorem impl_field_steps.tab6 : rtab .any (opsOf Try.f146 6) = impl_field_steps.T6 := by kernel_rfl
theorem impl_field_steps.bits6 : waitsOk impl_field_steps.T6.2 impl_field_steps.B6 = true := by kernel_rfl
set_option maxHeartbeats 8000000 in
set_option maxRecDepth 100000 in
theorem impl_field_steps.calls (k : Nat) (a0_0 : Int) (a0_1 : Int) (A0_2 : Option Addr) (c0_2 : Nat) (l0_2 : List Bool) (a1 : Int) (r : List Int) (w : World) (hr0_2 : Kd.C Kd.bool w A0_2 l0_2.length l0_2) (hc0_2 : l0_2.length ≤ c0_2) (h : impl_field_steps.f k a0_0 a0_1 l0_2 a1 = some r) :
    Calls Try.prog 146 #[.agg #[.int .i64 a0_0, .int .i64 a0_1, .slice A0_2 l0_2.length c0_2], .int .i64 a1] w fun e w' => ∃ v0_ : Value, e = .returned (v0_) ∧ Kd.R (Kd.int .i64) 3 w' w.heap.size (fun _ => True) v0_ r ∧ Below w.heap.size w w' := by
  have hu105 := Try.underlying105
  have hu28 := Try.underlying28
  have HR0_2 := Aside0.mk hr0_2
  have HC0_2 := Aside0.mk hc0_2
  clear hr0_2 hc0_2
  have HB := Aside0.mk (Below.refl w.heap.size w)
  have H : ((impl_Lock_count.f k a0_0 a0_1).bind fun t1254 => (impl_field_steps.l0 k a1 (([] : List Int)) t1254 a0_0 0 a0_0 a0_1 l0_2)) = some r := h
  clear h
  obtain ⟨y1251, hy1251⟩ : ∃ y_ : List Int, y_ = (([] : List Int)) := ⟨_, rfl⟩
  replace H : ((impl_Lock_count.f k a0_0 a0_1).bind fun t1254 => (impl_field_steps.l0 k a1 y1251 t1254 a0_0 0 a0_0 a0_1 l0_2)) = some r := by first | (rw [hy1251]; with_reducible exact H) | (have H2_ := (Option.bind_some _ _).symm.trans H; rw [hy1251]; with_reducible exact H2_) | (have H2_ := (Option.bind_some _ _).symm.trans H; with_reducible exact H2_) | with_reducible exact H | (rw [hy1251]; exact H) | exact H
  have Ny1251 := Aside0.mk hy1251
  clear hy1251
  replace H := Option.bind_eq_some_iff.mp H
  obtain ⟨t1254, A30, H⟩ := H
  try dsimp only at H
  have A3 := Aside0.mk A30
  clear A30
  have H' := Aside0.mk H
  clear H
  go_enter Try.func146, Try.ntmps146
  go_wp2_with (first | ((with_reducible refine gate_dst (N := 2) rfl ?_); refine box_event ?hg (N := 2) ?hd (cs := #[.int .i64 a0_0, .int .i64 a0_1, .slice A0_2 l0_2.length c0_2]) (t := 105) ?hr ?_; (case hd => rfl); (case hg => rfl); (case hr => first | (go_simp; done) | (go_simp; rfl)); intro gb1250 hg w4 hbox hb; have n0_ := bsx hb HB; have n1_ := Aside0.mk (hbox); have n2_ := gwx hg HB; have n3_ := n2_; clear HB; have HB := n0_; have BK1250 := n1_; have GW1250 := n2_; have GE1250 := n3_; clear n0_ n1_ n2_ n3_; clear hb hbox hg) | ((with_reducible refine gate_dst (N := 8) rfl ?_); refine Kd.R_lit (Kd.int .i64) _ 3 ?hg (N := 8) ?hd (xs := ([] : List Int)) (inner := []) (ok := fun _ => True) (okp := fun _ => True) ?hr ?hp (fun _ hk => hk) trivial (Below.refl _ _) (Nat.le_refl _) (by simp) ?_; (case hd => rfl); (case hg => rfl); (case hr => first | (go_simp; done) | (go_simp; rfl)); (case hp => exact (Reps.none _ _)); intro v1252 w5 ho6 hb hg_ hnew_; clear hg_ hnew_; (first | rw [← Ny1251.out] at ho6 | (simp only [Int.reduceToNat] at ho6; rw [← Ny1251.out] at ho6)); have n0_ := Aside0.mk (Kd.R_lower ho6 (below_size (bB HB))); replace BK1250 := bbx hb BK1250; have n2_ := bsx hb HB; clear HB; have HO1253 := n0_; have HB := n2_; clear n0_ n2_; clear hb ho6; have hcz7_0 : w5.cell? ⟨gb1250, 0, none⟩ = some (.int .i64 a0_0) := (blk_cell BK1250.out 0).trans rfl; have hcz7_1 : w5.cell? ⟨gb1250, 1, none⟩ = some (.int .i64 a0_1) := (blk_cell BK1250.out 1).trans rfl; have hcz7_2 : w5.cell? ⟨gb1250, 2, none⟩ = some (.slice A0_2 l0_2.length c0_2) := (blk_cell BK1250.out 2).trans rfl; have hfz7_0 := blk_frozen BK1250.out 0; have hfz7_1 := blk_frozen BK1250.out 1; have hfz7_2 := blk_frozen BK1250.out 2) | ((with_reducible refine gate_callee (f := 107) rfl ?_); refine goesL_ (some 11) rfl rfl Try.func107 (by kernel_rfl) rfl #[.agg #[.int .i64 a0_0, .int .i64 a0_1]] rfl (by (try simp only [m_1, m_2, m_3]); first | done | rfl | (simp only [m_4, m_5]; rfl)) ?_; (with_reducible refine (impl_Lock_count.calls k a0_0 a0_1 t1254 _ A3.out).mono ?_); rintro e w8 ⟨rfl, hb⟩; refine ⟨_, rfl, ?_⟩; have n0_ := Aside0.mk (Kd.R_below (by (with_reducible repeat (first | apply r_a | apply r_d | apply r_e)); exact HO1253.out) hb); replace BK1250 := bbx hb BK1250; replace HB := bsx hb HB; clear HO1253; have HO1253 := n0_; clear n0_; (try clear hb); (try clear hb2); (try clear hk); (try clear hi); have hcz9_0 : w8.cell? ⟨gb1250, 0, none⟩ = some (.int .i64 a0_0) := (blk_cell BK1250.out 0).trans rfl; have hcz9_1 : w8.cell? ⟨gb1250, 1, none⟩ = some (.int .i64 a0_1) := (blk_cell BK1250.out 1).trans rfl; have hcz9_2 : w8.cell? ⟨gb1250, 2, none⟩ = some (.slice A0_2 l0_2.length c0_2) := (blk_cell BK1250.out 2).trans rfl; have hfz9_0 := blk_frozen BK1250.out 0; have hfz9_1 := blk_frozen BK1250.out 1; have hfz9_2 := blk_frozen BK1250.out 2))
  go_loopg [5, 6, 15] k (fun kq v5 v6 v15 w' => ∃ (x5_1 : List Int) (x6_1 : Int) (x15_1 : Int), v6 = .int .i64 x6_1 ∧ v15 = .int .i64 x15_1 ∧ Aside0 (impl_field_steps.l0 kq a1 x5_1 x6_1 a0_0 x15_1 a0_0 a0_1 l0_2 = some r) ∧ Aside0 (kq ≤ k) ∧ Aside0 (Kd.R (Kd.int .i64) 3 w' w.heap.size (fun _ => True) v5 x5_1) ∧ Aside0 (w'.heap[gb1250]? = some (.cells #[.int .i64 a0_0, .int .i64 a0_1, (.slice A0_2 l0_2.length c0_2)] 105 (0, 0))) ∧ Aside0 (Below w.heap.size w w'))
  case atStart => refine ⟨(y1251), (t1254), (0), (by first | rfl | (simp; done) | (simp [*]; done)), (by first | rfl | (simp; done) | (simp [*]; done)), H', ⟨Nat.le_refl _⟩, ⟨?_⟩, ⟨?_⟩, ⟨bB HB⟩⟩ <;> (with_reducible repeat (first | refine g_d ?_ _ | refine g_e ?_ | refine g_a ?_ _ | apply r_a | apply r_d | apply r_e)) <;> first | exact BK1250.out | exact HO1253.out
  clear H'
  try clear hcz7_0
  try clear hcz7_1
  try clear hcz7_2
  try clear hcz9_0
  try clear hcz9_1
  try clear hcz9_2
  try clear hfz7_0
  try clear hfz7_1
  try clear hfz7_2
  try clear hfz9_0
  try clear hfz9_1
  try clear hfz9_2
  obtain ⟨x5_1, x6_1, x15_1, rfl, rfl, HA, HK1, HO_5, BK1250, HB⟩ := hrel
  rcases gk with _ | k1
  · exact absurd HA.out (by simp [impl_field_steps.l0])
  have H := HA.out
  clear HA
  simp only [impl_field_steps.l0] at H
  by_cases c10 : x15_1 < a0_0
  rotate_left
  · rw [if_neg c10] at H
    have c10b0 : decide (x15_1 < a0_0) = false := decide_eq_false c10
    clear c10
    obtain rfl := Option.some.inj H
    go_wp2
    go_ret
    exact ⟨_, by first | rfl | (simp [errW_none, errW_some] <;> rfl) | (simp [*, errW_none, errW_some] <;> rfl), by (with_reducible repeat (first | apply r_a | apply r_d | apply r_e)); exact HO_5.out, bB HB⟩

  rw [if_pos c10] at H
  have c10b0 : decide (x15_1 < a0_0) = true := decide_eq_true c10
  clear c10
  by_cases c11 : a0_1 = 0
  · rw [if_pos c11] at H
    exact absurd H (by simp)
  rw [if_neg c11] at H
  have c11b0 : (a0_1 == 0) = false := beq_eq_false_iff_ne.mpr c11
  have c11b1 : (a0_1 != 0) = true := bne_iff_ne.mpr c11
  by_cases c12 : (wrap64 (Int.tdiv x6_1 a0_1)) = 0
  · rw [if_pos c12] at H
    exact absurd H (by simp)
  rw [if_neg c12] at H
  have c12b0 : ((wrap64 (Int.tdiv x6_1 a0_1)) == 0) = false := beq_eq_false_iff_ne.mpr c12
  have c12b1 : ((wrap64 (Int.tdiv x6_1 a0_1)) != 0) = true := bne_iff_ne.mpr c12
  replace H := Option.bind_eq_some_iff.mp H
  obtain ⟨t1255, A130, H⟩ := H
  try dsimp only at H
  have A13 := Aside0.mk A130
  clear A130
  replace H := Option.bind_eq_some_iff.mp H
  obtain ⟨t1256, A140, H⟩ := H
  try dsimp only at H
  have A14 := Aside0.mk A140
  clear A140
  obtain ⟨y1257, hy1257⟩ : ∃ y_ : List Int, y_ = (([wrap64 (a1 + (wrap64 ((wrap64 (t1255 - (Int.tmod (wrap64 (Int.tdiv a1 (wrap64 (Int.tdiv x6_1 a0_1)))) a0_1))) * (wrap64 (Int.tdiv x6_1 a0_1))))), wrap64 (a1 + (wrap64 ((wrap64 (t1256 - (Int.tmod (wrap64 (Int.tdiv a1 (wrap64 (Int.tdiv x6_1 a0_1)))) a0_1))) * (wrap64 (Int.tdiv x6_1 a0_1)))))] : List Int)) := ⟨_, rfl⟩
  replace H : (if x5_1.length + y1257.length < 17592186044416 then (impl_field_steps.l0 k1 a1 (x5_1 ++ y1257) (wrap64 (Int.tdiv x6_1 a0_1)) a0_0 (wrap64 (x15_1 + 1)) a0_0 a0_1 l0_2) else (none)) = some r := by first | (rw [hy1257]; with_reducible exact H) | (have H2_ := (Option.bind_some _ _).symm.trans H; rw [hy1257]; with_reducible exact H2_) | (have H2_ := (Option.bind_some _ _).symm.trans H; with_reducible exact H2_) | with_reducible exact H | (rw [hy1257]; exact H) | exact H
  have Ny1257 := Aside0.mk hy1257
  clear hy1257
  by_cases c15 : x5_1.length + y1257.length < 17592186044416
  rotate_left
  · rw [if_neg c15] at H
    exact absurd H (by simp)
  rw [if_pos c15] at H
  have LMc15 := Aside0.mk c15
  clear c15
  obtain ⟨y1260, hy1260⟩ : ∃ y_ : List Int, y_ = (x5_1 ++ y1257) := ⟨_, rfl⟩
  replace H : (impl_field_steps.l0 k1 a1 y1260 (wrap64 (Int.tdiv x6_1 a0_1)) a0_0 (wrap64 (x15_1 + 1)) a0_0 a0_1 l0_2) = some r := by first | (rw [hy1260]; with_reducible exact H) | (have H2_ := (Option.bind_some _ _).symm.trans H; rw [hy1260]; with_reducible exact H2_) | (have H2_ := (Option.bind_some _ _).symm.trans H; with_reducible exact H2_) | with_reducible exact H | (rw [hy1260]; exact H) | exact H
  have Ny1260 := Aside0.mk hy1260
  clear hy1260
  have H' := Aside0.mk H
  clear H
  have hcz16_0 : wr.cell? ⟨gb1250, 0, none⟩ = some (.int .i64 a0_0) := (blk_cell BK1250.out 0).trans rfl
  have hcz16_1 : wr.cell? ⟨gb1250, 1, none⟩ = some (.int .i64 a0_1) := (blk_cell BK1250.out 1).trans rfl
  have hcz16_2 : wr.cell? ⟨gb1250, 2, none⟩ = some (.slice A0_2 l0_2.length c0_2) := (blk_cell BK1250.out 2).trans rfl
  have hfz16_0 := blk_frozen BK1250.out 0
  have hfz16_1 := blk_frozen BK1250.out 1
  have hfz16_2 := blk_frozen BK1250.out 2
  try go_wp2
  have n0_ := Aside0.mk (r_e HO_5.out)
  have n1_ := Aside0.mk (g_e BK1250.out)
  have n2_ := Aside0.mk (b_e HB.out)
  clear HO_5
  clear BK1250
  clear HB
  have HO_5 := n0_
  have BK1250 := n1_
  have HB := n2_
  clear n0_ n1_ n2_
  refine start_ (n := 8) (S := fun w' => w'.cell? ⟨gb1250, 0, none⟩ = some (.int .i64 a0_0) ∧ w'.cell? ⟨gb1250, 1, none⟩ = some (.int .i64 a0_1) ∧ w'.cell? ⟨gb1250, 2, none⟩ = some (.slice A0_2 l0_2.length c0_2)) (ds := []) (bs_ 8 0) (by kernel_rfl) rfl rfl ⟨(blk_cell BK1250.out 0).trans rfl, (blk_cell BK1250.out 1).trans rfl, (blk_cell BK1250.out 2).trans rfl⟩ (fun hHeld => ?_); refine with_tabW impl_field_steps.tab5 impl_field_steps.bits5 (fun HT_ HW_ => ?_)
  generalize wr.drew = w17 at HO_5 BK1250 HB hHeld ⊢
  refine pua 0 22 (bs_ 8 1) HT_ ?_
  refine pua 1 23 (bs_ 8 3) HT_ ?_
  refine pua 2 24 (bs_ 8 7) HT_ ?_
  refine pua 3 25 (bs_ 8 15) HT_ ?_
  refine pua 4 26 (bs_ 8 31) HT_ ?_
  refine tk_ 5 27 (bs_ 8 63) rfl rfl HT_ HW_ (by kernel_rfl) (fun _ _ _ h => h) (by rfl) hHeld (by rintro w' ⟨s0, s1, s2⟩; go_simp; with_reducible rfl) (by simp only [Act.put, s_1, s_2, s_3, i64_w, i32_w]; rfl) ?_
  refine pua 6 28 (bs_ 8 127) HT_ ?_
  refine pua 7 7 (bs_ 8 255) HT_ ?_
  refine done_ (done_of HT_.out (by kernel_rfl)) ?_
  try go_wp2
  have n0_ := Aside0.mk (r_e HO_5.out)
  have n1_ := Aside0.mk (g_e BK1250.out)
  have n2_ := Aside0.mk (b_e HB.out)
  clear HO_5
  clear BK1250
  clear HB
  have HO_5 := n0_
  have BK1250 := n1_
  have HB := n2_
  clear n0_ n1_ n2_
  refine start_ (n := 28) (S := fun w' => w'.cell? ⟨gb1250, 0, none⟩ = some (.int .i64 a0_0) ∧ w'.cell? ⟨gb1250, 1, none⟩ = some (.int .i64 a0_1) ∧ w'.cell? ⟨gb1250, 2, none⟩ = some (.slice A0_2 l0_2.length c0_2)) (ds := []) (bs_ 28 0) (by kernel_rfl) rfl rfl ⟨(blk_cell BK1250.out 0).trans rfl, (blk_cell BK1250.out 1).trans rfl, (blk_cell BK1250.out 2).trans rfl⟩ (fun hHeld => ?_); refine with_tabW impl_field_steps.tab6 impl_field_steps.bits6 (fun HT_ HW_ => ?_)
  generalize w17.drew = w18 at HO_5 BK1250 HB hHeld ⊢
  refine pua 0 29 (bs_ 28 1) HT_ ?_
  refine pua 1 30 (bs_ 28 3) HT_ ?_
  refine pua 2 31 (bs_ 28 7) HT_ ?_
  refine pua 3 32 (bs_ 28 15) HT_ ?_
  refine pua 4 33 (bs_ 28 31) HT_ ?_
  refine pua 5 34 (bs_ 28 63) HT_ ?_
  refine pua 8 37 (bs_ 28 319) HT_ ?_
  refine pua 10 39 (bs_ 28 1343) HT_ ?_
  refine pua 13 42 (bs_ 28 9535) HT_ ?_
  refine pua 14 43 (bs_ 28 25919) HT_ ?_
  refine pua 15 44 (bs_ 28 58687) HT_ ?_
  refine pua 16 45 (bs_ 28 124223) HT_ ?_
  refine pua 17 46 (bs_ 28 255295) HT_ ?_
  refine pua 20 49 (bs_ 28 1303871) HT_ ?_
  refine pua 22 51 (bs_ 28 5498175) HT_ ?_
  refine tk_ 6 35 (bs_ 28 5498239) rfl rfl HT_ HW_ (by kernel_rfl) (fun _ _ _ h => h) (by rfl) hHeld (by rintro w' ⟨s0, s1, s2⟩; go_simp; with_reducible rfl) (by simp only [Act.put, s_1, s_2, s_3, i64_w, i32_w]; rfl) ?_
  refine tk_ 18 47 (bs_ 28 5760383) rfl rfl HT_ HW_ (by kernel_rfl) (fun _ _ _ h => h) (by rfl) hHeld (by rintro w' ⟨s0, s1, s2⟩; go_simp; with_reducible rfl) (by simp only [Act.put, s_1, s_2, s_3, i64_w, i32_w]; rfl) ?_
  refine one_ (i := 7) (N := some 36) (bs_ 28 5760511) rfl rfl (one_of HT_.out (by kernel_rfl)) (by decide) (fun K hK => ?_)
  refine goes_ Try.func122 (by kernel_rfl) rfl #[.int .i64 (wrap64 ((Int.tmod (wrap64 (Int.tdiv a1 (wrap64 (Int.tdiv x6_1 a0_1)))) a0_1) + 1)), .int .i64 a0_1] (by rfl) rfl rfl (by (try simp only [m_1, m_2, m_3]); first | done | rfl | (simp only [m_4, m_5]; rfl)) ?_
  with_reducible refine (impl_around.calls (wrap64 ((Int.tmod (wrap64 (Int.tdiv a1 (wrap64 (Int.tdiv x6_1 a0_1)))) a0_1) + 1)) a0_1 t1255 _ A13.out).mono ?_
  rintro e w' ⟨rfl, ⟨nd, rfl⟩⟩
  refine ⟨_, rfl, ?_⟩
  refine hK.out _ _ ⟨(blk_cell BK1250.out 0).trans rfl, (blk_cell BK1250.out 1).trans rfl, (blk_cell BK1250.out 2).trans rfl⟩ (fun hHeld => ?_)
  clear hK K
  refine norm_ (a' := ?_) ?_ ?_
  rotate_left
  · show Act.put _ (some 36) _ = _
    simp only [Act.put, s_1, s_2, s_3, i64_w, i32_w]
    rfl
  refine pua 9 38 (bs_ 28 5761023) HT_ ?_
  refine pua 11 40 (bs_ 28 5763071) HT_ ?_
  refine pua 12 41 (bs_ 28 5767167) HT_ ?_
  refine one_ (i := 19) (N := some 48) (bs_ 28 6291455) rfl rfl (one_of HT_.out (by kernel_rfl)) (by decide) (fun K hK => ?_)
  refine goes_ Try.func122 (by kernel_rfl) rfl #[.int .i64 (wrap64 ((Int.tmod (wrap64 (Int.tdiv a1 (wrap64 (Int.tdiv x6_1 a0_1)))) a0_1) - 1)), .int .i64 a0_1] (by rfl) rfl rfl (by (try simp only [m_1, m_2, m_3]); first | done | rfl | (simp only [m_4, m_5]; rfl)) ?_
  with_reducible refine (impl_around.calls (wrap64 ((Int.tmod (wrap64 (Int.tdiv a1 (wrap64 (Int.tdiv x6_1 a0_1)))) a0_1) - 1)) a0_1 t1256 _ A14.out).mono ?_
  rintro e w' ⟨rfl, ⟨nd, rfl⟩⟩
  refine ⟨_, rfl, ?_⟩
  refine hK.out _ _ ⟨(blk_cell BK1250.out 0).trans rfl, (blk_cell BK1250.out 1).trans rfl, (blk_cell BK1250.out 2).trans rfl⟩ (fun hHeld => ?_)
  clear hK K
  refine norm_ (a' := ?_) ?_ ?_
  rotate_left
  · show Act.put _ (some 48) _ = _
    simp only [Act.put, s_1, s_2, s_3, i64_w, i32_w]
    rfl
  refine pua 21 50 (bs_ 28 8388607) HT_ ?_
  refine pua 23 52 (bs_ 28 16777215) HT_ ?_
  refine pua 24 53 (bs_ 28 33554431) HT_ ?_
  refine one_ (i := 25) (N := some 54) (bs_ 28 67108863) rfl rfl (one_of HT_.out (by kernel_rfl)) (by decide) (fun K hK => ?_)
  refine Kd.R_lit_step (Kd.int .i64) _ 3 ?hg (N := 54) ?hd (xs := ([wrap64 (a1 + (wrap64 ((wrap64 (t1255 - (Int.tmod (wrap64 (Int.tdiv a1 (wrap64 (Int.tdiv x6_1 a0_1)))) a0_1))) * (wrap64 (Int.tdiv x6_1 a0_1))))), wrap64 (a1 + (wrap64 ((wrap64 (t1256 - (Int.tmod (wrap64 (Int.tdiv a1 (wrap64 (Int.tdiv x6_1 a0_1)))) a0_1))) * (wrap64 (Int.tdiv x6_1 a0_1)))))] : List Int)) (inner := [.int .i64 (wrap64 (a1 + (wrap64 ((wrap64 (t1255 - (Int.tmod (wrap64 (Int.tdiv a1 (wrap64 (Int.tdiv x6_1 a0_1)))) a0_1))) * (wrap64 (Int.tdiv x6_1 a0_1)))))), .int .i64 (wrap64 (a1 + (wrap64 ((wrap64 (t1256 - (Int.tmod (wrap64 (Int.tdiv a1 (wrap64 (Int.tdiv x6_1 a0_1)))) a0_1))) * (wrap64 (Int.tdiv x6_1 a0_1))))))]) (ok := fun _ => True) (okp := fun _ => True) ?hr ?hp (fun _ hk => hk) trivial (Below.refl _ _) (Nat.le_refl _) (by simp) ?_; (case hd => rfl); (case hg => rfl); (case hr => first | (go_simp; done) | (go_simp; rfl)); (case hp => exact (Reps.one (show Kd.M (Kd.int .i64) _ _ _ (wrap64 (a1 + (wrap64 ((wrap64 (t1255 - (Int.tmod (wrap64 (Int.tdiv a1 (wrap64 (Int.tdiv x6_1 a0_1)))) a0_1))) * (wrap64 (Int.tdiv x6_1 a0_1)))))) [.int .i64 (wrap64 (a1 + (wrap64 ((wrap64 (t1255 - (Int.tmod (wrap64 (Int.tdiv a1 (wrap64 (Int.tdiv x6_1 a0_1)))) a0_1))) * (wrap64 (Int.tdiv x6_1 a0_1))))))] from rfl) (Reps.one (show Kd.M (Kd.int .i64) _ _ _ (wrap64 (a1 + (wrap64 ((wrap64 (t1256 - (Int.tmod (wrap64 (Int.tdiv a1 (wrap64 (Int.tdiv x6_1 a0_1)))) a0_1))) * (wrap64 (Int.tdiv x6_1 a0_1)))))) [.int .i64 (wrap64 (a1 + (wrap64 ((wrap64 (t1256 - (Int.tmod (wrap64 (Int.tdiv a1 (wrap64 (Int.tdiv x6_1 a0_1)))) a0_1))) * (wrap64 (Int.tdiv x6_1 a0_1))))))] from rfl) (Reps.none _ _))))
  intro v1258 w19 ho20 hb hg_ hnew_
  clear hg_ hnew_
  (first | rw [← Ny1257.out] at ho20 | (simp only [Int.reduceToNat] at ho20; rw [← Ny1257.out] at ho20))
  have n0_ := Aside0.mk (Kd.R_elder' (by (with_reducible repeat (first | apply r_a | apply r_d | apply r_e)); exact HO_5.out) (Kd.R_base ho20) hb)
  have n1_ := Aside0.mk (Kd.R_lower (Kd.R_new' ho20 (Kd.R_lt (by (with_reducible repeat (first | apply r_a | apply r_d | apply r_e)); exact HO_5.out))) (below_size (bB HB)))
  have n2_ := bbx hb BK1250
  have n3_ := bsx hb HB
  clear HO_5
  clear BK1250
  clear HB
  have HO_5 := n0_
  have HO1259 := n1_
  have BK1250 := n2_
  have HB := n3_
  clear n0_ n1_ n2_ n3_
  clear hb ho20
  obtain ⟨Ao22, co22, eo22⟩ := Kd.R_slice HO1259.out
  (first | subst eo22 | (injection eo22 with f1_ f2_ f3_; have f4_ := f1_.symm; have f5_ := f3_.symm; clear f1_ f2_ f3_; subst f4_; subst f5_))
  refine hK.out _ _ ⟨(blk_cell BK1250.out 0).trans rfl, (blk_cell BK1250.out 1).trans rfl, (blk_cell BK1250.out 2).trans rfl⟩ (fun hHeld => ?_)
  clear hK K
  refine norm_ (a' := ?_) ?_ ?_
  rotate_left
  · show Act.put _ (some 54) _ = _
    simp only [Act.put, s_1, s_2, s_3, i64_w, i32_w]
    rfl
  refine one_ (i := 26) (N := some 55) (bs_ 28 134217727) rfl rfl (one_of HT_.out (by kernel_rfl)) (by decide) (fun K hK => ?_)
  refine Kd.R_append_rows_step (Kd.int .i64) (w0 := w) w.heap.size (by rfl) (.tmp 29) (.tmp 54) 72 3 (.int .i64 0) 8 rfl Try.underlying72 info3 rfl (by decide) (by omega) u5 x5_1 y1257 _ _ _ (fun k_ => some k_ ≠ (.slice Ao22 y1257.length co22 : Value).ownBlock) (fun _ => False) rfl rfl ?aO ?aR (fun _ _ h => h) (fun _ h => h.elim) ?aF ?aB ?aS ?aL ?_
  (case aR => repeat (first | exact (Kd.R_reads' HO1259.out).2.2 | (with_reducible refine Kd.C_alloc ?_ _) | (with_reducible refine Kd.C_drewN ?_ _) | (with_reducible refine Kd.C_drew ?_)))
  (case aB => exact (bB HB))
  (case aF => exact (fun k_ hk => Kd.fresh' (Kd.R_lt (by (with_reducible repeat (first | apply r_a | apply r_d | apply r_e)); exact HO1259.out)) k_ hk))
  (case aO => exact (by (with_reducible repeat (first | apply r_a | apply r_d | apply r_e)); exact Kd.R_mono HO_5.out (fun _ hk => hk.2)))
  (case aS => exact (below_size (bB HB)))
  (case aL => have := LMc15.out; omega)
  intro v1261 w21 ho hb hg hat
  rw [← Ny1260.out] at ho
  have n0_ := Aside0.mk (blk_grown (g := gb1250) (o := .cells #[.int .i64 a0_0, .int .i64 a0_1, .slice A0_2 l0_2.length c0_2] 105 (0, 0)) (bK BK1250) hg (Kd.R_ne HO_5.out BK1250.out (by decide)))
  have n1_ := Aside0.mk (Kd.R_after (ok := (fun _ => True)) (by (with_reducible repeat (first | apply r_a | apply r_d | apply r_e)); exact HO1259.out) hg hat)
  have n2_ := Aside0.mk (hb)
  have n3_ := Aside0.mk (ho)
  clear BK1250
  clear HO1259
  clear HB
  clear HO_5
  have BK1250 := n0_
  have HO1259 := n1_
  have HB := n2_
  have HO1262 := n3_
  clear n0_ n1_ n2_ n3_
  clear ho hb hg hat
  refine hK.out _ _ ⟨(blk_cell BK1250.out 0).trans rfl, (blk_cell BK1250.out 1).trans rfl, (blk_cell BK1250.out 2).trans rfl⟩ (fun hHeld => ?_)
  clear hK K
  refine norm_ (a' := ?_) ?_ ?_
  rotate_left
  · show Act.put _ (some 55) _ = _
    simp only [Act.put, s_1, s_2, s_3, i64_w, i32_w]
    rfl
  refine pua 27 5 (bs_ 28 268435455) HT_ ?_
  refine done_ (done_of HT_.out (by kernel_rfl)) ?_
  try go_wp2
  go_roundg k1
  case measure => have := HK1.out; omega
  case rel => exact ⟨(y1260), (wrap64 (Int.tdiv x6_1 a0_1)), (wrap64 (x15_1 + 1)), (by first | rfl | (simp; done) | (simp [*]; done)), (by first | rfl | (simp; done) | (simp [*]; done)), H', ⟨by have := HK1.out; omega⟩, ⟨by (with_reducible repeat (first | apply r_a | apply r_d | apply r_e)); exact Kd.R_mono HO1262.out (fun _ hk => trivial)⟩, ⟨bK BK1250⟩, ⟨bB HB⟩⟩
end Go.Proofs.Ytihhiolflbieaaa.P
