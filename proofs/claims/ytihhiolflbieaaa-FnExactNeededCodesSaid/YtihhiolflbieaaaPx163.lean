-- Texts of this session's own program (wip/dr.py), which runs the kit's printer.
import Derived.Test.YtihhiolflbieaaaPx0
import Derived.Test.YtihhiolflbieaaaPx2
import Derived.Test.YtihhiolflbieaaaPx7
import Derived.Test.YtihhiolflbieaaaPx9
import Derived.Test.YtihhiolflbieaaaPx62
namespace Go.Proofs.Ytihhiolflbieaaa.P
open Go.RowKit Go.Proofs.YtihhiolflbieaaaW.PrintWords Go.Proofs.YtihhiolflbieaaaW.PrintLast Go.Proofs.YtihhiolflbieaaaW.PrintMore
attribute [local go_sem] max2_int min2_int max_two min_two max_three min_three max_four min_four   -- for this text's walks alone
set_option linter.unusedVariables false
set_option linter.unusedSimpArgs false

/-! ### spec_deFar: function 144 -/
mutual
def spec_deFar.l0 : Nat → List ByteArray → ByteArray → List Int → List Int → Int → Int → Int → Int → Option (List Int × List Int)
  | 0, _, _, _, _, _, _, _, _ => none
  | k + 1, x1, x2, x8, x9, x27, x28, x1146000, x1146001 => if x28 < x27 then (if 0 ≤ x28 then (if x28 < (x8.length : Int) then (spec_deFar.l0 k x1 x2 (x8.set (x28 : Int).toNat (-1)) x9 x27 (wrap64 (x28 + 1)) x1146000 x1146001) else (none)) else (none)) else ((spec_whNumber.f k x1146000 x1146001 x2).bind fun t1155 => (if 0 ≤ t1155 then (if t1155 < (x8.length : Int) then (if t1155 < (x9.length : Int) then (spec_deFar.l1 k x1 (x8.set (t1155 : Int).toNat 0) (x9.set (t1155 : Int).toNat 1) (([x2] : List ByteArray)) 0 x1146000 x1146001) else (none)) else (none)) else (none)))
def spec_deFar.l1 : Nat → List ByteArray → List Int → List Int → List ByteArray → Int → Int → Int → Option (List Int × List Int)
  | 0, _, _, _, _, _, _, _ => none
  | k + 1, x1, x8, x9, x12, x13, x1146000, x1146001 => if x13 < (x12.length : Int) then (if 0 ≤ x13 then ((spec_whNumber.f k x1146000 x1146001 (rdOf ByteArray.empty x12 x13)).bind fun t1162 => (spec_deFar.l2 k x1 x8 x9 x12 x13 t1162 0 x1146000 x1146001)) else (none)) else (some (x8, x9))
def spec_deFar.l2 : Nat → List ByteArray → List Int → List Int → List ByteArray → Int → Int → Int → Int → Int → Option (List Int × List Int)
  | 0, _, _, _, _, _, _, _, _, _ => none
  | k + 1, x1, x8, x9, x12, x13, x14, x15, x1146000, x1146001 => if x15 < x1146000 then ((some (([1, (-1)] : List Int) : List Int)).bind fun y1163 => (spec_deFar.l3 k x1 x8 x9 x12 x13 x14 x15 y1163 (y1163.length : Int) 0 x1146000 x1146001)) else (spec_deFar.l1 k x1 x8 x9 x12 (wrap64 (x13 + 1)) x1146000 x1146001)
def spec_deFar.l3 : Nat → List ByteArray → List Int → List Int → List ByteArray → Int → Int → Int → List Int → Int → Int → Int → Int → Option (List Int × List Int)
  | 0, _, _, _, _, _, _, _, _, _, _, _, _ => none
  | k + 1, x1, x8, x9, x12, x13, x14, x15, x64, x65, x66, x1146000, x1146001 => if x66 < x65 then (if 0 ≤ x66 then (if x66 < (x64.length : Int) then (if 0 ≤ x13 then (if x13 < (x12.length : Int) then ((spec_whMake.f k x1146000 x1146001 (rdOf ByteArray.empty x12 x13) x15 (rd x64 x66)).bind fun t1168 => ((spec_whNumber.f k x1146000 x1146001 t1168).bind fun t1169 => ((spec_l1HasS.f k x1 t1168).bind fun t1170 => (if t1170 = true then (spec_deFar.l3 k x1 x8 x9 x12 x13 x14 x15 x64 x65 (wrap64 (x66 + 1)) x1146000 x1146001) else (if 0 ≤ t1169 then (if t1169 < (x8.length : Int) then (if (rd x8 t1169) < 0 then (if 0 ≤ x14 then (if x14 < (x8.length : Int) then ((some (x8.set (t1169 : Int).toNat (wrap64 ((rd x8 x14) + 1)) : List Int)).bind fun y1173 => (if x12.length < 8796093022208 then ((some (x12 ++ [t1168] : List ByteArray)).bind fun y1174 => (if (rd y1173 t1169) = (wrap64 ((rd y1173 x14) + 1)) then (if t1169 < (x9.length : Int) then (if x14 < (x9.length : Int) then ((spec_l1Least.f (wrap64 ((rd x9 t1169) + (rd x9 x14))) 1000000000000001).bind fun t1181 => (spec_deFar.l3 k x1 y1173 (x9.set (t1169 : Int).toNat t1181) y1174 x13 x14 x15 x64 x65 (wrap64 (x66 + 1)) x1146000 x1146001)) else (none)) else (none)) else (spec_deFar.l3 k x1 y1173 x9 y1174 x13 x14 x15 x64 x65 (wrap64 (x66 + 1)) x1146000 x1146001))) else (none))) else (none)) else (none)) else (if 0 ≤ x14 then (if x14 < (x8.length : Int) then (if (rd x8 t1169) = (wrap64 ((rd x8 x14) + 1)) then (if t1169 < (x9.length : Int) then (if x14 < (x9.length : Int) then ((spec_l1Least.f (wrap64 ((rd x9 t1169) + (rd x9 x14))) 1000000000000001).bind fun t1187 => (spec_deFar.l3 k x1 x8 (x9.set (t1169 : Int).toNat t1187) x12 x13 x14 x15 x64 x65 (wrap64 (x66 + 1)) x1146000 x1146001)) else (none)) else (none)) else (spec_deFar.l3 k x1 x8 x9 x12 x13 x14 x15 x64 x65 (wrap64 (x66 + 1)) x1146000 x1146001)) else (none)) else (none))) else (none)) else (none)))))) else (none)) else (none)) else (none)) else (none)) else (spec_deFar.l2 k x1 x8 x9 x12 x13 x14 (wrap64 (x15 + 1)) x1146000 x1146001)
end
def spec_deFar.f (k : Nat) (a0_0 : Int) (a0_1 : Int) (l1 : List ByteArray) (a2 : ByteArray) : Option (List Int × List Int) := (spec_whCount.f k a0_0 a0_1).bind fun t1146 => (if 0 ≤ t1146 then (if (t1146 : Int).toNat ≤ 35184372088832 then ((some (List.replicate (t1146 : Int).toNat 0 : List Int)).bind fun y1147 => ((spec_whCount.f k a0_0 a0_1).bind fun t1150 => (if 0 ≤ t1150 then (if (t1150 : Int).toNat ≤ 35184372088832 then (spec_deFar.l0 k l1 a2 y1147 (List.replicate (t1150 : Int).toNat 0) (y1147.length : Int) 0 a0_0 a0_1) else (none)) else (none)))) else (none)) else (none))
theorem spec_deFar.mono_l : ∀ k, (∀ y0 y1 y2 y3 y4 y5 y6 y7, LeO (spec_deFar.l0 k y0 y1 y2 y3 y4 y5 y6 y7) (spec_deFar.l0 (k + 1) y0 y1 y2 y3 y4 y5 y6 y7)) ∧ (∀ y0 y1 y2 y3 y4 y5 y6, LeO (spec_deFar.l1 k y0 y1 y2 y3 y4 y5 y6) (spec_deFar.l1 (k + 1) y0 y1 y2 y3 y4 y5 y6)) ∧ (∀ y0 y1 y2 y3 y4 y5 y6 y7 y8, LeO (spec_deFar.l2 k y0 y1 y2 y3 y4 y5 y6 y7 y8) (spec_deFar.l2 (k + 1) y0 y1 y2 y3 y4 y5 y6 y7 y8)) ∧ (∀ y0 y1 y2 y3 y4 y5 y6 y7 y8 y9 y10 y11, LeO (spec_deFar.l3 k y0 y1 y2 y3 y4 y5 y6 y7 y8 y9 y10 y11) (spec_deFar.l3 (k + 1) y0 y1 y2 y3 y4 y5 y6 y7 y8 y9 y10 y11))
  | 0 => ⟨fun _ _ _ _ _ _ _ _ r h => by simp [spec_deFar.l0] at h, fun _ _ _ _ _ _ _ r h => by simp [spec_deFar.l1] at h, fun _ _ _ _ _ _ _ _ _ r h => by simp [spec_deFar.l2] at h, fun _ _ _ _ _ _ _ _ _ _ _ _ r h => by simp [spec_deFar.l3] at h⟩
  | k + 1 => by
    obtain ⟨ih0, ih1, ih2, ih3⟩ := spec_deFar.mono_l k
    refine ⟨?_, ?_, ?_, ?_⟩
    · intro y0 y1 y2 y3 y4 y5 y6 y7
      unfold spec_deFar.l0
      repeat' first
      | (with_reducible exact ih0 _ _ _ _ _ _ _ _)
      | (with_reducible exact ih1 _ _ _ _ _ _ _)
      | (with_reducible exact ih2 _ _ _ _ _ _ _ _ _)
      | (with_reducible exact ih3 _ _ _ _ _ _ _ _ _ _ _ _)
      | (with_reducible exact spec_l1HasS.mono _ _ _)
      | (with_reducible exact spec_whCount.mono _ _ _)
      | (with_reducible exact spec_whMake.mono _ _ _ _ _ _)
      | (with_reducible exact spec_whNumber.mono _ _ _ _)
      | (with_reducible exact LeO.refl _)
      | (with_reducible exact LeO.none _)
      | (with_reducible refine LeO.ite ?_ ?_)
      | (with_reducible refine LeO.bind ?_ (fun _ => ?_))
      | exact ih0 _ _ _ _ _ _ _ _
      | exact ih1 _ _ _ _ _ _ _
      | exact ih2 _ _ _ _ _ _ _ _ _
      | exact ih3 _ _ _ _ _ _ _ _ _ _ _ _
      | exact spec_l1HasS.mono _ _ _
      | exact spec_whCount.mono _ _ _
      | exact spec_whMake.mono _ _ _ _ _ _
      | exact spec_whNumber.mono _ _ _ _
      | exact LeO.none _
      | refine LeO.ite ?_ ?_
      | refine LeO.bind ?_ (fun _ => ?_)
    · intro y0 y1 y2 y3 y4 y5 y6
      unfold spec_deFar.l1
      repeat' first
      | (with_reducible exact ih0 _ _ _ _ _ _ _ _)
      | (with_reducible exact ih1 _ _ _ _ _ _ _)
      | (with_reducible exact ih2 _ _ _ _ _ _ _ _ _)
      | (with_reducible exact ih3 _ _ _ _ _ _ _ _ _ _ _ _)
      | (with_reducible exact spec_l1HasS.mono _ _ _)
      | (with_reducible exact spec_whCount.mono _ _ _)
      | (with_reducible exact spec_whMake.mono _ _ _ _ _ _)
      | (with_reducible exact spec_whNumber.mono _ _ _ _)
      | (with_reducible exact LeO.refl _)
      | (with_reducible exact LeO.none _)
      | (with_reducible refine LeO.ite ?_ ?_)
      | (with_reducible refine LeO.bind ?_ (fun _ => ?_))
      | exact ih0 _ _ _ _ _ _ _ _
      | exact ih1 _ _ _ _ _ _ _
      | exact ih2 _ _ _ _ _ _ _ _ _
      | exact ih3 _ _ _ _ _ _ _ _ _ _ _ _
      | exact spec_l1HasS.mono _ _ _
      | exact spec_whCount.mono _ _ _
      | exact spec_whMake.mono _ _ _ _ _ _
      | exact spec_whNumber.mono _ _ _ _
      | exact LeO.none _
      | refine LeO.ite ?_ ?_
      | refine LeO.bind ?_ (fun _ => ?_)
    · intro y0 y1 y2 y3 y4 y5 y6 y7 y8
      unfold spec_deFar.l2
      repeat' first
      | (with_reducible exact ih0 _ _ _ _ _ _ _ _)
      | (with_reducible exact ih1 _ _ _ _ _ _ _)
      | (with_reducible exact ih2 _ _ _ _ _ _ _ _ _)
      | (with_reducible exact ih3 _ _ _ _ _ _ _ _ _ _ _ _)
      | (with_reducible exact spec_l1HasS.mono _ _ _)
      | (with_reducible exact spec_whCount.mono _ _ _)
      | (with_reducible exact spec_whMake.mono _ _ _ _ _ _)
      | (with_reducible exact spec_whNumber.mono _ _ _ _)
      | (with_reducible exact LeO.refl _)
      | (with_reducible exact LeO.none _)
      | (with_reducible refine LeO.ite ?_ ?_)
      | (with_reducible refine LeO.bind ?_ (fun _ => ?_))
      | exact ih0 _ _ _ _ _ _ _ _
      | exact ih1 _ _ _ _ _ _ _
      | exact ih2 _ _ _ _ _ _ _ _ _
      | exact ih3 _ _ _ _ _ _ _ _ _ _ _ _
      | exact spec_l1HasS.mono _ _ _
      | exact spec_whCount.mono _ _ _
      | exact spec_whMake.mono _ _ _ _ _ _
      | exact spec_whNumber.mono _ _ _ _
      | exact LeO.none _
      | refine LeO.ite ?_ ?_
      | refine LeO.bind ?_ (fun _ => ?_)
    · intro y0 y1 y2 y3 y4 y5 y6 y7 y8 y9 y10 y11
      unfold spec_deFar.l3
      repeat' first
      | (with_reducible exact ih0 _ _ _ _ _ _ _ _)
      | (with_reducible exact ih1 _ _ _ _ _ _ _)
      | (with_reducible exact ih2 _ _ _ _ _ _ _ _ _)
      | (with_reducible exact ih3 _ _ _ _ _ _ _ _ _ _ _ _)
      | (with_reducible exact spec_l1HasS.mono _ _ _)
      | (with_reducible exact spec_whCount.mono _ _ _)
      | (with_reducible exact spec_whMake.mono _ _ _ _ _ _)
      | (with_reducible exact spec_whNumber.mono _ _ _ _)
      | (with_reducible exact LeO.refl _)
      | (with_reducible exact LeO.none _)
      | (with_reducible refine LeO.ite ?_ ?_)
      | (with_reducible refine LeO.bind ?_ (fun _ => ?_))
      | exact ih0 _ _ _ _ _ _ _ _
      | exact ih1 _ _ _ _ _ _ _
      | exact ih2 _ _ _ _ _ _ _ _ _
      | exact ih3 _ _ _ _ _ _ _ _ _ _ _ _
      | exact spec_l1HasS.mono _ _ _
      | exact spec_whCount.mono _ _ _
      | exact spec_whMake.mono _ _ _ _ _ _
      | exact spec_whNumber.mono _ _ _ _
      | exact LeO.none _
      | refine LeO.ite ?_ ?_
      | refine LeO.bind ?_ (fun _ => ?_)
theorem spec_deFar.mono : ∀ a0 a1 a2 a3 k, LeO (spec_deFar.f k a0 a1 a2 a3) (spec_deFar.f (k + 1) a0 a1 a2 a3) := by
  intro a0 a1 a2 a3 k
  obtain ⟨ih0, ih1, ih2, ih3⟩ := spec_deFar.mono_l k
  unfold spec_deFar.f
  repeat' first
      | (with_reducible exact ih0 _ _ _ _ _ _ _ _)
      | (with_reducible exact ih1 _ _ _ _ _ _ _)
      | (with_reducible exact ih2 _ _ _ _ _ _ _ _ _)
      | (with_reducible exact ih3 _ _ _ _ _ _ _ _ _ _ _ _)
      | (with_reducible exact spec_l1HasS.mono _ _ _)
      | (with_reducible exact spec_whCount.mono _ _ _)
      | (with_reducible exact spec_whMake.mono _ _ _ _ _ _)
      | (with_reducible exact spec_whNumber.mono _ _ _ _)
      | (with_reducible exact LeO.refl _)
      | (with_reducible exact LeO.none _)
      | (with_reducible refine LeO.ite ?_ ?_)
      | (with_reducible refine LeO.bind ?_ (fun _ => ?_))
      | exact ih0 _ _ _ _ _ _ _ _
      | exact ih1 _ _ _ _ _ _ _
      | exact ih2 _ _ _ _ _ _ _ _ _
      | exact ih3 _ _ _ _ _ _ _ _ _ _ _ _
      | exact spec_l1HasS.mono _ _ _
      | exact spec_whCount.mono _ _ _
      | exact spec_whMake.mono _ _ _ _ _ _
      | exact spec_whNumber.mono _ _ _ _
      | exact LeO.none _
      | refine LeO.ite ?_ ?_
      | refine LeO.bind ?_ (fun _ => ?_)
def spec_deFar.T1 : Bool × List (List Nat × List Nat) := (true, [([], []), ([0], [0]), ([1, 1], [1]), ([], []), ([3, 1], [3]), ([4, 4], [4]), ([2, 4, 0, 1, 2], [2]), ([5, 6, 0, 1, 2, 3, 4, 5, 6], [5])])
def spec_deFar.B1 : List Nat := [0, 1, 3, 0, 11, 27, 31, 127]
theorem spec_deFar.tab1 : rtab .any (opsOf Try.f144 1) = spec_deFar.T1 := by kernel_rfl
theorem spec_deFar.bits1 : waitsOk spec_deFar.T1.2 spec_deFar.B1 = true := by kernel_rfl
def spec_deFar.T21 : Bool × List (List Nat × List Nat) := (true, [([], []), ([], []), ([], []), ([1, 2], [1, 2]), ([3], [3]), ([], []), ([], []), ([5, 6], [5, 6]), ([0, 4, 7], [0, 4, 7]), ([8, 8, 0, 1, 2, 3, 4, 5, 6, 7, 8], [8])])
def spec_deFar.B21 : List Nat := [0, 0, 0, 6, 14, 0, 0, 96, 255, 511]
theorem spec_deFar.tab21 : rtab .any (opsOf Try.f144 21) = spec_deFar.T21 := by kernel_rfl
theorem spec_deFar.bits21 : waitsOk spec_deFar.T21.2 spec_deFar.B21 = true := by kernel_rfl
def spec_deFar.T27 : Bool × List (List Nat × List Nat) := (true, [([], []), ([], []), ([0, 1], [0, 1]), ([2], [2]), ([], []), ([], []), ([4, 5], [4, 5]), ([6], [6]), ([7], [7]), ([3, 8], [3, 8])])
def spec_deFar.B27 : List Nat := [0, 0, 3, 7, 0, 0, 48, 112, 240, 511]
theorem spec_deFar.tab27 : rtab .any (opsOf Try.f144 27) = spec_deFar.T27 := by kernel_rfl
theorem spec_deFar.bits27 : waitsOk spec_deFar.T27.2 spec_deFar.B27 = true := by kernel_rfl
def spec_deFar.T28 : Bool × List (List Nat × List Nat) := (true, [([], []), ([], []), ([], []), ([], []), ([2, 3], [2, 3]), ([4], [4]), ([], []), ([], []), ([6, 7], [6, 7]), ([8], [8]), ([5, 9], [5, 9]), ([10], [10]), ([0, 1, 0, 1, 2, 3, 4, 5, 6, 7, 8, 9, 10, 11], [0, 1]), ([12, 11, 11, 0, 1, 2, 3, 4, 5, 6, 7, 8, 9, 10, 11], [11, 12])])
def spec_deFar.B28 : List Nat := [0, 0, 0, 0, 12, 28, 0, 0, 192, 448, 1020, 2044, 4095, 8191]
theorem spec_deFar.tab28 : rtab .any (opsOf Try.f144 28) = spec_deFar.T28 := by kernel_rfl
theorem spec_deFar.bits28 : waitsOk spec_deFar.T28.2 spec_deFar.B28 = true := by kernel_rfl
set_option maxHeartbeats 8000000 in
set_option maxRecDepth 100000 in
theorem spec_deFar.calls (k : Nat) (a0_0 : Int) (a0_1 : Int) (A1 : Option Addr) (c1 : Nat) (l1 : List ByteArray) (a2 : ByteArray) (r1 : List Int) (r2 : List Int) (w : World) (hr1 : Kd.C Kd.string w A1 l1.length l1) (hc1 : l1.length ≤ c1) (h : spec_deFar.f k a0_0 a0_1 l1 a2 = some (r1, r2)) :
    Calls Try.prog 144 #[.agg #[.int .i64 a0_0, .int .i64 a0_1], .slice A1 l1.length c1, .string a2] w fun e w' => ∃ v0_ v1_ : Value, e = .returned (.tuple #[v0_, v1_]) ∧ Kd.R (Kd.int .i64) 3 w' w.heap.size (fun k_ => some k_ ≠ (v1_ : Value).ownBlock) v0_ r1 ∧ Kd.R (Kd.int .i64) 3 w' w.heap.size (fun k_ => some k_ ≠ (v0_ : Value).ownBlock) v1_ r2 ∧ Below w.heap.size w w' := by
  have hu28 := Try.underlying28
  have hu66 := Try.underlying66
  have HR1 := Aside0.mk hr1
  have HC1 := Aside0.mk hc1
  clear hr1 hc1
  have HB := Aside0.mk (Below.refl w.heap.size w)
  have H : ((spec_whCount.f k a0_0 a0_1).bind fun t1146 => (if 0 ≤ t1146 then (if (t1146 : Int).toNat ≤ 35184372088832 then ((some (List.replicate (t1146 : Int).toNat 0 : List Int)).bind fun y1147 => ((spec_whCount.f k a0_0 a0_1).bind fun t1150 => (if 0 ≤ t1150 then (if (t1150 : Int).toNat ≤ 35184372088832 then (spec_deFar.l0 k l1 a2 y1147 (List.replicate (t1150 : Int).toNat 0) (y1147.length : Int) 0 a0_0 a0_1) else (none)) else (none)))) else (none)) else (none))) = some (r1, r2) := h
  clear h
  replace H := Option.bind_eq_some_iff.mp H
  obtain ⟨t1146, A40, H⟩ := H
  try dsimp only at H
  have A4 := Aside0.mk A40
  clear A40
  by_cases c5 : 0 ≤ t1146
  rotate_left
  · rw [if_neg c5] at H
    exact absurd H (by simp)

  rw [if_pos c5] at H
  have c5b0 := eq_true c5
  have c5b1 : decide (0 ≤ t1146) = true := decide_eq_true c5
  clear c5
  by_cases c6 : (t1146 : Int).toNat ≤ 35184372088832
  rotate_left
  · rw [if_neg c6] at H
    exact absurd H (by simp)
  rw [if_pos c6] at H
  have c6b0 := eq_true c6
  have c6b1 : decide ((t1146 : Int).toNat ≤ 35184372088832) = true := decide_eq_true c6
  clear c6
  obtain ⟨y1147, hy1147⟩ : ∃ y_ : List Int, y_ = (List.replicate (t1146 : Int).toNat 0) := ⟨_, rfl⟩
  replace H : ((spec_whCount.f k a0_0 a0_1).bind fun t1150 => (if 0 ≤ t1150 then (if (t1150 : Int).toNat ≤ 35184372088832 then (spec_deFar.l0 k l1 a2 y1147 (List.replicate (t1150 : Int).toNat 0) (y1147.length : Int) 0 a0_0 a0_1) else (none)) else (none))) = some (r1, r2) := by first | (rw [hy1147]; with_reducible exact H) | (have H2_ := (Option.bind_some _ _).symm.trans H; rw [hy1147]; with_reducible exact H2_) | (have H2_ := (Option.bind_some _ _).symm.trans H; with_reducible exact H2_) | with_reducible exact H | (rw [hy1147]; exact H) | exact H
  have Ny1147 := Aside0.mk hy1147
  clear hy1147
  replace H := Option.bind_eq_some_iff.mp H
  obtain ⟨t1150, A70, H⟩ := H
  try dsimp only at H
  have A7 := Aside0.mk A70
  clear A70
  by_cases c8 : 0 ≤ t1150
  rotate_left
  · rw [if_neg c8] at H
    exact absurd H (by simp)
  rw [if_pos c8] at H
  have c8b0 := eq_true c8
  have c8b1 : decide (0 ≤ t1150) = true := decide_eq_true c8
  clear c8
  by_cases c9 : (t1150 : Int).toNat ≤ 35184372088832
  rotate_left
  · rw [if_neg c9] at H
    exact absurd H (by simp)
  rw [if_pos c9] at H
  have c9b0 := eq_true c9
  have c9b1 : decide ((t1150 : Int).toNat ≤ 35184372088832) = true := decide_eq_true c9
  clear c9
  obtain ⟨y1151, hy1151⟩ : ∃ y_ : List Int, y_ = (List.replicate (t1150 : Int).toNat 0) := ⟨_, rfl⟩
  replace H : (spec_deFar.l0 k l1 a2 y1147 y1151 (y1147.length : Int) 0 a0_0 a0_1) = some (r1, r2) := by first | (rw [hy1151]; with_reducible exact H) | (have H2_ := (Option.bind_some _ _).symm.trans H; rw [hy1151]; with_reducible exact H2_) | (have H2_ := (Option.bind_some _ _).symm.trans H; with_reducible exact H2_) | with_reducible exact H | (rw [hy1151]; exact H) | exact H
  have Ny1151 := Aside0.mk hy1151
  clear hy1151
  have H' := Aside0.mk H
  clear H
  go_enter Try.func144, Try.ntmps144
  try go_wp2_with (first | ((with_reducible refine gate_dst (N := 3) rfl ?_); refine box_event ?hg (N := 3) ?hd (cs := #[.int .i64 a0_0, .int .i64 a0_1]) (t := 28) ?hr ?_; (case hd => rfl); (case hg => rfl); (case hr => first | (go_simp; done) | (go_simp; rfl)); intro gb1145 hg w10 hbox hb; have n0_ := bsx hb HB; have n1_ := Aside0.mk (hbox); have n2_ := gwx hg HB; have n3_ := n2_; clear HB; have HB := n0_; have BK1145 := n1_; have GW1145 := n2_; have GE1145 := n3_; clear n0_ n1_ n2_ n3_; clear hb hbox hg))
  have n0_ := Aside0.mk (g_e BK1145.out)
  have n1_ := Aside0.mk (b_e HB.out)
  clear BK1145
  clear HB
  have BK1145 := n0_
  have HB := n1_
  clear n0_ n1_
  refine start_ (n := 8) (S := fun w' => w'.cell? ⟨gb1145, 0, none⟩ = some (.int .i64 a0_0) ∧ w'.cell? ⟨gb1145, 1, none⟩ = some (.int .i64 a0_1)) (ds := []) (bs_ 8 0) (by kernel_rfl) rfl rfl ⟨(blk_cell BK1145.out 0).trans rfl, (blk_cell BK1145.out 1).trans rfl⟩ (fun hHeld => ?_); refine with_tabW spec_deFar.tab1 spec_deFar.bits1 (fun HT_ HW_ => ?_)
  generalize w10.drew = w11 at BK1145 HB hHeld ⊢
  refine tk_ 0 20 (bs_ 8 1) rfl rfl HT_ HW_ (by kernel_rfl) (fun _ _ _ h => h) (by rfl) hHeld (by rintro w' ⟨s0, s1⟩; go_simp; with_reducible rfl) (by simp only [Act.put, s_1, s_2, s_3, i64_w, i32_w]; rfl) ?_
  refine tk_ 3 23 (bs_ 8 9) rfl rfl HT_ HW_ (by kernel_rfl) (fun _ _ _ h => h) (by rfl) hHeld (by rintro w' ⟨s0, s1⟩; go_simp; with_reducible rfl) (by simp only [Act.put, s_1, s_2, s_3, i64_w, i32_w]; rfl) ?_
  refine one_ (i := 1) (N := some 21) (bs_ 8 11) rfl rfl (one_of HT_.out (by kernel_rfl)) (by decide) (fun K hK => ?_)
  refine goes_ Try.func94 (by kernel_rfl) rfl #[.agg #[.int .i64 a0_0, .int .i64 a0_1]] (by rfl) rfl rfl (by (try simp only [m_1, m_2, m_3]); first | done | rfl | (simp only [m_4, m_5]; rfl)) ?_
  with_reducible refine (spec_whCount.calls k a0_0 a0_1 t1146 _ A4.out).mono ?_
  rintro e w12 ⟨rfl, hb⟩
  refine ⟨_, rfl, ?_⟩
  have n0_ := bbx hb BK1145
  have n1_ := bsx hb HB
  clear BK1145
  clear HB
  have BK1145 := n0_
  have HB := n1_
  clear n0_ n1_
  (try clear hb)
  (try clear hb2)
  (try clear hk)
  (try clear hi)
  refine hK.out _ _ ⟨(blk_cell BK1145.out 0).trans rfl, (blk_cell BK1145.out 1).trans rfl⟩ (fun hHeld => ?_)
  clear hK K
  refine norm_ (a' := ?_) ?_ ?_
  rotate_left
  · show Act.put _ (some 21) _ = _
    simp only [Act.put, s_1, s_2, s_3, i64_w, i32_w]
    rfl
  refine join_ (σ := Value × Value) 1 (bs_ 8 127) (fun s_ => [(22, s_.1), (24, .int .i64 t1150), (25, s_.2), (8, s_.1)]) (fun s_ w' => (w'.cell? ⟨gb1145, 0, none⟩ = some (.int .i64 a0_0) ∧ w'.cell? ⟨gb1145, 1, none⟩ = some (.int .i64 a0_1)) ∧ (Kd.R (Kd.int .i64) 3 w' w.heap.size (fun k_ => some k_ ≠ (s_.2 : Value).ownBlock) s_.1 y1147) ∧ (Kd.R (Kd.int .i64) 3 w' w.heap.size (fun k_ => some k_ ≠ (s_.1 : Value).ownBlock) s_.2 y1151) ∧ (w'.heap[gb1145]? = some (.cells #[.int .i64 a0_0, .int .i64 a0_1] 28 (0, 0))) ∧ (Below w.heap.size w w')) ?_ ?_
  rotate_left
  · intro hCont
    refine two_ (i := 2) (j := 4) (Ni := some 22) (Nj := some 24) (bs_ 8 15) (bs_ 8 27) rfl rfl rfl rfl (two_of HT_.out (by kernel_rfl)) (by decide) (by decide) (fun K hK => ?_) (fun K hK => ?_)
    · skip
      refine Kd.R_make_step (Kd.int .i64) _ 3 (by rfl) (N := 22) rfl 72 _ _ rfl t1146 rfl rfl Try.underlying72 (.int .i64 0) 8 info3 rfl (by decide) (by omega) 0 (ok := fun _ => True) (okp := fun _ => True) rfl (fun _ hk => hk) trivial (of_decide_eq_true (by first | (with_reducible assumption) | assumption)) (Nat.le_trans (Nat.mul_le_mul_right _ (of_decide_eq_true (by first | (with_reducible assumption) | assumption) : t1146.toNat ≤ 35184372088832)) (by omega)) (Below.refl _ _) (Nat.le_refl _) ?_
      intro v1148 w13 ho14 hb hg_ hnew_
      clear hg_ hnew_
      (first | rw [← Ny1147.out] at ho14 | (simp only [Int.reduceToNat] at ho14; rw [← Ny1147.out] at ho14))
      have n0_ := Aside0.mk (Kd.R_lower ho14 (below_size (bB HB)))
      have n1_ := bbx hb BK1145
      have n2_ := bsx hb HB
      clear BK1145
      clear HB
      have HO1149 := n0_
      have BK1145 := n1_
      have HB := n2_
      clear n0_ n1_ n2_
      clear hb ho14
      refine hK.out _ _ ⟨(blk_cell BK1145.out 0).trans rfl, (blk_cell BK1145.out 1).trans rfl⟩ (fun hHeld => ?_)
      clear hK K
      refine norm_ (a' := ?_) ?_ ?_
      rotate_left
      · show Act.put _ (some 22) _ = _
        simp only [Act.put, s_1, s_2, s_3, i64_w, i32_w]
        rfl
      refine one_ (i := 4) (N := some 24) (bs_ 8 31) rfl rfl (one_of HT_.out (by kernel_rfl)) (by decide) (fun K hK => ?_)
      refine goes_ Try.func94 (by kernel_rfl) rfl #[.agg #[.int .i64 a0_0, .int .i64 a0_1]] (by rfl) rfl rfl (by (try simp only [m_1, m_2, m_3]); first | done | rfl | (simp only [m_4, m_5]; rfl)) ?_
      with_reducible refine (spec_whCount.calls k a0_0 a0_1 t1150 _ A7.out).mono ?_
      rintro e w15 ⟨rfl, hb⟩
      refine ⟨_, rfl, ?_⟩
      have n0_ := Aside0.mk (Kd.R_below (by (with_reducible repeat (first | apply r_a | apply r_d | apply r_e)); exact HO1149.out) hb)
      have n1_ := bbx hb BK1145
      have n2_ := bsx hb HB
      clear HO1149
      clear BK1145
      clear HB
      have HO1149 := n0_
      have BK1145 := n1_
      have HB := n2_
      clear n0_ n1_ n2_
      (try clear hb)
      (try clear hb2)
      (try clear hk)
      (try clear hi)
      refine hK.out _ _ ⟨(blk_cell BK1145.out 0).trans rfl, (blk_cell BK1145.out 1).trans rfl⟩ (fun hHeld => ?_)
      clear hK K
      refine norm_ (a' := ?_) ?_ ?_
      rotate_left
      · show Act.put _ (some 24) _ = _
        simp only [Act.put, s_1, s_2, s_3, i64_w, i32_w]
        rfl
      refine pua 6 8 (bs_ 8 95) HT_ ?_
      refine one_ (i := 5) (N := some 25) (bs_ 8 127) rfl rfl (one_of HT_.out (by kernel_rfl)) (by decide) (fun K hK => ?_)
      refine Kd.R_make_step (Kd.int .i64) _ 3 (by rfl) (N := 25) rfl 72 _ _ rfl t1150 rfl rfl Try.underlying72 (.int .i64 0) 8 info3 rfl (by decide) (by omega) 0 (ok := fun _ => True) (okp := fun _ => True) rfl (fun _ hk => hk) trivial (of_decide_eq_true (by first | (with_reducible assumption) | assumption)) (Nat.le_trans (Nat.mul_le_mul_right _ (of_decide_eq_true (by first | (with_reducible assumption) | assumption) : t1150.toNat ≤ 35184372088832)) (by omega)) (Below.refl _ _) (Nat.le_refl _) ?_
      intro v1152 w16 ho17 hb hg_ hnew_
      clear hg_ hnew_
      (first | rw [← Ny1151.out] at ho17 | (simp only [Int.reduceToNat] at ho17; rw [← Ny1151.out] at ho17))
      have n0_ := Aside0.mk (Kd.R_elder' (by (with_reducible repeat (first | apply r_a | apply r_d | apply r_e)); exact HO1149.out) (Kd.R_base ho17) hb)
      have n1_ := Aside0.mk (Kd.R_lower (Kd.R_new' ho17 (Kd.R_lt (by (with_reducible repeat (first | apply r_a | apply r_d | apply r_e)); exact HO1149.out))) (below_size (bB HB)))
      have n2_ := bbx hb BK1145
      have n3_ := bsx hb HB
      clear HO1149
      clear BK1145
      clear HB
      have HO1149 := n0_
      have HO1153 := n1_
      have BK1145 := n2_
      have HB := n3_
      clear n0_ n1_ n2_ n3_
      clear hb ho17
      refine hK.out _ _ ⟨(blk_cell BK1145.out 0).trans rfl, (blk_cell BK1145.out 1).trans rfl⟩ (fun hHeld => ?_)
      clear hK K
      refine norm_ (a' := ?_) ?_ ?_
      rotate_left
      · show Act.put _ (some 25) _ = _
        simp only [Act.put, s_1, s_2, s_3, i64_w, i32_w]
        rfl
      exact norm_ (by simp only [putAll, Act.put, s_1, s_2, s_3]) (hCont (v1148, v1152) _ ⟨hHeld, (by (with_reducible repeat (first | apply r_a | apply r_d | apply r_e)); exact Kd.R_mono HO1149.out (fun _ hk => hk.2)), (by (with_reducible repeat (first | apply r_a | apply r_d | apply r_e)); exact Kd.R_mono HO1153.out (fun _ hk => hk.2)), (bK BK1145), (bB HB)⟩)
    skip
    refine goes_ Try.func94 (by kernel_rfl) rfl #[.agg #[.int .i64 a0_0, .int .i64 a0_1]] (by rfl) rfl rfl (by (try simp only [m_1, m_2, m_3]); first | done | rfl | (simp only [m_4, m_5]; rfl)) ?_
    with_reducible refine (spec_whCount.calls k a0_0 a0_1 t1150 _ A7.out).mono ?_
    rintro e w13 ⟨rfl, hb⟩
    refine ⟨_, rfl, ?_⟩
    have n0_ := bbx hb BK1145
    have n1_ := bsx hb HB
    clear BK1145
    clear HB
    have BK1145 := n0_
    have HB := n1_
    clear n0_ n1_
    (try clear hb)
    (try clear hb2)
    (try clear hk)
    (try clear hi)
    refine hK.out _ _ ⟨(blk_cell BK1145.out 0).trans rfl, (blk_cell BK1145.out 1).trans rfl⟩ (fun hHeld => ?_)
    clear hK K
    refine norm_ (a' := ?_) ?_ ?_
    rotate_left
    · show Act.put _ (some 24) _ = _
      simp only [Act.put, s_1, s_2, s_3, i64_w, i32_w]
      rfl
    refine two_ (i := 2) (j := 5) (Ni := some 22) (Nj := some 25) (bs_ 8 31) (bs_ 8 59) rfl rfl rfl rfl (two_of HT_.out (by kernel_rfl)) (by decide) (by decide) (fun K hK => ?_) (fun K hK => ?_)
    rotate_left
    · skip
      refine Kd.R_make_step (Kd.int .i64) _ 3 (by rfl) (N := 25) rfl 72 _ _ rfl t1150 rfl rfl Try.underlying72 (.int .i64 0) 8 info3 rfl (by decide) (by omega) 0 (ok := fun _ => True) (okp := fun _ => True) rfl (fun _ hk => hk) trivial (of_decide_eq_true (by first | (with_reducible assumption) | assumption)) (Nat.le_trans (Nat.mul_le_mul_right _ (of_decide_eq_true (by first | (with_reducible assumption) | assumption) : t1150.toNat ≤ 35184372088832)) (by omega)) (Below.refl _ _) (Nat.le_refl _) ?_
      intro v1152 w14 ho15 hb hg_ hnew_
      clear hg_ hnew_
      (first | rw [← Ny1151.out] at ho15 | (simp only [Int.reduceToNat] at ho15; rw [← Ny1151.out] at ho15))
      have n0_ := Aside0.mk (Kd.R_lower ho15 (below_size (bB HB)))
      have n1_ := bbx hb BK1145
      have n2_ := bsx hb HB
      clear BK1145
      clear HB
      have HO1153 := n0_
      have BK1145 := n1_
      have HB := n2_
      clear n0_ n1_ n2_
      clear hb ho15
      refine hK.out _ _ ⟨(blk_cell BK1145.out 0).trans rfl, (blk_cell BK1145.out 1).trans rfl⟩ (fun hHeld => ?_)
      clear hK K
      refine norm_ (a' := ?_) ?_ ?_
      rotate_left
      · show Act.put _ (some 25) _ = _
        simp only [Act.put, s_1, s_2, s_3, i64_w, i32_w]
        rfl
      refine one_ (i := 2) (N := some 22) (bs_ 8 63) rfl rfl (one_of HT_.out (by kernel_rfl)) (by decide) (fun K hK => ?_)
      refine Kd.R_make_step (Kd.int .i64) _ 3 (by rfl) (N := 22) rfl 72 _ _ rfl t1146 rfl rfl Try.underlying72 (.int .i64 0) 8 info3 rfl (by decide) (by omega) 0 (ok := fun _ => True) (okp := fun _ => True) rfl (fun _ hk => hk) trivial (of_decide_eq_true (by first | (with_reducible assumption) | assumption)) (Nat.le_trans (Nat.mul_le_mul_right _ (of_decide_eq_true (by first | (with_reducible assumption) | assumption) : t1146.toNat ≤ 35184372088832)) (by omega)) (Below.refl _ _) (Nat.le_refl _) ?_
      intro v1148 w16 ho17 hb hg_ hnew_
      clear hg_ hnew_
      (first | rw [← Ny1147.out] at ho17 | (simp only [Int.reduceToNat] at ho17; rw [← Ny1147.out] at ho17))
      have n0_ := Aside0.mk (Kd.R_elder' (by (with_reducible repeat (first | apply r_a | apply r_d | apply r_e)); exact HO1153.out) (Kd.R_base ho17) hb)
      have n1_ := Aside0.mk (Kd.R_lower (Kd.R_new' ho17 (Kd.R_lt (by (with_reducible repeat (first | apply r_a | apply r_d | apply r_e)); exact HO1153.out))) (below_size (bB HB)))
      have n2_ := bbx hb BK1145
      have n3_ := bsx hb HB
      clear HO1153
      clear BK1145
      clear HB
      have HO1153 := n0_
      have HO1149 := n1_
      have BK1145 := n2_
      have HB := n3_
      clear n0_ n1_ n2_ n3_
      clear hb ho17
      refine hK.out _ _ ⟨(blk_cell BK1145.out 0).trans rfl, (blk_cell BK1145.out 1).trans rfl⟩ (fun hHeld => ?_)
      clear hK K
      refine norm_ (a' := ?_) ?_ ?_
      rotate_left
      · show Act.put _ (some 22) _ = _
        simp only [Act.put, s_1, s_2, s_3, i64_w, i32_w]
        rfl
      refine pua 6 8 (bs_ 8 127) HT_ ?_
      exact norm_ (by simp only [putAll, Act.put, s_1, s_2, s_3]) (hCont (v1148, v1152) _ ⟨hHeld, (by (with_reducible repeat (first | apply r_a | apply r_d | apply r_e)); exact Kd.R_mono HO1149.out (fun _ hk => hk.2)), (by (with_reducible repeat (first | apply r_a | apply r_d | apply r_e)); exact Kd.R_mono HO1153.out (fun _ hk => hk.2)), (bK BK1145), (bB HB)⟩)
    skip
    refine Kd.R_make_step (Kd.int .i64) _ 3 (by rfl) (N := 22) rfl 72 _ _ rfl t1146 rfl rfl Try.underlying72 (.int .i64 0) 8 info3 rfl (by decide) (by omega) 0 (ok := fun _ => True) (okp := fun _ => True) rfl (fun _ hk => hk) trivial (of_decide_eq_true (by first | (with_reducible assumption) | assumption)) (Nat.le_trans (Nat.mul_le_mul_right _ (of_decide_eq_true (by first | (with_reducible assumption) | assumption) : t1146.toNat ≤ 35184372088832)) (by omega)) (Below.refl _ _) (Nat.le_refl _) ?_
    intro v1148 w14 ho15 hb hg_ hnew_
    clear hg_ hnew_
    (first | rw [← Ny1147.out] at ho15 | (simp only [Int.reduceToNat] at ho15; rw [← Ny1147.out] at ho15))
    have n0_ := Aside0.mk (Kd.R_lower ho15 (below_size (bB HB)))
    have n1_ := bbx hb BK1145
    have n2_ := bsx hb HB
    clear BK1145
    clear HB
    have HO1149 := n0_
    have BK1145 := n1_
    have HB := n2_
    clear n0_ n1_ n2_
    clear hb ho15
    refine hK.out _ _ ⟨(blk_cell BK1145.out 0).trans rfl, (blk_cell BK1145.out 1).trans rfl⟩ (fun hHeld => ?_)
    clear hK K
    refine norm_ (a' := ?_) ?_ ?_
    rotate_left
    · show Act.put _ (some 22) _ = _
      simp only [Act.put, s_1, s_2, s_3, i64_w, i32_w]
      rfl
    refine pua 6 8 (bs_ 8 95) HT_ ?_
    refine one_ (i := 5) (N := some 25) (bs_ 8 127) rfl rfl (one_of HT_.out (by kernel_rfl)) (by decide) (fun K hK => ?_)
    refine Kd.R_make_step (Kd.int .i64) _ 3 (by rfl) (N := 25) rfl 72 _ _ rfl t1150 rfl rfl Try.underlying72 (.int .i64 0) 8 info3 rfl (by decide) (by omega) 0 (ok := fun _ => True) (okp := fun _ => True) rfl (fun _ hk => hk) trivial (of_decide_eq_true (by first | (with_reducible assumption) | assumption)) (Nat.le_trans (Nat.mul_le_mul_right _ (of_decide_eq_true (by first | (with_reducible assumption) | assumption) : t1150.toNat ≤ 35184372088832)) (by omega)) (Below.refl _ _) (Nat.le_refl _) ?_
    intro v1152 w16 ho17 hb hg_ hnew_
    clear hg_ hnew_
    (first | rw [← Ny1151.out] at ho17 | (simp only [Int.reduceToNat] at ho17; rw [← Ny1151.out] at ho17))
    have n0_ := Aside0.mk (Kd.R_elder' (by (with_reducible repeat (first | apply r_a | apply r_d | apply r_e)); exact HO1149.out) (Kd.R_base ho17) hb)
    have n1_ := Aside0.mk (Kd.R_lower (Kd.R_new' ho17 (Kd.R_lt (by (with_reducible repeat (first | apply r_a | apply r_d | apply r_e)); exact HO1149.out))) (below_size (bB HB)))
    have n2_ := bbx hb BK1145
    have n3_ := bsx hb HB
    clear HO1149
    clear BK1145
    clear HB
    have HO1149 := n0_
    have HO1153 := n1_
    have BK1145 := n2_
    have HB := n3_
    clear n0_ n1_ n2_ n3_
    clear hb ho17
    refine hK.out _ _ ⟨(blk_cell BK1145.out 0).trans rfl, (blk_cell BK1145.out 1).trans rfl⟩ (fun hHeld => ?_)
    clear hK K
    refine norm_ (a' := ?_) ?_ ?_
    rotate_left
    · show Act.put _ (some 25) _ = _
      simp only [Act.put, s_1, s_2, s_3, i64_w, i32_w]
      rfl
    exact norm_ (by simp only [putAll, Act.put, s_1, s_2, s_3]) (hCont (v1148, v1152) _ ⟨hHeld, (by (with_reducible repeat (first | apply r_a | apply r_d | apply r_e)); exact Kd.R_mono HO1149.out (fun _ hk => hk.2)), (by (with_reducible repeat (first | apply r_a | apply r_d | apply r_e)); exact Kd.R_mono HO1153.out (fun _ hk => hk.2)), (bK BK1145), (bB HB)⟩)
  rintro ⟨v1148, v1152⟩ w18 ⟨hS_, h0_, h1_, h2_, h3_⟩
  have n0_ : Aside0 (Kd.R (Kd.int .i64) 3 w18 w.heap.size (fun k_ => some k_ ≠ (v1152 : Value).ownBlock) v1148 y1147) := ⟨h0_⟩
  have n1_ : Aside0 (Kd.R (Kd.int .i64) 3 w18 w.heap.size (fun k_ => some k_ ≠ (v1148 : Value).ownBlock) v1152 y1151) := ⟨h1_⟩
  have n2_ : Aside0 (w18.heap[gb1145]? = some (.cells #[.int .i64 a0_0, .int .i64 a0_1] 28 (0, 0))) := ⟨h2_⟩
  have n3_ : Aside0 (Below w.heap.size w w18) := ⟨h3_⟩
  clear BK1145
  clear HB
  clear h0_ h1_ h2_ h3_
  have HO1149 := n0_
  have HO1153 := n1_
  have BK1145 := n2_
  have HB := n3_
  clear n0_ n1_ n2_ n3_
  have hHeld : w18.cell? ⟨gb1145, 0, none⟩ = some (.int .i64 a0_0) ∧ w18.cell? ⟨gb1145, 1, none⟩ = some (.int .i64 a0_1) := hS_
  refine norm_ (a' := ?_) ?_ ?_
  rotate_left
  · simp only [putAll, Act.put, s_1, s_2, s_3]
    rfl
  refine pua 7 9 (bs_ 8 255) HT_ ?_
  refine done_ (done_of HT_.out (by kernel_rfl)) ?_
  obtain ⟨Ao19, co19, eo19⟩ := Kd.R_slice HO1149.out
  subst eo19
  try go_wp2
  go_loopg [28] k (fun kq v28 w' => ∃ (x8_1 : List Int) (x28_1 : Int), v28 = .int .i64 x28_1 ∧ Aside0 (spec_deFar.l0 kq l1 a2 x8_1 y1151 (y1147.length : Int) x28_1 a0_0 a0_1 = some (r1, r2)) ∧ Aside0 (kq ≤ k) ∧ Aside0 (Kd.R (Kd.int .i64) 3 w' w.heap.size (fun k_ => some k_ ≠ (v1152 : Value).ownBlock) (.slice Ao19 y1147.length co19) x8_1) ∧ Aside0 (Kd.R (Kd.int .i64) 3 w' w.heap.size (fun k_ => some k_ ≠ ((.slice Ao19 y1147.length co19) : Value).ownBlock) v1152 y1151) ∧ Aside0 (w'.heap[gb1145]? = some (.cells #[.int .i64 a0_0, .int .i64 a0_1] 28 (0, 0))) ∧ Aside0 (Below w.heap.size w w'))
  case atStart => refine ⟨(y1147), (0), (by first | rfl | (simp; done) | (simp [*]; done)), H', ⟨Nat.le_refl _⟩, ⟨?_⟩, ⟨?_⟩, ⟨?_⟩, ⟨bB HB⟩⟩ <;> (with_reducible repeat (first | refine g_d ?_ _ | refine g_e ?_ | refine g_a ?_ _ | apply r_a | apply r_d | apply r_e)) <;> first | exact BK1145.out | exact HO1149.out | exact HO1153.out
  clear H'
  try clear c1
  try clear c5
  try clear c5b0
  try clear c5b1
  try clear c6
  try clear c6b0
  try clear c6b1
  try clear c8
  try clear c8b0
  try clear c8b1
  try clear c9
  try clear c9b0
  try clear c9b1
  obtain ⟨x8_1, x28_1, rfl, HA, HK1, HO_8, HO_9, BK1145, HB⟩ := hrel
  have hl8_1 := (Kd.R_reads' HO_8.out).1
  rw [hl8_1] at HO_8
  (try simp only [hl8_1])
  (try simp only [hl8_1] at BK1145)
  (try simp only [hl8_1] at HO_9)
  rcases gk with _ | k1
  · exact absurd HA.out (by simp [spec_deFar.l0])
  have H := HA.out
  clear HA
  simp only [spec_deFar.l0] at H
  by_cases c20 : x28_1 < (y1147.length : Int)
  · rw [if_pos c20] at H
    have c20b0 : decide (x28_1 < (y1147.length : Int)) = true := decide_eq_true c20
    clear c20
    by_cases c21 : 0 ≤ x28_1
    · rw [if_pos c21] at H
      have c21b0 : decide (0 ≤ x28_1) = true := decide_eq_true c21
      clear c21
      by_cases c22 : x28_1 < (x8_1.length : Int)
      · rw [if_pos c22] at H
        have c22b0 : decide (x28_1 < (x8_1.length : Int)) = true := decide_eq_true c22
        clear c22
        obtain ⟨y1154, hy1154⟩ : ∃ y_ : List Int, y_ = (x8_1.set (x28_1 : Int).toNat (-1)) := ⟨_, rfl⟩
        replace H : (spec_deFar.l0 k1 l1 a2 y1154 y1151 (y1147.length : Int) (wrap64 (x28_1 + 1)) a0_0 a0_1) = some (r1, r2) := by first | (rw [hy1154]; with_reducible exact H) | (have H2_ := (Option.bind_some _ _).symm.trans H; rw [hy1154]; with_reducible exact H2_) | (have H2_ := (Option.bind_some _ _).symm.trans H; with_reducible exact H2_) | with_reducible exact H | (rw [hy1154]; exact H) | exact H
        have Ny1154 := Aside0.mk hy1154
        clear hy1154
        have H' := Aside0.mk H
        clear H
        have p23 : 0 ≤ (x28_1 : Int) := of_decide_eq_true (by first | (with_reducible assumption) | assumption)
        have q23 : (x28_1 : Int) < ((x8_1.length : Int) : Int) := of_decide_eq_true (by first | (with_reducible assumption) | assumption)
        obtain ⟨go23, co23, eo23, gb23, gl23, cl23, HG23⟩ := Kd.R_form HO_8.out (by omega)
        (first | cases eo23 | (injection eo23 with ea_ en_ ec_; (first | subst ea_ | (injection ea_ with ea_; subst ea_)); subst ec_; clear en_))
        have GB23 := Aside0.mk gb23
        have GG23 := Aside0.mk HG23
        clear gb23 gl23 HG23
        obtain ⟨hx23_0, hf23_0⟩ := Kd.R_celln 0 HO_8.out (x28_1 : Int) p23 q23
        replace p23 := eq_true p23
        replace q23 := eq_true q23
        have HP24 := Kd.R_putg HO_8.out (x28_1 : Int) (-1)
        go_wp2_with (first | ((with_reducible refine gate_store (t := 3) (p := 33) rfl ?_); refine store_event (t := 3) (p := 33) (v := ?vo_w25) (w1 := (wr.setCell ⟨go23, (x28_1 : Int).toNat, none⟩ (.int .i64 (-1)))) ?hg ?ho ?hn ?hr ?_; (case ho => rfl); (case hg => rfl); (case hn => rfl); (case hr => first | (go_simp; done) | (go_simp; rfl)); intro w25 hw; have hg : wr.grownBy w25 (some go23) := (by rw [hw]; exact HP24.2); have hp_ : Kd.R (Kd.int .i64) 3 w25 w.heap.size (fun k_ => some k_ ≠ (v1152 : Value).ownBlock) (.slice (some ⟨go23, 0, none⟩) x8_1.length co19) y1154 := (by rw [hw, Ny1154.out]; exact HP24.1); clear HP24; have n0_ := Aside0.mk (hp_); have n1_ := Aside0.mk (Kd.R_after (v := (.slice (some ⟨go23, 0, none⟩) x8_1.length co19)) (v1 := (.slice (some ⟨go23, 0, none⟩) x8_1.length co19)) (ok := (fun _ => True)) (by (with_reducible repeat (first | apply r_a | apply r_d | apply r_e)); exact Kd.R_mono HO_9.out (fun _ hk => ⟨trivial, hk⟩)) hg (.inl rfl)); have n2_ := Aside0.mk (blk_grown (g := gb1145) (o := .cells #[.int .i64 a0_0, .int .i64 a0_1] 28 (0, 0)) (bK BK1145) hg (Kd.R_ne HO_8.out BK1145.out (by decide))); have n3_ := Aside0.mk ((by rw [hw]; exact b_s (HB.out) GB23.out : Below w.heap.size w w25)); clear HO_8; clear HO_9; clear BK1145; clear HB; have HO_8 := n0_; have HO_9 := n1_; have BK1145 := n2_; have HB := n3_; clear n0_ n1_ n2_ n3_; clear hg hw hp_))
        (try simp only [← hl8_1])
        go_roundg k1
        case measure => have := HK1.out; omega
        case rel => exact ⟨(y1154), (wrap64 (x28_1 + 1)), (by first | rfl | (simp; done) | (simp [*]; done)), H', ⟨by have := HK1.out; omega⟩, ⟨by (try simp only [hl8_1]); (with_reducible repeat (first | apply r_a | apply r_d | apply r_e)); exact HO_8.out⟩, ⟨by (try simp only [hl8_1]); (with_reducible repeat (first | apply r_a | apply r_d | apply r_e)); exact Kd.R_mono HO_9.out (fun _ hk => hk.2)⟩, ⟨by (try simp only [hl8_1]); (with_reducible repeat (first | refine g_d ?_ _ | refine g_e ?_ | refine g_a ?_ _)); exact BK1145.out⟩, ⟨bB HB⟩⟩
      · rw [if_neg c22] at H
        exact absurd H (by simp)
    · rw [if_neg c21] at H
      exact absurd H (by simp)
  rw [if_neg c20] at H
  have c20b0 : decide (x28_1 < (y1147.length : Int)) = false := decide_eq_false c20
  (try simp only [hl8_1] at c20b0)
  (try simp only [hl8_2] at c20b0)
  (try simp only [hl9_2] at c20b0)
  (try simp only [hl8_3] at c20b0)
  (try simp only [hl9_3] at c20b0)
  (try simp only [hl8_4] at c20b0)
  (try simp only [hl9_4] at c20b0)
  clear c20
  replace H := Option.bind_eq_some_iff.mp H
  obtain ⟨t1155, A260, H⟩ := H
  try dsimp only at H
  have A26 := Aside0.mk A260
  clear A260
  by_cases c27 : 0 ≤ t1155
  rotate_left
  · rw [if_neg c27] at H
    exact absurd H (by simp)
  rw [if_pos c27] at H
  have c27b0 : decide (0 ≤ t1155) = true := decide_eq_true c27
  clear c27
  by_cases c28 : t1155 < (x8_1.length : Int)
  rotate_left
  · rw [if_neg c28] at H
    exact absurd H (by simp)
  rw [if_pos c28] at H
  have c28b0 : decide (t1155 < (x8_1.length : Int)) = true := decide_eq_true c28
  clear c28
  obtain ⟨y1156, hy1156⟩ : ∃ y_ : List Int, y_ = (x8_1.set (t1155 : Int).toNat 0) := ⟨_, rfl⟩
  replace H : (if t1155 < (y1151.length : Int) then (spec_deFar.l1 k1 l1 y1156 (y1151.set (t1155 : Int).toNat 1) (([a2] : List ByteArray)) 0 a0_0 a0_1) else (none)) = some (r1, r2) := by first | (rw [hy1156]; with_reducible exact H) | (have H2_ := (Option.bind_some _ _).symm.trans H; rw [hy1156]; with_reducible exact H2_) | (have H2_ := (Option.bind_some _ _).symm.trans H; with_reducible exact H2_) | with_reducible exact H | (rw [hy1156]; exact H) | exact H
  have Ny1156 := Aside0.mk hy1156
  clear hy1156
  by_cases c30 : t1155 < (y1151.length : Int)
  rotate_left
  · rw [if_neg c30] at H
    exact absurd H (by simp)
  rw [if_pos c30] at H
  have c30b0 : decide (t1155 < (y1151.length : Int)) = true := decide_eq_true c30
  clear c30
  obtain ⟨y1157, hy1157⟩ : ∃ y_ : List Int, y_ = (y1151.set (t1155 : Int).toNat 1) := ⟨_, rfl⟩
  replace H : (spec_deFar.l1 k1 l1 y1156 y1157 (([a2] : List ByteArray)) 0 a0_0 a0_1) = some (r1, r2) := by first | (rw [hy1157]; with_reducible exact H) | (have H2_ := (Option.bind_some _ _).symm.trans H; rw [hy1157]; with_reducible exact H2_) | (have H2_ := (Option.bind_some _ _).symm.trans H; with_reducible exact H2_) | with_reducible exact H | (rw [hy1157]; exact H) | exact H
  have Ny1157 := Aside0.mk hy1157
  clear hy1157
  obtain ⟨y1158, hy1158⟩ : ∃ y_ : List ByteArray, y_ = (([a2] : List ByteArray)) := ⟨_, rfl⟩
  replace H : (spec_deFar.l1 k1 l1 y1156 y1157 y1158 0 a0_0 a0_1) = some (r1, r2) := by first | (rw [hy1158]; with_reducible exact H) | (have H2_ := (Option.bind_some _ _).symm.trans H; rw [hy1158]; with_reducible exact H2_) | (have H2_ := (Option.bind_some _ _).symm.trans H; with_reducible exact H2_) | with_reducible exact H | (rw [hy1158]; exact H) | exact H
  have Ny1158 := Aside0.mk hy1158
  clear hy1158
  have H' := Aside0.mk H
  clear H
  have hcz32_0 := cz0 BK1145
  have hcz32_1 := cz1 BK1145
  have hfz32_0 := blk_frozen BK1145.out 0
  have hfz32_1 := blk_frozen BK1145.out 1
  go_wp2_with (first | ((with_reducible refine gate_callee (f := 63) rfl ?_); refine goesL_ (some 37) rfl rfl Try.func63 (by kernel_rfl) rfl #[.agg #[.int .i64 a0_0, .int .i64 a0_1], .string a2] rfl (by (try simp only [m_1, m_2, m_3]); first | done | rfl | (simp only [m_4, m_5]; rfl)) ?_; (with_reducible refine (spec_whNumber.calls k1 a0_0 a0_1 a2 t1155 _ A26.out).mono ?_); rintro e w33 ⟨rfl, hb⟩; refine ⟨_, rfl, ?_⟩; have n0_ := Aside0.mk (Kd.R_below (by (with_reducible repeat (first | apply r_a | apply r_d | apply r_e)); exact HO_8.out) hb); have n1_ := Aside0.mk (Kd.R_below (by (with_reducible repeat (first | apply r_a | apply r_d | apply r_e)); exact HO_9.out) hb); replace BK1145 := bbx hb BK1145; replace HB := bsx hb HB; clear HO_8; clear HO_9; have HO_8 := n0_; have HO_9 := n1_; clear n0_ n1_; (try clear hb); (try clear hb2); (try clear hk); (try clear hi); have p29 : 0 ≤ (t1155 : Int) := of_decide_eq_true (by first | (with_reducible assumption) | assumption); have q29 : (t1155 : Int) < ((x8_1.length : Int) : Int) := of_decide_eq_true (by first | (with_reducible assumption) | assumption); obtain ⟨go29, co29, eo29, gb29, gl29, cl29, HG29⟩ := Kd.R_form HO_8.out (by omega); (first | cases eo29 | (injection eo29 with ea_ en_ ec_; (first | subst ea_ | (injection ea_ with ea_; subst ea_)); subst ec_; clear en_)); have GB29 := Aside0.mk gb29; have GG29 := Aside0.mk HG29; clear gb29 gl29 HG29; obtain ⟨hx29_0, hf29_0⟩ := Kd.R_celln 0 HO_8.out (t1155 : Int) p29 q29; replace p29 := eq_true p29; replace q29 := eq_true q29; obtain ⟨hy34_, hz34_⟩ := Kd.R_celln 0 HO_8.out (t1155 : Int) (of_decide_eq_true (by first | (with_reducible assumption) | assumption)) (of_decide_eq_true (by first | (with_reducible assumption) | assumption)); have HP34 := Kd.R_putg HO_8.out (t1155 : Int) 0) | ((with_reducible refine gate_store (t := 3) (p := 40) rfl ?_); refine store_event (t := 3) (p := 40) (v := ?vo_w35) (w1 := (w33.setCell ⟨go29, (t1155 : Int).toNat, none⟩ (.int .i64 0))) ?hg ?ho ?hn ?hr ?_; (case ho => rfl); (case hg => rfl); (case hn => rfl); (case hr => first | (go_simp; done) | (go_simp; rfl)); intro w35 hw; have hg : w33.grownBy w35 (some go29) := (by rw [hw]; exact HP34.2); have hp_ : Kd.R (Kd.int .i64) 3 w35 w.heap.size (fun k_ => some k_ ≠ (v1152 : Value).ownBlock) (.slice (some ⟨go29, 0, none⟩) x8_1.length co19) y1156 := (by rw [hw, Ny1156.out]; exact HP34.1); clear HP34; have n0_ := Aside0.mk (hp_); have n1_ := Aside0.mk (Kd.R_after (v := (.slice (some ⟨go29, 0, none⟩) x8_1.length co19)) (v1 := (.slice (some ⟨go29, 0, none⟩) x8_1.length co19)) (ok := (fun _ => True)) (by (with_reducible repeat (first | apply r_a | apply r_d | apply r_e)); exact Kd.R_mono HO_9.out (fun _ hk => ⟨trivial, hk⟩)) hg (.inl rfl)); have n2_ := Aside0.mk (blk_grown (g := gb1145) (o := .cells #[.int .i64 a0_0, .int .i64 a0_1] 28 (0, 0)) (bK BK1145) hg (Kd.R_ne HO_8.out BK1145.out (by decide))); have n3_ := Aside0.mk ((by rw [hw]; exact b_s (HB.out) GB29.out : Below w.heap.size w w35)); clear HO_8; clear HO_9; clear BK1145; clear HB; have HO_8 := n0_; have HO_9 := n1_; have BK1145 := n2_; have HB := n3_; clear n0_ n1_ n2_ n3_; clear hg hw hp_; have p31 : 0 ≤ (t1155 : Int) := of_decide_eq_true (by first | (with_reducible assumption) | assumption); have q31 : (t1155 : Int) < ((y1151.length : Int) : Int) := of_decide_eq_true (by first | (with_reducible assumption) | assumption); obtain ⟨go31, co31, eo31, gb31, gl31, cl31, HG31⟩ := Kd.R_form HO_9.out (by omega); (first | cases eo31 | (injection eo31 with ea_ en_ ec_; (first | subst ea_ | (injection ea_ with ea_; subst ea_)); subst ec_; clear en_)); have GB31 := Aside0.mk gb31; have GG31 := Aside0.mk HG31; clear gb31 gl31 HG31; obtain ⟨hx31_0, hf31_0⟩ := Kd.R_celln 0 HO_9.out (t1155 : Int) p31 q31; replace p31 := eq_true p31; replace q31 := eq_true q31; have n_ := Aside0.mk (Kd.R_mono (ok' := (fun k_ => some k_ ≠ (.slice (some ⟨go29, 0, none⟩) x8_1.length co19 : Value).ownBlock)) HO_9.out (fun k_ hk => hk.2)); clear HO_9; have HO_9 := n_; clear n_; obtain ⟨hy36_, hz36_⟩ := Kd.R_celln 0 HO_9.out (t1155 : Int) (of_decide_eq_true (by first | (with_reducible assumption) | assumption)) (of_decide_eq_true (by first | (with_reducible assumption) | assumption)); have HP36 := Kd.R_putg HO_9.out (t1155 : Int) 1) | ((with_reducible refine gate_store (t := 3) (p := 43) rfl ?_); refine store_event (t := 3) (p := 43) (v := ?vo_w37) (w1 := (w35.setCell ⟨go31, (t1155 : Int).toNat, none⟩ (.int .i64 1))) ?hg ?ho ?hn ?hr ?_; (case ho => rfl); (case hg => rfl); (case hn => rfl); (case hr => first | (go_simp; done) | (go_simp; rfl)); intro w37 hw; have hg : w35.grownBy w37 (some go31) := (by rw [hw]; exact HP36.2); have hp_ : Kd.R (Kd.int .i64) 3 w37 w.heap.size (fun k_ => some k_ ≠ (.slice (some ⟨go29, 0, none⟩) x8_1.length co19 : Value).ownBlock) (.slice (some ⟨go31, 0, none⟩) y1151.length co31) y1157 := (by rw [hw, Ny1157.out]; exact HP36.1); clear HP36; have n0_ := Aside0.mk (Kd.R_after (v := (.slice (some ⟨go31, 0, none⟩) y1151.length co31)) (v1 := (.slice (some ⟨go31, 0, none⟩) y1151.length co31)) (ok := (fun _ => True)) (by (with_reducible repeat (first | apply r_a | apply r_d | apply r_e)); exact Kd.R_mono HO_8.out (fun _ hk => ⟨trivial, hk⟩)) hg (.inl rfl)); have n1_ := Aside0.mk (hp_); have n2_ := Aside0.mk (blk_grown (g := gb1145) (o := .cells #[.int .i64 a0_0, .int .i64 a0_1] 28 (0, 0)) (bK BK1145) hg (Kd.R_ne HO_9.out BK1145.out (by decide))); have n3_ := Aside0.mk ((by rw [hw]; exact b_s (HB.out) GB31.out : Below w.heap.size w w37)); clear HO_8; clear HO_9; clear BK1145; clear HB; have HO_8 := n0_; have HO_9 := n1_; have BK1145 := n2_; have HB := n3_; clear n0_ n1_ n2_ n3_; clear hg hw hp_) | ((with_reducible refine gate_dst (N := 45) rfl ?_); refine Kd.R_lit Kd.string _ 9 ?hg (N := 45) ?hd (xs := ([a2] : List ByteArray)) (inner := [.string a2]) (ok := fun _ => True) (okp := fun _ => True) ?hr ?hp (fun _ hk => hk) trivial (Below.refl _ _) (Nat.le_refl _) (by simp) ?_; (case hd => rfl); (case hg => rfl); (case hr => first | (go_simp; done) | (go_simp; rfl)); (case hp => exact (Reps.one (show Kd.M Kd.string _ _ _ a2 [.string a2] from rfl) (Reps.none _ _))); intro v1159 w38 ho39 hb hg_ hnew_; clear hg_ hnew_; (first | rw [← Ny1158.out] at ho39 | (simp only [Int.reduceToNat] at ho39; rw [← Ny1158.out] at ho39)); have n0_ := Aside0.mk (Kd.R_below (by (with_reducible repeat (first | apply r_a | apply r_d | apply r_e)); exact HO_8.out) hb); have n1_ := Aside0.mk (Kd.R_below (by (with_reducible repeat (first | apply r_a | apply r_d | apply r_e)); exact HO_9.out) hb); have n2_ := Aside0.mk (Kd.R_lower ho39 (below_size (bB HB))); replace BK1145 := bbx hb BK1145; have n4_ := bsx hb HB; clear HO_8; clear HO_9; clear HB; have HO_8 := n0_; have HO_9 := n1_; have HO1160 := n2_; have HB := n4_; clear n0_ n1_ n2_ n4_; clear hb ho39))
  go_loopg [12, 13] k1 (fun kq v12 v13 w' => ∃ (x8_2 : List Int) (x9_2 : List Int) (x12_2 : List ByteArray) (x13_2 : Int), v13 = .int .i64 x13_2 ∧ Aside0 (spec_deFar.l1 kq l1 x8_2 x9_2 x12_2 x13_2 a0_0 a0_1 = some (r1, r2)) ∧ Aside0 (kq ≤ k1) ∧ Aside0 (Kd.R (Kd.int .i64) 3 w' w.heap.size (fun k_ => some k_ ≠ ((.slice (some ⟨go31, 0, none⟩) y1151.length co31) : Value).ownBlock) (.slice (some ⟨go29, 0, none⟩) x8_1.length co19) x8_2) ∧ Aside0 (Kd.R (Kd.int .i64) 3 w' w.heap.size (fun k_ => some k_ ≠ ((.slice (some ⟨go29, 0, none⟩) x8_1.length co19) : Value).ownBlock) (.slice (some ⟨go31, 0, none⟩) y1151.length co31) x9_2) ∧ Aside0 (Kd.R Kd.string 9 w' w.heap.size (fun _ => True) v12 x12_2) ∧ Aside0 (w'.heap[gb1145]? = some (.cells #[.int .i64 a0_0, .int .i64 a0_1] 28 (0, 0))) ∧ Aside0 (Below w.heap.size w w'))
  case atStart => exact ⟨(y1156), (y1157), (y1158), (0), (by first | rfl | (simp; done) | (simp [*]; done)), H', ⟨Nat.le_refl _⟩, ⟨by (try simp only [hl8_1]); (with_reducible repeat (first | apply r_a | apply r_d | apply r_e)); exact Kd.R_mono HO_8.out (fun _ hk => hk.2)⟩, ⟨by (try simp only [hl8_1]); (with_reducible repeat (first | apply r_a | apply r_d | apply r_e)); exact HO_9.out⟩, ⟨by (try simp only [hl8_1]); (with_reducible repeat (first | apply r_a | apply r_d | apply r_e)); exact HO1160.out⟩, ⟨by (try simp only [hl8_1]); (with_reducible repeat (first | refine g_d ?_ _ | refine g_e ?_ | refine g_a ?_ _)); exact BK1145.out⟩, ⟨bB HB⟩⟩
  clear H'
  try clear c20
  try clear c20b0
  try clear c27
  try clear c27b0
  try clear c28
  try clear c28b0
  try clear p29
  try clear q29
  try clear c30
  try clear c30b0
  try clear p31
  try clear q31
  try clear hcz32_0
  try clear hcz32_1
  try clear hfz32_0
  try clear hfz32_1
  try clear hx29_0
  try clear hx31_0
  obtain ⟨x8_2, x9_2, x12_2, x13_2, rfl, HA, HK2, HO_8, HO_9, HO_12, BK1145, HB⟩ := hrel
  have hl8_2 := (Kd.R_reads' HO_8.out).1
  rw [hl8_2] at HO_8
  (try simp only [hl8_2])
  (try simp only [hl8_2] at BK1145)
  (try simp only [hl8_2] at HO_9)
  (try simp only [hl8_2] at HO_12)
  have hl9_2 := (Kd.R_reads' HO_9.out).1
  rw [hl9_2] at HO_9
  (try simp only [hl9_2])
  (try simp only [hl9_2] at BK1145)
  (try simp only [hl9_2] at HO_8)
  (try simp only [hl9_2] at HO_12)
  rcases gk with _ | k2
  · exact absurd HA.out (by simp [spec_deFar.l1])
  have H := HA.out
  clear HA
  simp only [spec_deFar.l1] at H
  by_cases c40 : x13_2 < (x12_2.length : Int)
  rotate_left
  · rw [if_neg c40] at H
    have c40b0 : decide (x13_2 < (x12_2.length : Int)) = false := decide_eq_false c40
    (try simp only [hl8_1] at c40b0)
    (try simp only [hl8_2] at c40b0)
    (try simp only [hl9_2] at c40b0)
    (try simp only [hl8_3] at c40b0)
    (try simp only [hl9_3] at c40b0)
    (try simp only [hl8_4] at c40b0)
    (try simp only [hl9_4] at c40b0)
    clear c40
    simp only [Option.some.injEq, Prod.mk.injEq] at H
    obtain ⟨rfl, rfl⟩ := H
    obtain ⟨Ao119, co119, eo119⟩ := Kd.R_slice HO_12.out
    subst eo119
    go_wp2
    go_ret2
    exact ⟨_, _, by first | rfl | (simp [errW_none, errW_some] <;> rfl) | (simp [*, errW_none, errW_some] <;> rfl), by (with_reducible repeat (first | apply r_a | apply r_d | apply r_e)); exact HO_8.out, by (with_reducible repeat (first | apply r_a | apply r_d | apply r_e)); exact HO_9.out, bB HB⟩
  rw [if_pos c40] at H
  have c40b0 : decide (x13_2 < (x12_2.length : Int)) = true := decide_eq_true c40
  clear c40
  by_cases c41 : 0 ≤ x13_2
  rotate_left
  · rw [if_neg c41] at H
    exact absurd H (by simp)
  rw [if_pos c41] at H
  have c41b0 : decide (0 ≤ x13_2) = true := decide_eq_true c41
  clear c41
  replace H := Option.bind_eq_some_iff.mp H
  obtain ⟨t1162, A420, H⟩ := H
  try dsimp only at H
  have A42 := Aside0.mk A420
  clear A420
  have H' := Aside0.mk H
  clear H
  obtain ⟨Ao43, co43, eo43⟩ := Kd.R_slice HO_12.out
  subst eo43
  try go_wp2
  have n0_ := Aside0.mk (r_e HO_8.out)
  have n1_ := Aside0.mk (r_e HO_9.out)
  have n2_ := Aside0.mk (r_e HO_12.out)
  have n3_ := Aside0.mk (g_e BK1145.out)
  have n4_ := Aside0.mk (b_e HB.out)
  clear HO_8
  clear HO_9
  clear HO_12
  clear BK1145
  clear HB
  have HO_8 := n0_
  have HO_9 := n1_
  have HO_12 := n2_
  have BK1145 := n3_
  have HB := n4_
  clear n0_ n1_ n2_ n3_ n4_
  have p1161 : 0 ≤ (x13_2 : Int) := of_decide_eq_true (by first | (with_reducible assumption) | assumption)
  have q1161 : x13_2 < (x12_2.length : Int) := of_decide_eq_true (by first | (with_reducible assumption) | assumption)
  obtain ⟨ad1161, e1161, hx1161_0⟩ := Kd.at_string (Kd.R_reads' HO_12.out).2.2 x13_2 p1161 q1161
  cases e1161
  replace p1161 := eq_true p1161
  replace q1161 := eq_true q1161
  refine start_ (n := 7) (S := fun w' => w'.cell? ⟨gb1145, 0, none⟩ = some (.int .i64 a0_0) ∧ w'.cell? ⟨gb1145, 1, none⟩ = some (.int .i64 a0_1) ∧ w'.cell? (ad1161.add (x13_2).toNat) = some (.string (rdOf ByteArray.empty x12_2 x13_2))) (ds := []) (bs_ 7 0) (by kernel_rfl) rfl rfl ⟨(blk_cell BK1145.out 0).trans rfl, (blk_cell BK1145.out 1).trans rfl, hx1161_0⟩ (fun hHeld => ?_)
  generalize wr.drew = w44 at HO_8 HO_9 HO_12 BK1145 HB hx1161_0 hHeld ⊢
  refine pure_ (i := 1) (N := some 53) (v := ?_) (a' := ?_) (bs_ 7 2) rfl rfl (by kernel_rfl) (fun _ _ _ h => h) (Or.inl ⟨by rfl, ?_⟩) ?_ ?_
  rotate_left
  · intro w'
    go_simp
    with_reducible rfl
  rotate_left
  · simp only [Act.put, s_1, s_2, s_3, i64_w, i32_w]
    rfl
  refine pure_ (i := 2) (N := some 54) (v := ?_) (a' := ?_) (bs_ 7 6) rfl rfl (by kernel_rfl) (fun _ _ _ h => h) (Or.inl ⟨by rfl, ?_⟩) ?_ ?_
  rotate_left
  · intro w'
    go_simp
    with_reducible rfl
  rotate_left
  · simp only [Act.put, s_1, s_2, s_3, i64_w, i32_w]
    rfl
  refine pure_ (i := 3) (N := some 55) (v := ?_) (a' := ?_) (bs_ 7 14) rfl rfl (by kernel_rfl) (fun _ _ _ h => h) (Or.inl ⟨by rfl, ?_⟩) ?_ ?_
  rotate_left
  · intro w'
    go_simp
    with_reducible rfl
  rotate_left
  · simp only [Act.put, s_1, s_2, s_3, i64_w, i32_w]
    rfl
  refine take_ (i := 0) (N := some 52) (v := ?_) (a' := ?_) (bs_ 7 15) rfl rfl (by kernel_rfl) (fun _ _ _ h => h) (Or.inl ⟨by rfl, ?_⟩) hHeld ?_ ?_
  rotate_left
  · rintro w' ⟨s0, s1, s2⟩
    go_simp
    with_reducible rfl
  rotate_left
  · simp only [Act.put, s_1, s_2, s_3, i64_w, i32_w]
    rfl
  refine take_ (i := 4) (N := some 56) (v := ?_) (a' := ?_) (bs_ 7 31) rfl rfl (by kernel_rfl) (fun _ _ _ h => h) (Or.inl ⟨by rfl, ?_⟩) hHeld ?_ ?_
  rotate_left
  · rintro w' ⟨s0, s1, s2⟩
    go_simp
    with_reducible rfl
  rotate_left
  · simp only [Act.put, s_1, s_2, s_3, i64_w, i32_w]
    rfl
  refine one_ (i := 5) (N := some 57) (bs_ 7 63) rfl rfl (by kernel_rfl) (by decide) (fun K hK => ?_)
  refine goes_ Try.func63 (by kernel_rfl) rfl #[.agg #[.int .i64 a0_0, .int .i64 a0_1], .string (rdOf ByteArray.empty x12_2 x13_2)] (by rfl) rfl rfl (by (try simp only [m_1, m_2, m_3]); first | done | rfl | (simp only [m_4, m_5]; rfl)) ?_
  with_reducible refine (spec_whNumber.calls k2 a0_0 a0_1 (rdOf ByteArray.empty x12_2 x13_2) t1162 _ A42.out).mono ?_
  rintro e w45 ⟨rfl, hb⟩
  have HS2_ := (hb.cell (World.block_lt_of_cell? _ _ (hHeld.2.2))).trans (hHeld.2.2)
  refine ⟨_, rfl, ?_⟩
  have n0_ := Aside0.mk (Kd.R_below (by (with_reducible repeat (first | apply r_a | apply r_d | apply r_e)); exact HO_8.out) hb)
  have n1_ := Aside0.mk (Kd.R_below (by (with_reducible repeat (first | apply r_a | apply r_d | apply r_e)); exact HO_9.out) hb)
  have n2_ := Aside0.mk (Kd.R_below (by (with_reducible repeat (first | apply r_a | apply r_d | apply r_e)); exact HO_12.out) hb)
  have n3_ := bbx hb BK1145
  have n4_ := bsx hb HB
  clear HO_8
  clear HO_9
  clear HO_12
  clear BK1145
  clear HB
  have HO_8 := n0_
  have HO_9 := n1_
  have HO_12 := n2_
  have BK1145 := n3_
  have HB := n4_
  clear n0_ n1_ n2_ n3_ n4_
  (try clear hb)
  (try clear hb2)
  (try clear hk)
  (try clear hi)
  refine hK.out _ _ ⟨(blk_cell BK1145.out 0).trans rfl, (blk_cell BK1145.out 1).trans rfl, HS2_⟩ (fun hHeld => ?_)
  clear hK K
  refine norm_ (a' := ?_) ?_ ?_
  rotate_left
  · show Act.put _ (some 57) _ = _
    simp only [Act.put, s_1, s_2, s_3, i64_w, i32_w]
    rfl
  refine pure_ (i := 6) (N := some 14) (v := ?_) (a' := ?_) (bs_ 7 127) rfl rfl (by kernel_rfl) (fun _ _ _ h => h) (Or.inl ⟨by rfl, ?_⟩) ?_ ?_
  rotate_left
  · intro w'
    go_simp
    with_reducible rfl
  rotate_left
  · simp only [Act.put, s_1, s_2, s_3, i64_w, i32_w]
    rfl
  refine done_ (by kernel_rfl) ?_
  try go_wp2
  go_loopg [12, 15] k2 (fun kq v12 v15 w' => ∃ (x8_3 : List Int) (x9_3 : List Int) (x12_3 : List ByteArray) (x15_3 : Int), v15 = .int .i64 x15_3 ∧ Aside0 (spec_deFar.l2 kq l1 x8_3 x9_3 x12_3 x13_2 t1162 x15_3 a0_0 a0_1 = some (r1, r2)) ∧ Aside0 (kq ≤ k2) ∧ Aside0 (Kd.R (Kd.int .i64) 3 w' w.heap.size (fun k_ => some k_ ≠ ((.slice (some ⟨go31, 0, none⟩) x9_2.length co31) : Value).ownBlock) (.slice (some ⟨go29, 0, none⟩) x8_2.length co19) x8_3) ∧ Aside0 (Kd.R (Kd.int .i64) 3 w' w.heap.size (fun k_ => some k_ ≠ ((.slice (some ⟨go29, 0, none⟩) x8_2.length co19) : Value).ownBlock) (.slice (some ⟨go31, 0, none⟩) x9_2.length co31) x9_3) ∧ Aside0 (Kd.R Kd.string 9 w' w.heap.size (fun _ => True) v12 x12_3) ∧ Aside0 (w'.heap[gb1145]? = some (.cells #[.int .i64 a0_0, .int .i64 a0_1] 28 (0, 0))) ∧ Aside0 (Below w.heap.size w w'))
  case atStart => exact ⟨(x8_2), (x9_2), (x12_2), (0), (by first | rfl | (simp; done) | (simp [*]; done)), H', ⟨Nat.le_refl _⟩, ⟨by (try simp only [hl8_1]); (try simp only [hl8_2]); (try simp only [hl9_2]); (with_reducible repeat (first | apply r_a | apply r_d | apply r_e)); exact HO_8.out⟩, ⟨by (try simp only [hl8_1]); (try simp only [hl8_2]); (try simp only [hl9_2]); (with_reducible repeat (first | apply r_a | apply r_d | apply r_e)); exact HO_9.out⟩, ⟨by (try simp only [hl8_1]); (try simp only [hl8_2]); (try simp only [hl9_2]); (with_reducible repeat (first | apply r_a | apply r_d | apply r_e)); exact HO_12.out⟩, ⟨by (try simp only [hl8_1]); (try simp only [hl8_2]); (try simp only [hl9_2]); (with_reducible repeat (first | refine g_d ?_ _ | refine g_e ?_ | refine g_a ?_ _)); exact BK1145.out⟩, ⟨bB HB⟩⟩
  clear H'
  try clear c40
  try clear c40b0
  try clear c41
  try clear c41b0
  try clear hx1161_0
  try clear p1161
  try clear q1161
  obtain ⟨x8_3, x9_3, x12_3, x15_3, rfl, HA, HK3, HO_8, HO_9, HO_12, BK1145, HB⟩ := hrel
  have hl8_3 := (Kd.R_reads' HO_8.out).1
  rw [hl8_3] at HO_8
  (try simp only [hl8_3])
  (try simp only [hl8_3] at BK1145)
  (try simp only [hl8_3] at HO_9)
  (try simp only [hl8_3] at HO_12)
  have hl9_3 := (Kd.R_reads' HO_9.out).1
  rw [hl9_3] at HO_9
  (try simp only [hl9_3])
  (try simp only [hl9_3] at BK1145)
  (try simp only [hl9_3] at HO_8)
  (try simp only [hl9_3] at HO_12)
  rcases gk with _ | k3
  · exact absurd HA.out (by simp [spec_deFar.l2])
  have H := HA.out
  clear HA
  simp only [spec_deFar.l2] at H
  by_cases c46 : x15_3 < a0_0
  rotate_left
  · rw [if_neg c46] at H
    have c46b0 : decide (x15_3 < a0_0) = false := decide_eq_false c46
    (try simp only [hl8_1] at c46b0)
    (try simp only [hl8_2] at c46b0)
    (try simp only [hl9_2] at c46b0)
    (try simp only [hl8_3] at c46b0)
    (try simp only [hl9_3] at c46b0)
    (try simp only [hl8_4] at c46b0)
    (try simp only [hl9_4] at c46b0)
    clear c46
    have H' := Aside0.mk H
    clear H
    have hcz118_0 := cz0 BK1145
    have hcz118_1 := cz1 BK1145
    have hfz118_0 := blk_frozen BK1145.out 0
    have hfz118_1 := blk_frozen BK1145.out 1
    go_wp2
    (try simp only [← hl8_2, ← hl9_2, ← hl8_3, ← hl9_3])
    go_roundg k3
    case measure => have := HK1.out; have := HK2.out; have := HK3.out; omega
    case rel => exact ⟨(x8_3), (x9_3), (x12_3), (wrap64 (x13_2 + 1)), (by first | rfl | (simp; done) | (simp [*]; done)), H', ⟨by have := HK1.out; have := HK2.out; have := HK3.out; omega⟩, ⟨by (try simp only [hl8_1]); (try simp only [hl8_2]); (try simp only [hl9_2]); (try simp only [hl8_3]); (try simp only [hl9_3]); (with_reducible repeat (first | apply r_a | apply r_d | apply r_e)); exact HO_8.out⟩, ⟨by (try simp only [hl8_1]); (try simp only [hl8_2]); (try simp only [hl9_2]); (try simp only [hl8_3]); (try simp only [hl9_3]); (with_reducible repeat (first | apply r_a | apply r_d | apply r_e)); exact HO_9.out⟩, ⟨by (try simp only [hl8_1]); (try simp only [hl8_2]); (try simp only [hl9_2]); (try simp only [hl8_3]); (try simp only [hl9_3]); (with_reducible repeat (first | apply r_a | apply r_d | apply r_e)); exact HO_12.out⟩, ⟨by (try simp only [hl8_1]); (try simp only [hl8_2]); (try simp only [hl9_2]); (try simp only [hl8_3]); (try simp only [hl9_3]); (with_reducible repeat (first | refine g_d ?_ _ | refine g_e ?_ | refine g_a ?_ _)); exact BK1145.out⟩, ⟨bB HB⟩⟩
  rw [if_pos c46] at H
  have c46b0 : decide (x15_3 < a0_0) = true := decide_eq_true c46
  clear c46
  obtain ⟨y1163, hy1163⟩ : ∃ y_ : List Int, y_ = (([1, (-1)] : List Int)) := ⟨_, rfl⟩
  replace H : (spec_deFar.l3 k3 l1 x8_3 x9_3 x12_3 x13_2 t1162 x15_3 y1163 (y1163.length : Int) 0 a0_0 a0_1) = some (r1, r2) := by first | (rw [hy1163]; with_reducible exact H) | (have H2_ := (Option.bind_some _ _).symm.trans H; rw [hy1163]; with_reducible exact H2_) | (have H2_ := (Option.bind_some _ _).symm.trans H; with_reducible exact H2_) | with_reducible exact H | (rw [hy1163]; exact H) | exact H
  have Ny1163 := Aside0.mk hy1163
  clear hy1163
  have H' := Aside0.mk H
  clear H
  have hcz47_0 := cz0 BK1145
  have hcz47_1 := cz1 BK1145
  have hfz47_0 := blk_frozen BK1145.out 0
  have hfz47_1 := blk_frozen BK1145.out 1
  go_wp2_with (first | ((with_reducible refine gate_dst (N := 64) rfl ?_); refine Kd.R_lit (Kd.int .i64) _ 3 ?hg (N := 64) ?hd (xs := ([1, (-1)] : List Int)) (inner := [.int .i64 1, .int .i64 (-1)]) (ok := fun _ => True) (okp := fun _ => True) ?hr ?hp (fun _ hk => hk) trivial (Below.refl _ _) (Nat.le_refl _) (by simp) ?_; (case hd => rfl); (case hg => rfl); (case hr => first | (go_simp; done) | (go_simp; rfl)); (case hp => exact (Reps.one (show Kd.M (Kd.int .i64) _ _ _ 1 [.int .i64 1] from rfl) (Reps.one (show Kd.M (Kd.int .i64) _ _ _ (-1) [.int .i64 (-1)] from rfl) (Reps.none _ _)))); intro v1164 w48 ho49 hb hg_ hnew_; clear hg_ hnew_; (first | rw [← Ny1163.out] at ho49 | (simp only [Int.reduceToNat] at ho49; rw [← Ny1163.out] at ho49)); have n0_ := Aside0.mk (Kd.R_elder' (by (with_reducible repeat (first | apply r_a | apply r_d | apply r_e)); exact HO_8.out) (Kd.R_base ho49) hb); have n1_ := Aside0.mk (Kd.R_elder' (by (with_reducible repeat (first | apply r_a | apply r_d | apply r_e)); exact HO_9.out) (Kd.R_base ho49) hb); have n2_ := Aside0.mk (Kd.R_below (by (with_reducible repeat (first | apply r_a | apply r_d | apply r_e)); exact HO_12.out) hb); have n3_ := Aside0.mk (Kd.R_lower (Kd.R_new' (Kd.R_new' ho49 (Kd.R_lt (by (with_reducible repeat (first | apply r_a | apply r_d | apply r_e)); exact HO_8.out))) (Kd.R_lt (by (with_reducible repeat (first | apply r_a | apply r_d | apply r_e)); exact HO_9.out))) (below_size (bB HB))); replace BK1145 := bbx hb BK1145; have n5_ := bsx hb HB; clear HO_8; clear HO_9; clear HO_12; clear HB; have HO_8 := n0_; have HO_9 := n1_; have HO_12 := n2_; have HO1165 := n3_; have HB := n5_; clear n0_ n1_ n2_ n3_ n5_; clear hb ho49; obtain ⟨Ao50, co50, eo50⟩ := Kd.R_slice HO1165.out; subst eo50))
  go_loopg [12, 66] k3 (fun kq v12 v66 w' => ∃ (x8_4 : List Int) (x9_4 : List Int) (x12_4 : List ByteArray) (x66_4 : Int), v66 = .int .i64 x66_4 ∧ Aside0 (spec_deFar.l3 kq l1 x8_4 x9_4 x12_4 x13_2 t1162 x15_3 y1163 (y1163.length : Int) x66_4 a0_0 a0_1 = some (r1, r2)) ∧ Aside0 (kq ≤ k3) ∧ Aside0 (Kd.R (Kd.int .i64) 3 w' w.heap.size (fun k_ => some k_ ≠ ((.slice (some ⟨go31, 0, none⟩) x9_3.length co31) : Value).ownBlock ∧ some k_ ≠ ((.slice Ao50 y1163.length co50) : Value).ownBlock) (.slice (some ⟨go29, 0, none⟩) x8_3.length co19) x8_4) ∧ Aside0 (Kd.R (Kd.int .i64) 3 w' w.heap.size (fun k_ => some k_ ≠ ((.slice (some ⟨go29, 0, none⟩) x8_3.length co19) : Value).ownBlock ∧ some k_ ≠ ((.slice Ao50 y1163.length co50) : Value).ownBlock) (.slice (some ⟨go31, 0, none⟩) x9_3.length co31) x9_4) ∧ Aside0 (Kd.R Kd.string 9 w' w.heap.size (fun _ => True) v12 x12_4) ∧ Aside0 (Kd.R (Kd.int .i64) 3 w' w.heap.size (fun k_ => some k_ ≠ ((.slice (some ⟨go29, 0, none⟩) x8_3.length co19) : Value).ownBlock ∧ some k_ ≠ ((.slice (some ⟨go31, 0, none⟩) x9_3.length co31) : Value).ownBlock) (.slice Ao50 y1163.length co50) y1163) ∧ Aside0 (w'.heap[gb1145]? = some (.cells #[.int .i64 a0_0, .int .i64 a0_1] 28 (0, 0))) ∧ Aside0 (Below w.heap.size w w'))
  case atStart => exact ⟨(x8_3), (x9_3), (x12_3), (0), (by first | rfl | (simp; done) | (simp [*]; done)), H', ⟨Nat.le_refl _⟩, ⟨by (try simp only [hl8_1]); (try simp only [hl8_2]); (try simp only [hl9_2]); (try simp only [hl8_3]); (try simp only [hl9_3]); (with_reducible repeat (first | apply r_a | apply r_d | apply r_e)); exact HO_8.out⟩, ⟨by (try simp only [hl8_1]); (try simp only [hl8_2]); (try simp only [hl9_2]); (try simp only [hl8_3]); (try simp only [hl9_3]); (with_reducible repeat (first | apply r_a | apply r_d | apply r_e)); exact HO_9.out⟩, ⟨by (try simp only [hl8_1]); (try simp only [hl8_2]); (try simp only [hl9_2]); (try simp only [hl8_3]); (try simp only [hl9_3]); (with_reducible repeat (first | apply r_a | apply r_d | apply r_e)); exact HO_12.out⟩, ⟨by (try simp only [hl8_1]); (try simp only [hl8_2]); (try simp only [hl9_2]); (try simp only [hl8_3]); (try simp only [hl9_3]); (with_reducible repeat (first | apply r_a | apply r_d | apply r_e)); exact Kd.R_mono HO1165.out (fun _ hk => ⟨hk.1.2, hk.2⟩)⟩, ⟨by (try simp only [hl8_1]); (try simp only [hl8_2]); (try simp only [hl9_2]); (try simp only [hl8_3]); (try simp only [hl9_3]); (with_reducible repeat (first | refine g_d ?_ _ | refine g_e ?_ | refine g_a ?_ _)); exact BK1145.out⟩, ⟨bB HB⟩⟩
  clear H'
  try clear c46
  try clear c46b0
  try clear hcz47_0
  try clear hcz47_1
  try clear hfz47_0
  try clear hfz47_1
  obtain ⟨x8_4, x9_4, x12_4, x66_4, rfl, HA, HK4, HO_8, HO_9, HO_12, HO_64, BK1145, HB⟩ := hrel
  have hl8_4 := (Kd.R_reads' HO_8.out).1
  rw [hl8_4] at HO_8
  (try simp only [hl8_4])
  (try simp only [hl8_4] at BK1145)
  (try simp only [hl8_4] at HO_9)
  (try simp only [hl8_4] at HO_12)
  (try simp only [hl8_4] at HO_64)
  have hl9_4 := (Kd.R_reads' HO_9.out).1
  rw [hl9_4] at HO_9
  (try simp only [hl9_4])
  (try simp only [hl9_4] at BK1145)
  (try simp only [hl9_4] at HO_8)
  (try simp only [hl9_4] at HO_12)
  (try simp only [hl9_4] at HO_64)
  rcases gk with _ | k4
  · exact absurd HA.out (by simp [spec_deFar.l3])
  have H := HA.out
  clear HA
  simp only [spec_deFar.l3] at H
  by_cases c51 : x66_4 < (y1163.length : Int)
  rotate_left
  · rw [if_neg c51] at H
    have c51b0 : decide (x66_4 < (y1163.length : Int)) = false := decide_eq_false c51
    (try simp only [hl8_1] at c51b0)
    (try simp only [hl8_2] at c51b0)
    (try simp only [hl9_2] at c51b0)
    (try simp only [hl8_3] at c51b0)
    (try simp only [hl9_3] at c51b0)
    (try simp only [hl8_4] at c51b0)
    (try simp only [hl9_4] at c51b0)
    clear c51
    have H' := Aside0.mk H
    clear H
    go_wp2
    (try simp only [← hl8_3, ← hl9_3, ← hl8_4, ← hl9_4])
    go_roundg k4
    case measure => have := HK1.out; have := HK2.out; have := HK3.out; have := HK4.out; omega
    case rel => exact ⟨(x8_4), (x9_4), (x12_4), (wrap64 (x15_3 + 1)), (by first | rfl | (simp; done) | (simp [*]; done)), H', ⟨by have := HK1.out; have := HK2.out; have := HK3.out; have := HK4.out; omega⟩, ⟨by (try simp only [hl8_1]); (try simp only [hl8_2]); (try simp only [hl9_2]); (try simp only [hl8_3]); (try simp only [hl9_3]); (try simp only [hl8_4]); (try simp only [hl9_4]); (with_reducible repeat (first | apply r_a | apply r_d | apply r_e)); exact Kd.R_mono HO_8.out (fun _ hk => hk.1)⟩, ⟨by (try simp only [hl8_1]); (try simp only [hl8_2]); (try simp only [hl9_2]); (try simp only [hl8_3]); (try simp only [hl9_3]); (try simp only [hl8_4]); (try simp only [hl9_4]); (with_reducible repeat (first | apply r_a | apply r_d | apply r_e)); exact Kd.R_mono HO_9.out (fun _ hk => hk.1)⟩, ⟨by (try simp only [hl8_1]); (try simp only [hl8_2]); (try simp only [hl9_2]); (try simp only [hl8_3]); (try simp only [hl9_3]); (try simp only [hl8_4]); (try simp only [hl9_4]); (with_reducible repeat (first | apply r_a | apply r_d | apply r_e)); exact HO_12.out⟩, ⟨by (try simp only [hl8_1]); (try simp only [hl8_2]); (try simp only [hl9_2]); (try simp only [hl8_3]); (try simp only [hl9_3]); (try simp only [hl8_4]); (try simp only [hl9_4]); (with_reducible repeat (first | refine g_d ?_ _ | refine g_e ?_ | refine g_a ?_ _)); exact BK1145.out⟩, ⟨bB HB⟩⟩
  rw [if_pos c51] at H
  have c51b0 : decide (x66_4 < (y1163.length : Int)) = true := decide_eq_true c51
  clear c51
  by_cases c52 : 0 ≤ x66_4
  rotate_left
  · rw [if_neg c52] at H
    exact absurd H (by simp)
  rw [if_pos c52] at H
  have c52b0 : decide (0 ≤ x66_4) = true := decide_eq_true c52
  clear c52
  by_cases c53 : x66_4 < (y1163.length : Int)
  rotate_left
  · rw [if_neg c53] at H
    exact absurd H (by simp)
  rw [if_pos c53] at H
  have c53b0 : decide (x66_4 < (y1163.length : Int)) = true := decide_eq_true c53
  clear c53
  by_cases c54 : 0 ≤ x13_2
  rotate_left
  · rw [if_neg c54] at H
    exact absurd H (by simp)
  rw [if_pos c54] at H
  have c54b0 : decide (0 ≤ x13_2) = true := decide_eq_true c54
  clear c54
  by_cases c55 : x13_2 < (x12_4.length : Int)
  rotate_left
  · rw [if_neg c55] at H
    exact absurd H (by simp)
  rw [if_pos c55] at H
  have c55b0 : decide (x13_2 < (x12_4.length : Int)) = true := decide_eq_true c55
  clear c55
  replace H := Option.bind_eq_some_iff.mp H
  obtain ⟨t1168, A560, H⟩ := H
  try dsimp only at H
  have A56 := Aside0.mk A560
  clear A560
  replace H := Option.bind_eq_some_iff.mp H
  obtain ⟨t1169, A570, H⟩ := H
  try dsimp only at H
  have A57 := Aside0.mk A570
  clear A570
  replace H := Option.bind_eq_some_iff.mp H
  obtain ⟨t1170, A580, H⟩ := H
  try dsimp only at H
  have A58 := Aside0.mk A580
  clear A580
  by_cases c59 : t1170 = true
  · subst c59
    rw [if_pos rfl] at H
    have H' := Aside0.mk H
    clear H
    have p1166 : 0 ≤ (x66_4 : Int) := of_decide_eq_true (by first | (with_reducible assumption) | assumption)
    have q1166 : x66_4 < (y1163.length : Int) := of_decide_eq_true (by first | (with_reducible assumption) | assumption)
    obtain ⟨ad1166, e1166, hx1166_0⟩ := Kd.at_int (Kd.R_reads' HO_64.out).2.2 x66_4 p1166 q1166
    cases e1166
    replace p1166 := eq_true p1166
    replace q1166 := eq_true q1166
    try go_wp2
    have n0_ := Aside0.mk (r_e HO_8.out)
    have n1_ := Aside0.mk (r_e HO_9.out)
    have n2_ := Aside0.mk (r_e HO_12.out)
    have n3_ := Aside0.mk (r_e HO_64.out)
    have n4_ := Aside0.mk (g_e BK1145.out)
    have n5_ := Aside0.mk (b_e HB.out)
    clear HO_8
    clear HO_9
    clear HO_12
    clear HO_64
    clear BK1145
    clear HB
    have HO_8 := n0_
    have HO_9 := n1_
    have HO_12 := n2_
    have HO_64 := n3_
    have BK1145 := n4_
    have HB := n5_
    clear n0_ n1_ n2_ n3_ n4_ n5_
    obtain ⟨Ao61, co61, eo61⟩ := Kd.R_slice HO_12.out
    (first | subst eo61 | (injection eo61 with f1_ f2_ f3_; have f4_ := f1_.symm; have f5_ := f3_.symm; clear f1_ f2_ f3_; subst f4_; subst f5_))
    have p1167 : 0 ≤ (x13_2 : Int) := of_decide_eq_true (by first | (with_reducible assumption) | assumption)
    have q1167 : x13_2 < (x12_4.length : Int) := of_decide_eq_true (by first | (with_reducible assumption) | assumption)
    obtain ⟨ad1167, e1167, hx1167_0⟩ := Kd.at_string (Kd.R_reads' HO_12.out).2.2 x13_2 p1167 q1167
    cases e1167
    replace p1167 := eq_true p1167
    replace q1167 := eq_true q1167
    refine start_ (n := 10) (S := fun w' => w'.cell? ⟨gb1145, 0, none⟩ = some (.int .i64 a0_0) ∧ w'.cell? ⟨gb1145, 1, none⟩ = some (.int .i64 a0_1) ∧ w'.cell? (ad1167.add (x13_2).toNat) = some (.string (rdOf ByteArray.empty x12_4 x13_2))) (ds := []) (bs_ 10 0) (by kernel_rfl) rfl rfl ⟨(blk_cell BK1145.out 0).trans rfl, (blk_cell BK1145.out 1).trans rfl, hx1167_0⟩ (fun hHeld => ?_); refine with_tabW spec_deFar.tab21 spec_deFar.bits21 (fun HT_ HW_ => ?_)
    generalize wr.drew = w60 at HO_8 HO_9 HO_12 HO_64 BK1145 HB hx1167_0 hHeld ⊢
    refine pua 1 71 (bs_ 10 2) HT_ ?_
    refine pua 2 72 (bs_ 10 6) HT_ ?_
    refine pua 3 73 (bs_ 10 14) HT_ ?_
    refine pua 5 75 (bs_ 10 46) HT_ ?_
    refine pua 6 76 (bs_ 10 110) HT_ ?_
    refine pua 7 77 (bs_ 10 238) HT_ ?_
    refine tk_ 0 70 (bs_ 10 239) rfl rfl HT_ HW_ (by kernel_rfl) (fun _ _ _ h => h) (by rfl) hHeld (by rintro w' ⟨s0, s1, s2⟩; go_simp; with_reducible rfl) (by simp only [Act.put, s_1, s_2, s_3, i64_w, i32_w]; rfl) ?_
    refine tk_ 4 74 (bs_ 10 255) rfl rfl HT_ HW_ (by kernel_rfl) (fun _ _ _ h => h) (by rfl) hHeld (by rintro w' ⟨s0, s1, s2⟩; go_simp; with_reducible rfl) (by simp only [Act.put, s_1, s_2, s_3, i64_w, i32_w]; rfl) ?_
    refine one_ (i := 8) (N := some 78) (bs_ 10 511) rfl rfl (one_of HT_.out (by kernel_rfl)) (by decide) (fun K hK => ?_)
    refine goes_ Try.func138 (by kernel_rfl) rfl #[.agg #[.int .i64 a0_0, .int .i64 a0_1], .string (rdOf ByteArray.empty x12_4 x13_2), .agg #[.int .i64 x15_3, .int .i64 (rd y1163 x66_4)]] (by rfl) rfl rfl (by (try simp only [m_1, m_2, m_3]); first | done | rfl | (simp only [m_4, m_5]; rfl)) ?_
    with_reducible refine (spec_whMake.calls k4 a0_0 a0_1 (rdOf ByteArray.empty x12_4 x13_2) x15_3 (rd y1163 x66_4) t1168 _ A56.out).mono ?_
    rintro e w62 ⟨rfl, hb⟩
    have HS2_ := (hb.cell (World.block_lt_of_cell? _ _ (hHeld.2.2))).trans (hHeld.2.2)
    refine ⟨_, rfl, ?_⟩
    have n0_ := Aside0.mk (Kd.R_below (by (with_reducible repeat (first | apply r_a | apply r_d | apply r_e)); exact HO_8.out) hb)
    have n1_ := Aside0.mk (Kd.R_below (by (with_reducible repeat (first | apply r_a | apply r_d | apply r_e)); exact HO_9.out) hb)
    have n2_ := Aside0.mk (Kd.R_below (by (with_reducible repeat (first | apply r_a | apply r_d | apply r_e)); exact HO_12.out) hb)
    have n3_ := Aside0.mk (Kd.R_below (by (with_reducible repeat (first | apply r_a | apply r_d | apply r_e)); exact HO_64.out) hb)
    have n4_ := bbx hb BK1145
    have n5_ := bsx hb HB
    clear HO_8
    clear HO_9
    clear HO_12
    clear HO_64
    clear BK1145
    clear HB
    have HO_8 := n0_
    have HO_9 := n1_
    have HO_12 := n2_
    have HO_64 := n3_
    have BK1145 := n4_
    have HB := n5_
    clear n0_ n1_ n2_ n3_ n4_ n5_
    (try clear hb)
    (try clear hb2)
    (try clear hk)
    (try clear hi)
    refine hK.out _ _ ⟨(blk_cell BK1145.out 0).trans rfl, (blk_cell BK1145.out 1).trans rfl, HS2_⟩ (fun hHeld => ?_)
    clear hK K
    refine norm_ (a' := ?_) ?_ ?_
    rotate_left
    · show Act.put _ (some 78) _ = _
      simp only [Act.put, s_1, s_2, s_3, i64_w, i32_w]
      rfl
    refine pua 9 18 (bs_ 10 1023) HT_ ?_
    refine done_ (done_of HT_.out (by kernel_rfl)) ?_
    have hcz63_0 := cz0 BK1145
    have hcz63_1 := cz1 BK1145
    have hfz63_0 := blk_frozen BK1145.out 0
    have hfz63_1 := blk_frozen BK1145.out 1
    try go_wp2_with (first | ((with_reducible refine gate_callee (f := 63) rfl ?_); refine goesL_ (some 81) rfl rfl Try.func63 (by kernel_rfl) rfl #[.agg #[.int .i64 a0_0, .int .i64 a0_1], .string t1168] rfl (by (try simp only [m_1, m_2, m_3]); first | done | rfl | (simp only [m_4, m_5]; rfl)) ?_; (with_reducible refine (spec_whNumber.calls k4 a0_0 a0_1 t1168 t1169 _ A57.out).mono ?_); rintro e w64 ⟨rfl, hb⟩; refine ⟨_, rfl, ?_⟩; have n0_ := Aside0.mk (Kd.R_below (by (with_reducible repeat (first | apply r_a | apply r_d | apply r_e)); exact HO_8.out) hb); have n1_ := Aside0.mk (Kd.R_below (by (with_reducible repeat (first | apply r_a | apply r_d | apply r_e)); exact HO_9.out) hb); have n2_ := Aside0.mk (Kd.R_below (by (with_reducible repeat (first | apply r_a | apply r_d | apply r_e)); exact HO_12.out) hb); have n3_ := Aside0.mk (Kd.R_below (by (with_reducible repeat (first | apply r_a | apply r_d | apply r_e)); exact HO_64.out) hb); replace BK1145 := bbx hb BK1145; replace HB := bsx hb HB; clear HO_8; clear HO_9; clear HO_12; clear HO_64; have HO_8 := n0_; have HO_9 := n1_; have HO_12 := n2_; have HO_64 := n3_; clear n0_ n1_ n2_ n3_; (try clear hb); (try clear hb2); (try clear hk); (try clear hi)) | ((with_reducible refine gate_callee (f := 86) rfl ?_); refine goesL_ (some 84) rfl rfl Try.func86 (by kernel_rfl) rfl #[.slice A1 l1.length c1, .string t1168] rfl (by (try simp only [m_1, m_2, m_3]); first | done | rfl | (simp only [m_4, m_5]; rfl)) ?_; (with_reducible refine (spec_l1HasS.calls k4 _ _ l1 t1168 true _ ?side1 ?side2 A58.out).mono ?_); (case side1 => repeat (first | exact (Kd.C_below HR1.out HB.out) | (with_reducible refine Kd.C_alloc ?_ _) | (with_reducible refine Kd.C_drewN ?_ _) | (with_reducible refine Kd.C_drew ?_))); (case side2 => exact HC1.out); rintro e w' ⟨rfl, ⟨nd, rfl⟩⟩; refine ⟨_, rfl, ?_⟩))
    (try simp only [← hl8_4, ← hl9_4])
    go_roundg k4
    case measure => have := HK1.out; have := HK2.out; have := HK3.out; have := HK4.out; omega
    case rel => exact ⟨(x8_4), (x9_4), (x12_4), (wrap64 (x66_4 + 1)), (by first | rfl | (simp; done) | (simp [*]; done)), H', ⟨by have := HK1.out; have := HK2.out; have := HK3.out; have := HK4.out; omega⟩, ⟨by (try simp only [hl8_1]); (try simp only [hl8_2]); (try simp only [hl9_2]); (try simp only [hl8_3]); (try simp only [hl9_3]); (try simp only [hl8_4]); (try simp only [hl9_4]); (with_reducible repeat (first | apply r_a | apply r_d | apply r_e)); exact HO_8.out⟩, ⟨by (try simp only [hl8_1]); (try simp only [hl8_2]); (try simp only [hl9_2]); (try simp only [hl8_3]); (try simp only [hl9_3]); (try simp only [hl8_4]); (try simp only [hl9_4]); (with_reducible repeat (first | apply r_a | apply r_d | apply r_e)); exact HO_9.out⟩, ⟨by (try simp only [hl8_1]); (try simp only [hl8_2]); (try simp only [hl9_2]); (try simp only [hl8_3]); (try simp only [hl9_3]); (try simp only [hl8_4]); (try simp only [hl9_4]); (with_reducible repeat (first | apply r_a | apply r_d | apply r_e)); exact HO_12.out⟩, ⟨by (try simp only [hl8_1]); (try simp only [hl8_2]); (try simp only [hl9_2]); (try simp only [hl8_3]); (try simp only [hl9_3]); (try simp only [hl8_4]); (try simp only [hl9_4]); (with_reducible repeat (first | apply r_a | apply r_d | apply r_e)); exact HO_64.out⟩, ⟨by (try simp only [hl8_1]); (try simp only [hl8_2]); (try simp only [hl9_2]); (try simp only [hl8_3]); (try simp only [hl9_3]); (try simp only [hl8_4]); (try simp only [hl9_4]); (with_reducible repeat (first | refine g_d ?_ _ | refine g_e ?_ | refine g_a ?_ _)); exact BK1145.out⟩, ⟨bB HB⟩⟩
  replace c59 := Bool.eq_false_iff.mpr c59
  subst c59
  rw [if_neg (show ¬ (false = true) by decide)] at H
  by_cases c65 : 0 ≤ t1169
  rotate_left
  · rw [if_neg c65] at H
    exact absurd H (by simp)
  rw [if_pos c65] at H
  have c65b0 : decide (0 ≤ t1169) = true := decide_eq_true c65
  clear c65
  by_cases c66 : t1169 < (x8_4.length : Int)
  rotate_left
  · rw [if_neg c66] at H
    exact absurd H (by simp)
  rw [if_pos c66] at H
  have c66b0 : decide (t1169 < (x8_4.length : Int)) = true := decide_eq_true c66
  clear c66
  by_cases c67 : (rd x8_4 t1169) < 0
  rotate_left
  · rw [if_neg c67] at H
    have c67b0 : decide ((rd x8_4 t1169) < 0) = false := decide_eq_false c67
    (try simp only [hl8_1] at c67b0)
    (try simp only [hl8_2] at c67b0)
    (try simp only [hl9_2] at c67b0)
    (try simp only [hl8_3] at c67b0)
    (try simp only [hl9_3] at c67b0)
    (try simp only [hl8_4] at c67b0)
    (try simp only [hl9_4] at c67b0)
    clear c67
    by_cases c97 : 0 ≤ t1162
    rotate_left
    · rw [if_neg c97] at H
      exact absurd H (by simp)
    rw [if_pos c97] at H
    have c97b0 : decide (0 ≤ t1162) = true := decide_eq_true c97
    clear c97
    by_cases c98 : t1162 < (x8_4.length : Int)
    rotate_left
    · rw [if_neg c98] at H
      exact absurd H (by simp)
    rw [if_pos c98] at H
    have c98b0 : decide (t1162 < (x8_4.length : Int)) = true := decide_eq_true c98
    clear c98
    by_cases c99 : (rd x8_4 t1169) = (wrap64 ((rd x8_4 t1162) + 1))
    rotate_left
    · rw [if_neg c99] at H
      have c99b0 : ((rd x8_4 t1169) == (wrap64 ((rd x8_4 t1162) + 1))) = false := beq_eq_false_iff_ne.mpr c99
      have c99b1 : ((rd x8_4 t1169) != (wrap64 ((rd x8_4 t1162) + 1))) = true := bne_iff_ne.mpr c99
      have H' := Aside0.mk H
      clear H
      have p1166 : 0 ≤ (x66_4 : Int) := of_decide_eq_true (by first | (with_reducible assumption) | assumption)
      have q1166 : x66_4 < (y1163.length : Int) := of_decide_eq_true (by first | (with_reducible assumption) | assumption)
      obtain ⟨ad1166, e1166, hx1166_0⟩ := Kd.at_int (Kd.R_reads' HO_64.out).2.2 x66_4 p1166 q1166
      cases e1166
      replace p1166 := eq_true p1166
      replace q1166 := eq_true q1166
      try go_wp2
      have n0_ := Aside0.mk (r_e HO_8.out)
      have n1_ := Aside0.mk (r_e HO_9.out)
      have n2_ := Aside0.mk (r_e HO_12.out)
      have n3_ := Aside0.mk (r_e HO_64.out)
      have n4_ := Aside0.mk (g_e BK1145.out)
      have n5_ := Aside0.mk (b_e HB.out)
      clear HO_8
      clear HO_9
      clear HO_12
      clear HO_64
      clear BK1145
      clear HB
      have HO_8 := n0_
      have HO_9 := n1_
      have HO_12 := n2_
      have HO_64 := n3_
      have BK1145 := n4_
      have HB := n5_
      clear n0_ n1_ n2_ n3_ n4_ n5_
      obtain ⟨Ao113, co113, eo113⟩ := Kd.R_slice HO_12.out
      (first | subst eo113 | (injection eo113 with f1_ f2_ f3_; have f4_ := f1_.symm; have f5_ := f3_.symm; clear f1_ f2_ f3_; subst f4_; subst f5_))
      have p1167 : 0 ≤ (x13_2 : Int) := of_decide_eq_true (by first | (with_reducible assumption) | assumption)
      have q1167 : x13_2 < (x12_4.length : Int) := of_decide_eq_true (by first | (with_reducible assumption) | assumption)
      obtain ⟨ad1167, e1167, hx1167_0⟩ := Kd.at_string (Kd.R_reads' HO_12.out).2.2 x13_2 p1167 q1167
      cases e1167
      replace p1167 := eq_true p1167
      replace q1167 := eq_true q1167
      refine start_ (n := 10) (S := fun w' => w'.cell? ⟨gb1145, 0, none⟩ = some (.int .i64 a0_0) ∧ w'.cell? ⟨gb1145, 1, none⟩ = some (.int .i64 a0_1) ∧ w'.cell? (ad1167.add (x13_2).toNat) = some (.string (rdOf ByteArray.empty x12_4 x13_2))) (ds := []) (bs_ 10 0) (by kernel_rfl) rfl rfl ⟨(blk_cell BK1145.out 0).trans rfl, (blk_cell BK1145.out 1).trans rfl, hx1167_0⟩ (fun hHeld => ?_); refine with_tabW spec_deFar.tab21 spec_deFar.bits21 (fun HT_ HW_ => ?_)
      generalize wr.drew = w112 at HO_8 HO_9 HO_12 HO_64 BK1145 HB hx1167_0 hHeld ⊢
      refine pua 1 71 (bs_ 10 2) HT_ ?_
      refine pua 2 72 (bs_ 10 6) HT_ ?_
      refine pua 3 73 (bs_ 10 14) HT_ ?_
      refine pua 5 75 (bs_ 10 46) HT_ ?_
      refine pua 6 76 (bs_ 10 110) HT_ ?_
      refine pua 7 77 (bs_ 10 238) HT_ ?_
      refine tk_ 0 70 (bs_ 10 239) rfl rfl HT_ HW_ (by kernel_rfl) (fun _ _ _ h => h) (by rfl) hHeld (by rintro w' ⟨s0, s1, s2⟩; go_simp; with_reducible rfl) (by simp only [Act.put, s_1, s_2, s_3, i64_w, i32_w]; rfl) ?_
      refine tk_ 4 74 (bs_ 10 255) rfl rfl HT_ HW_ (by kernel_rfl) (fun _ _ _ h => h) (by rfl) hHeld (by rintro w' ⟨s0, s1, s2⟩; go_simp; with_reducible rfl) (by simp only [Act.put, s_1, s_2, s_3, i64_w, i32_w]; rfl) ?_
      refine one_ (i := 8) (N := some 78) (bs_ 10 511) rfl rfl (one_of HT_.out (by kernel_rfl)) (by decide) (fun K hK => ?_)
      refine goes_ Try.func138 (by kernel_rfl) rfl #[.agg #[.int .i64 a0_0, .int .i64 a0_1], .string (rdOf ByteArray.empty x12_4 x13_2), .agg #[.int .i64 x15_3, .int .i64 (rd y1163 x66_4)]] (by rfl) rfl rfl (by (try simp only [m_1, m_2, m_3]); first | done | rfl | (simp only [m_4, m_5]; rfl)) ?_
      with_reducible refine (spec_whMake.calls k4 a0_0 a0_1 (rdOf ByteArray.empty x12_4 x13_2) x15_3 (rd y1163 x66_4) t1168 _ A56.out).mono ?_
      rintro e w114 ⟨rfl, hb⟩
      have HS2_ := (hb.cell (World.block_lt_of_cell? _ _ (hHeld.2.2))).trans (hHeld.2.2)
      refine ⟨_, rfl, ?_⟩
      have n0_ := Aside0.mk (Kd.R_below (by (with_reducible repeat (first | apply r_a | apply r_d | apply r_e)); exact HO_8.out) hb)
      have n1_ := Aside0.mk (Kd.R_below (by (with_reducible repeat (first | apply r_a | apply r_d | apply r_e)); exact HO_9.out) hb)
      have n2_ := Aside0.mk (Kd.R_below (by (with_reducible repeat (first | apply r_a | apply r_d | apply r_e)); exact HO_12.out) hb)
      have n3_ := Aside0.mk (Kd.R_below (by (with_reducible repeat (first | apply r_a | apply r_d | apply r_e)); exact HO_64.out) hb)
      have n4_ := bbx hb BK1145
      have n5_ := bsx hb HB
      clear HO_8
      clear HO_9
      clear HO_12
      clear HO_64
      clear BK1145
      clear HB
      have HO_8 := n0_
      have HO_9 := n1_
      have HO_12 := n2_
      have HO_64 := n3_
      have BK1145 := n4_
      have HB := n5_
      clear n0_ n1_ n2_ n3_ n4_ n5_
      (try clear hb)
      (try clear hb2)
      (try clear hk)
      (try clear hi)
      refine hK.out _ _ ⟨(blk_cell BK1145.out 0).trans rfl, (blk_cell BK1145.out 1).trans rfl, HS2_⟩ (fun hHeld => ?_)
      clear hK K
      refine norm_ (a' := ?_) ?_ ?_
      rotate_left
      · show Act.put _ (some 78) _ = _
        simp only [Act.put, s_1, s_2, s_3, i64_w, i32_w]
        rfl
      refine pua 9 18 (bs_ 10 1023) HT_ ?_
      refine done_ (done_of HT_.out (by kernel_rfl)) ?_
      have hcz115_0 := cz0 BK1145
      have hcz115_1 := cz1 BK1145
      have hfz115_0 := blk_frozen BK1145.out 0
      have hfz115_1 := blk_frozen BK1145.out 1
      try go_wp2_with (first | ((with_reducible refine gate_callee (f := 63) rfl ?_); refine goesL_ (some 81) rfl rfl Try.func63 (by kernel_rfl) rfl #[.agg #[.int .i64 a0_0, .int .i64 a0_1], .string t1168] rfl (by (try simp only [m_1, m_2, m_3]); first | done | rfl | (simp only [m_4, m_5]; rfl)) ?_; (with_reducible refine (spec_whNumber.calls k4 a0_0 a0_1 t1168 t1169 _ A57.out).mono ?_); rintro e w116 ⟨rfl, hb⟩; refine ⟨_, rfl, ?_⟩; have n0_ := Aside0.mk (Kd.R_below (by (with_reducible repeat (first | apply r_a | apply r_d | apply r_e)); exact HO_8.out) hb); have n1_ := Aside0.mk (Kd.R_below (by (with_reducible repeat (first | apply r_a | apply r_d | apply r_e)); exact HO_9.out) hb); have n2_ := Aside0.mk (Kd.R_below (by (with_reducible repeat (first | apply r_a | apply r_d | apply r_e)); exact HO_12.out) hb); have n3_ := Aside0.mk (Kd.R_below (by (with_reducible repeat (first | apply r_a | apply r_d | apply r_e)); exact HO_64.out) hb); replace BK1145 := bbx hb BK1145; replace HB := bsx hb HB; clear HO_8; clear HO_9; clear HO_12; clear HO_64; have HO_8 := n0_; have HO_9 := n1_; have HO_12 := n2_; have HO_64 := n3_; clear n0_ n1_ n2_ n3_; (try clear hb); (try clear hb2); (try clear hk); (try clear hi)) | ((with_reducible refine gate_callee (f := 86) rfl ?_); refine goesL_ (some 84) rfl rfl Try.func86 (by kernel_rfl) rfl #[.slice A1 l1.length c1, .string t1168] rfl (by (try simp only [m_1, m_2, m_3]); first | done | rfl | (simp only [m_4, m_5]; rfl)) ?_; (with_reducible refine (spec_l1HasS.calls k4 _ _ l1 t1168 false _ ?side1 ?side2 A58.out).mono ?_); (case side1 => repeat (first | exact (Kd.C_below HR1.out HB.out) | (with_reducible refine Kd.C_alloc ?_ _) | (with_reducible refine Kd.C_drewN ?_ _) | (with_reducible refine Kd.C_drew ?_))); (case side2 => exact HC1.out); rintro e w' ⟨rfl, ⟨nd, rfl⟩⟩; refine ⟨_, rfl, ?_⟩; have p1171 : 0 ≤ (t1169 : Int) := of_decide_eq_true (by first | (with_reducible assumption) | assumption); have q1171 : t1169 < (x8_4.length : Int) := of_decide_eq_true (by first | (with_reducible assumption) | assumption); obtain ⟨ad1171, e1171, hx1171_0⟩ := Kd.at_int (Kd.R_reads' HO_8.out).2.2 t1169 p1171 q1171; obtain rfl : (⟨go29, 0, none⟩ : Addr) = ad1171 := (by injection e1171); (first | simp only [add_plain] at hx1171_0 | simp only [add_at] at hx1171_0 | simp only [Addr.add, Nat.zero_add] at hx1171_0 | skip); replace p1171 := eq_true p1171; replace q1171 := eq_true q1171))
      (try (rw [drewN_self w116]; generalize hq_ : World.drewN w116 _ = w116; have n0_ : Aside0 (Kd.R Kd.string 9 w116 w.heap.size (fun _ => True) (.slice (some ad1167) x12_4.length co113) x12_4) := ⟨by rw [← hq_]; exact (by (with_reducible repeat (first | apply r_a | apply r_d | apply r_e)); exact HO_12.out)⟩; have n1_ : Aside0 (Kd.R (Kd.int .i64) 3 w116 w.heap.size (fun k_ => some k_ ≠ (.slice (some ⟨go29, 0, none⟩) x8_4.length co19 : Value).ownBlock ∧ some k_ ≠ (.slice (some ⟨go31, 0, none⟩) x9_4.length co31 : Value).ownBlock) (.slice (some ad1166) y1163.length co50) y1163) := ⟨by rw [← hq_]; exact (by (with_reducible repeat (first | apply r_a | apply r_d | apply r_e)); exact HO_64.out)⟩; have n2_ : Aside0 (Kd.R (Kd.int .i64) 3 w116 w.heap.size (fun k_ => some k_ ≠ (.slice (some ⟨go31, 0, none⟩) x9_4.length co31 : Value).ownBlock ∧ some k_ ≠ (.slice (some ad1166) y1163.length co50 : Value).ownBlock) (.slice (some ⟨go29, 0, none⟩) x8_4.length co19) x8_4) := ⟨by rw [← hq_]; exact (by (with_reducible repeat (first | apply r_a | apply r_d | apply r_e)); exact HO_8.out)⟩; have n3_ : Aside0 (Kd.R (Kd.int .i64) 3 w116 w.heap.size (fun k_ => some k_ ≠ (.slice (some ⟨go29, 0, none⟩) x8_4.length co19 : Value).ownBlock ∧ some k_ ≠ (.slice (some ad1166) y1163.length co50 : Value).ownBlock) (.slice (some ⟨go31, 0, none⟩) x9_4.length co31) x9_4) := ⟨by rw [← hq_]; exact (by (with_reducible repeat (first | apply r_a | apply r_d | apply r_e)); exact HO_9.out)⟩; have n4_ : Aside0 (w116.heap[gb1145]? = some (.cells #[.int .i64 a0_0, .int .i64 a0_1] 28 (0, 0))) := ⟨by rw [← hq_]; exact (bK BK1145)⟩; have n5_ : Aside0 (Below w.heap.size w w116) := ⟨by rw [← hq_]; exact (bB HB)⟩; clear HO_12 HO_64 HO_8 HO_9 BK1145 HB hq_; have HO_12 := n0_; have HO_64 := n1_; have HO_8 := n2_; have HO_9 := n3_; have BK1145 := n4_; have HB := n5_; clear n0_ n1_ n2_ n3_ n4_ n5_))
      have n0_ := Aside0.mk (r_e HO_8.out)
      have n1_ := Aside0.mk (r_e HO_9.out)
      have n2_ := Aside0.mk (r_e HO_12.out)
      have n3_ := Aside0.mk (r_e HO_64.out)
      have n4_ := Aside0.mk (g_e BK1145.out)
      have n5_ := Aside0.mk (b_e HB.out)
      clear HO_8
      clear HO_9
      clear HO_12
      clear HO_64
      clear BK1145
      clear HB
      have HO_8 := n0_
      have HO_9 := n1_
      have HO_12 := n2_
      have HO_64 := n3_
      have BK1145 := n4_
      have HB := n5_
      clear n0_ n1_ n2_ n3_ n4_ n5_
      have p1183 : 0 ≤ (t1169 : Int) := of_decide_eq_true (by first | (with_reducible assumption) | assumption)
      have q1183 : t1169 < (x8_4.length : Int) := of_decide_eq_true (by first | (with_reducible assumption) | assumption)
      obtain ⟨ad1183, e1183, hx1183_0⟩ := Kd.at_int (Kd.R_reads' HO_8.out).2.2 t1169 p1183 q1183
      obtain rfl : (⟨go29, 0, none⟩ : Addr) = ad1183 := (by injection e1183)
      (first | simp only [add_plain] at hx1183_0 | simp only [add_at] at hx1183_0 | simp only [Addr.add, Nat.zero_add] at hx1183_0 | skip)
      replace p1183 := eq_true p1183
      replace q1183 := eq_true q1183
      have p1184 : 0 ≤ (t1162 : Int) := of_decide_eq_true (by first | (with_reducible assumption) | assumption)
      have q1184 : t1162 < (x8_4.length : Int) := of_decide_eq_true (by first | (with_reducible assumption) | assumption)
      obtain ⟨ad1184, e1184, hx1184_0⟩ := Kd.at_int (Kd.R_reads' HO_8.out).2.2 t1162 p1184 q1184
      obtain rfl : (⟨go29, 0, none⟩ : Addr) = ad1184 := (by injection e1184)
      (first | simp only [add_plain] at hx1184_0 | simp only [add_at] at hx1184_0 | simp only [Addr.add, Nat.zero_add] at hx1184_0 | skip)
      replace p1184 := eq_true p1184
      replace q1184 := eq_true q1184
      refine start_ (n := 10) (S := fun w' => w'.cell? ⟨go29, (t1169).toNat, none⟩ = some (.int .i64 (rd x8_4 t1169)) ∧ w'.cell? ⟨go29, (t1162).toNat, none⟩ = some (.int .i64 (rd x8_4 t1162))) (ds := []) (bs_ 10 0) (by kernel_rfl) rfl rfl ⟨hx1183_0, hx1184_0⟩ (fun hHeld => ?_); refine with_tabW spec_deFar.tab27 spec_deFar.bits27 (fun HT_ HW_ => ?_)
      generalize w116.drew = w117 at HO_8 HO_9 HO_12 HO_64 BK1145 HB hx1183_0 hx1184_0 hHeld ⊢
      refine pua 0 102 (bs_ 10 1) HT_ ?_
      refine pua 1 103 (bs_ 10 3) HT_ ?_
      refine pua 2 104 (bs_ 10 7) HT_ ?_
      refine pua 4 106 (bs_ 10 23) HT_ ?_
      refine pua 5 107 (bs_ 10 55) HT_ ?_
      refine pua 6 108 (bs_ 10 119) HT_ ?_
      refine tk_ 3 105 (bs_ 10 127) rfl rfl HT_ HW_ (by kernel_rfl) (fun _ _ _ h => h) (by rfl) hHeld (by rintro w' ⟨s0, s1⟩; go_simp; with_reducible rfl) (by simp only [Act.put, s_1, s_2, s_3, i64_w, i32_w]; rfl) ?_
      refine tk_ 7 109 (bs_ 10 255) rfl rfl HT_ HW_ (by kernel_rfl) (fun _ _ _ h => h) (by rfl) hHeld (by rintro w' ⟨s0, s1⟩; go_simp; with_reducible rfl) (by simp only [Act.put, s_1, s_2, s_3, i64_w, i32_w]; rfl) ?_
      refine pua 8 110 (bs_ 10 511) HT_ ?_
      refine pua 9 111 (bs_ 10 1023) HT_ ?_
      refine done_ (done_of HT_.out (by kernel_rfl)) ?_
      try go_wp2
      (try simp only [← hl8_4, ← hl9_4])
      go_roundg k4
      case measure => have := HK1.out; have := HK2.out; have := HK3.out; have := HK4.out; omega
      case rel => exact ⟨(x8_4), (x9_4), (x12_4), (wrap64 (x66_4 + 1)), (by first | rfl | (simp; done) | (simp [*]; done)), H', ⟨by have := HK1.out; have := HK2.out; have := HK3.out; have := HK4.out; omega⟩, ⟨by (try simp only [hl8_1]); (try simp only [hl8_2]); (try simp only [hl9_2]); (try simp only [hl8_3]); (try simp only [hl9_3]); (try simp only [hl8_4]); (try simp only [hl9_4]); (with_reducible repeat (first | apply r_a | apply r_d | apply r_e)); exact HO_8.out⟩, ⟨by (try simp only [hl8_1]); (try simp only [hl8_2]); (try simp only [hl9_2]); (try simp only [hl8_3]); (try simp only [hl9_3]); (try simp only [hl8_4]); (try simp only [hl9_4]); (with_reducible repeat (first | apply r_a | apply r_d | apply r_e)); exact HO_9.out⟩, ⟨by (try simp only [hl8_1]); (try simp only [hl8_2]); (try simp only [hl9_2]); (try simp only [hl8_3]); (try simp only [hl9_3]); (try simp only [hl8_4]); (try simp only [hl9_4]); (with_reducible repeat (first | apply r_a | apply r_d | apply r_e)); exact HO_12.out⟩, ⟨by (try simp only [hl8_1]); (try simp only [hl8_2]); (try simp only [hl9_2]); (try simp only [hl8_3]); (try simp only [hl9_3]); (try simp only [hl8_4]); (try simp only [hl9_4]); (with_reducible repeat (first | apply r_a | apply r_d | apply r_e)); exact HO_64.out⟩, ⟨by (try simp only [hl8_1]); (try simp only [hl8_2]); (try simp only [hl9_2]); (try simp only [hl8_3]); (try simp only [hl9_3]); (try simp only [hl8_4]); (try simp only [hl9_4]); (with_reducible repeat (first | refine g_d ?_ _ | refine g_e ?_ | refine g_a ?_ _)); exact BK1145.out⟩, ⟨bB HB⟩⟩
    rw [if_pos c99] at H
    have c99b0 : ((rd x8_4 t1169) == (wrap64 ((rd x8_4 t1162) + 1))) = true := beq_iff_eq.mpr c99
    have c99b1 : ((rd x8_4 t1169) != (wrap64 ((rd x8_4 t1162) + 1))) = false := bne_eq_false_iff_eq.mpr c99
    clear c99
    by_cases c100 : t1169 < (x9_4.length : Int)
    rotate_left
    · rw [if_neg c100] at H
      exact absurd H (by simp)
    rw [if_pos c100] at H
    have c100b0 : decide (t1169 < (x9_4.length : Int)) = true := decide_eq_true c100
    clear c100
    by_cases c101 : t1162 < (x9_4.length : Int)
    rotate_left
    · rw [if_neg c101] at H
      exact absurd H (by simp)
    rw [if_pos c101] at H
    have c101b0 : decide (t1162 < (x9_4.length : Int)) = true := decide_eq_true c101
    clear c101
    replace H := Option.bind_eq_some_iff.mp H
    obtain ⟨t1187, A1020, H⟩ := H
    try dsimp only at H
    have A102 := Aside0.mk A1020
    clear A1020
    obtain ⟨y1188, hy1188⟩ : ∃ y_ : List Int, y_ = (x9_4.set (t1169 : Int).toNat t1187) := ⟨_, rfl⟩
    replace H : (spec_deFar.l3 k4 l1 x8_4 y1188 x12_4 x13_2 t1162 x15_3 y1163 (y1163.length : Int) (wrap64 (x66_4 + 1)) a0_0 a0_1) = some (r1, r2) := by first | (rw [hy1188]; with_reducible exact H) | (have H2_ := (Option.bind_some _ _).symm.trans H; rw [hy1188]; with_reducible exact H2_) | (have H2_ := (Option.bind_some _ _).symm.trans H; with_reducible exact H2_) | with_reducible exact H | (rw [hy1188]; exact H) | exact H
    have Ny1188 := Aside0.mk hy1188
    clear hy1188
    have H' := Aside0.mk H
    clear H
    have p1166 : 0 ≤ (x66_4 : Int) := of_decide_eq_true (by first | (with_reducible assumption) | assumption)
    have q1166 : x66_4 < (y1163.length : Int) := of_decide_eq_true (by first | (with_reducible assumption) | assumption)
    obtain ⟨ad1166, e1166, hx1166_0⟩ := Kd.at_int (Kd.R_reads' HO_64.out).2.2 x66_4 p1166 q1166
    cases e1166
    replace p1166 := eq_true p1166
    replace q1166 := eq_true q1166
    try go_wp2
    have n0_ := Aside0.mk (r_e HO_8.out)
    have n1_ := Aside0.mk (r_e HO_9.out)
    have n2_ := Aside0.mk (r_e HO_12.out)
    have n3_ := Aside0.mk (r_e HO_64.out)
    have n4_ := Aside0.mk (g_e BK1145.out)
    have n5_ := Aside0.mk (b_e HB.out)
    clear HO_8
    clear HO_9
    clear HO_12
    clear HO_64
    clear BK1145
    clear HB
    have HO_8 := n0_
    have HO_9 := n1_
    have HO_12 := n2_
    have HO_64 := n3_
    have BK1145 := n4_
    have HB := n5_
    clear n0_ n1_ n2_ n3_ n4_ n5_
    obtain ⟨Ao105, co105, eo105⟩ := Kd.R_slice HO_12.out
    (first | subst eo105 | (injection eo105 with f1_ f2_ f3_; have f4_ := f1_.symm; have f5_ := f3_.symm; clear f1_ f2_ f3_; subst f4_; subst f5_))
    have p1167 : 0 ≤ (x13_2 : Int) := of_decide_eq_true (by first | (with_reducible assumption) | assumption)
    have q1167 : x13_2 < (x12_4.length : Int) := of_decide_eq_true (by first | (with_reducible assumption) | assumption)
    obtain ⟨ad1167, e1167, hx1167_0⟩ := Kd.at_string (Kd.R_reads' HO_12.out).2.2 x13_2 p1167 q1167
    cases e1167
    replace p1167 := eq_true p1167
    replace q1167 := eq_true q1167
    refine start_ (n := 10) (S := fun w' => w'.cell? ⟨gb1145, 0, none⟩ = some (.int .i64 a0_0) ∧ w'.cell? ⟨gb1145, 1, none⟩ = some (.int .i64 a0_1) ∧ w'.cell? (ad1167.add (x13_2).toNat) = some (.string (rdOf ByteArray.empty x12_4 x13_2))) (ds := []) (bs_ 10 0) (by kernel_rfl) rfl rfl ⟨(blk_cell BK1145.out 0).trans rfl, (blk_cell BK1145.out 1).trans rfl, hx1167_0⟩ (fun hHeld => ?_); refine with_tabW spec_deFar.tab21 spec_deFar.bits21 (fun HT_ HW_ => ?_)
    generalize wr.drew = w104 at HO_8 HO_9 HO_12 HO_64 BK1145 HB hx1167_0 hHeld ⊢
    refine pua 1 71 (bs_ 10 2) HT_ ?_
    refine pua 2 72 (bs_ 10 6) HT_ ?_
    refine pua 3 73 (bs_ 10 14) HT_ ?_
    refine pua 5 75 (bs_ 10 46) HT_ ?_
    refine pua 6 76 (bs_ 10 110) HT_ ?_
    refine pua 7 77 (bs_ 10 238) HT_ ?_
    refine tk_ 0 70 (bs_ 10 239) rfl rfl HT_ HW_ (by kernel_rfl) (fun _ _ _ h => h) (by rfl) hHeld (by rintro w' ⟨s0, s1, s2⟩; go_simp; with_reducible rfl) (by simp only [Act.put, s_1, s_2, s_3, i64_w, i32_w]; rfl) ?_
    refine tk_ 4 74 (bs_ 10 255) rfl rfl HT_ HW_ (by kernel_rfl) (fun _ _ _ h => h) (by rfl) hHeld (by rintro w' ⟨s0, s1, s2⟩; go_simp; with_reducible rfl) (by simp only [Act.put, s_1, s_2, s_3, i64_w, i32_w]; rfl) ?_
    refine one_ (i := 8) (N := some 78) (bs_ 10 511) rfl rfl (one_of HT_.out (by kernel_rfl)) (by decide) (fun K hK => ?_)
    refine goes_ Try.func138 (by kernel_rfl) rfl #[.agg #[.int .i64 a0_0, .int .i64 a0_1], .string (rdOf ByteArray.empty x12_4 x13_2), .agg #[.int .i64 x15_3, .int .i64 (rd y1163 x66_4)]] (by rfl) rfl rfl (by (try simp only [m_1, m_2, m_3]); first | done | rfl | (simp only [m_4, m_5]; rfl)) ?_
    with_reducible refine (spec_whMake.calls k4 a0_0 a0_1 (rdOf ByteArray.empty x12_4 x13_2) x15_3 (rd y1163 x66_4) t1168 _ A56.out).mono ?_
    rintro e w106 ⟨rfl, hb⟩
    have HS2_ := (hb.cell (World.block_lt_of_cell? _ _ (hHeld.2.2))).trans (hHeld.2.2)
    refine ⟨_, rfl, ?_⟩
    have n0_ := Aside0.mk (Kd.R_below (by (with_reducible repeat (first | apply r_a | apply r_d | apply r_e)); exact HO_8.out) hb)
    have n1_ := Aside0.mk (Kd.R_below (by (with_reducible repeat (first | apply r_a | apply r_d | apply r_e)); exact HO_9.out) hb)
    have n2_ := Aside0.mk (Kd.R_below (by (with_reducible repeat (first | apply r_a | apply r_d | apply r_e)); exact HO_12.out) hb)
    have n3_ := Aside0.mk (Kd.R_below (by (with_reducible repeat (first | apply r_a | apply r_d | apply r_e)); exact HO_64.out) hb)
    have n4_ := bbx hb BK1145
    have n5_ := bsx hb HB
    clear HO_8
    clear HO_9
    clear HO_12
    clear HO_64
    clear BK1145
    clear HB
    have HO_8 := n0_
    have HO_9 := n1_
    have HO_12 := n2_
    have HO_64 := n3_
    have BK1145 := n4_
    have HB := n5_
    clear n0_ n1_ n2_ n3_ n4_ n5_
    (try clear hb)
    (try clear hb2)
    (try clear hk)
    (try clear hi)
    refine hK.out _ _ ⟨(blk_cell BK1145.out 0).trans rfl, (blk_cell BK1145.out 1).trans rfl, HS2_⟩ (fun hHeld => ?_)
    clear hK K
    refine norm_ (a' := ?_) ?_ ?_
    rotate_left
    · show Act.put _ (some 78) _ = _
      simp only [Act.put, s_1, s_2, s_3, i64_w, i32_w]
      rfl
    refine pua 9 18 (bs_ 10 1023) HT_ ?_
    refine done_ (done_of HT_.out (by kernel_rfl)) ?_
    have hcz107_0 := cz0 BK1145
    have hcz107_1 := cz1 BK1145
    have hfz107_0 := blk_frozen BK1145.out 0
    have hfz107_1 := blk_frozen BK1145.out 1
    try go_wp2_with (first | ((with_reducible refine gate_callee (f := 63) rfl ?_); refine goesL_ (some 81) rfl rfl Try.func63 (by kernel_rfl) rfl #[.agg #[.int .i64 a0_0, .int .i64 a0_1], .string t1168] rfl (by (try simp only [m_1, m_2, m_3]); first | done | rfl | (simp only [m_4, m_5]; rfl)) ?_; (with_reducible refine (spec_whNumber.calls k4 a0_0 a0_1 t1168 t1169 _ A57.out).mono ?_); rintro e w108 ⟨rfl, hb⟩; refine ⟨_, rfl, ?_⟩; have n0_ := Aside0.mk (Kd.R_below (by (with_reducible repeat (first | apply r_a | apply r_d | apply r_e)); exact HO_8.out) hb); have n1_ := Aside0.mk (Kd.R_below (by (with_reducible repeat (first | apply r_a | apply r_d | apply r_e)); exact HO_9.out) hb); have n2_ := Aside0.mk (Kd.R_below (by (with_reducible repeat (first | apply r_a | apply r_d | apply r_e)); exact HO_12.out) hb); have n3_ := Aside0.mk (Kd.R_below (by (with_reducible repeat (first | apply r_a | apply r_d | apply r_e)); exact HO_64.out) hb); replace BK1145 := bbx hb BK1145; replace HB := bsx hb HB; clear HO_8; clear HO_9; clear HO_12; clear HO_64; have HO_8 := n0_; have HO_9 := n1_; have HO_12 := n2_; have HO_64 := n3_; clear n0_ n1_ n2_ n3_; (try clear hb); (try clear hb2); (try clear hk); (try clear hi)) | ((with_reducible refine gate_callee (f := 86) rfl ?_); refine goesL_ (some 84) rfl rfl Try.func86 (by kernel_rfl) rfl #[.slice A1 l1.length c1, .string t1168] rfl (by (try simp only [m_1, m_2, m_3]); first | done | rfl | (simp only [m_4, m_5]; rfl)) ?_; (with_reducible refine (spec_l1HasS.calls k4 _ _ l1 t1168 false _ ?side1 ?side2 A58.out).mono ?_); (case side1 => repeat (first | exact (Kd.C_below HR1.out HB.out) | (with_reducible refine Kd.C_alloc ?_ _) | (with_reducible refine Kd.C_drewN ?_ _) | (with_reducible refine Kd.C_drew ?_))); (case side2 => exact HC1.out); rintro e w' ⟨rfl, ⟨nd, rfl⟩⟩; refine ⟨_, rfl, ?_⟩; (try (rw [drewN_self w108]; generalize hq_ : World.drewN w108 _ = w108; have n0_ : Aside0 (Kd.R Kd.string 9 w108 w.heap.size (fun _ => True) (.slice (some ad1167) x12_4.length co105) x12_4) := ⟨by rw [← hq_]; exact (by (with_reducible repeat (first | apply r_a | apply r_d | apply r_e)); exact HO_12.out)⟩; have n1_ : Aside0 (Kd.R (Kd.int .i64) 3 w108 w.heap.size (fun k_ => some k_ ≠ (.slice (some ⟨go29, 0, none⟩) x8_4.length co19 : Value).ownBlock ∧ some k_ ≠ (.slice (some ⟨go31, 0, none⟩) x9_4.length co31 : Value).ownBlock) (.slice (some ad1166) y1163.length co50) y1163) := ⟨by rw [← hq_]; exact (by (with_reducible repeat (first | apply r_a | apply r_d | apply r_e)); exact HO_64.out)⟩; have n2_ : Aside0 (Kd.R (Kd.int .i64) 3 w108 w.heap.size (fun k_ => some k_ ≠ (.slice (some ⟨go31, 0, none⟩) x9_4.length co31 : Value).ownBlock ∧ some k_ ≠ (.slice (some ad1166) y1163.length co50 : Value).ownBlock) (.slice (some ⟨go29, 0, none⟩) x8_4.length co19) x8_4) := ⟨by rw [← hq_]; exact (by (with_reducible repeat (first | apply r_a | apply r_d | apply r_e)); exact HO_8.out)⟩; have n3_ : Aside0 (Kd.R (Kd.int .i64) 3 w108 w.heap.size (fun k_ => some k_ ≠ (.slice (some ⟨go29, 0, none⟩) x8_4.length co19 : Value).ownBlock ∧ some k_ ≠ (.slice (some ad1166) y1163.length co50 : Value).ownBlock) (.slice (some ⟨go31, 0, none⟩) x9_4.length co31) x9_4) := ⟨by rw [← hq_]; exact (by (with_reducible repeat (first | apply r_a | apply r_d | apply r_e)); exact HO_9.out)⟩; have n4_ : Aside0 (w108.heap[gb1145]? = some (.cells #[.int .i64 a0_0, .int .i64 a0_1] 28 (0, 0))) := ⟨by rw [← hq_]; exact (bK BK1145)⟩; have n5_ : Aside0 (Below w.heap.size w w108) := ⟨by rw [← hq_]; exact (bB HB)⟩; clear HO_12 HO_64 HO_8 HO_9 BK1145 HB hq_; have HO_12 := n0_; have HO_64 := n1_; have HO_8 := n2_; have HO_9 := n3_; have BK1145 := n4_; have HB := n5_; clear n0_ n1_ n2_ n3_ n4_ n5_)); have p1171 : 0 ≤ (t1169 : Int) := of_decide_eq_true (by first | (with_reducible assumption) | assumption); have q1171 : t1169 < (x8_4.length : Int) := of_decide_eq_true (by first | (with_reducible assumption) | assumption); obtain ⟨ad1171, e1171, hx1171_0⟩ := Kd.at_int (Kd.R_reads' HO_8.out).2.2 t1169 p1171 q1171; obtain rfl : (⟨go29, 0, none⟩ : Addr) = ad1171 := (by injection e1171); (first | simp only [add_plain] at hx1171_0 | simp only [add_at] at hx1171_0 | simp only [Addr.add, Nat.zero_add] at hx1171_0 | skip); replace p1171 := eq_true p1171; replace q1171 := eq_true q1171))
    have n0_ := Aside0.mk (r_e HO_8.out)
    have n1_ := Aside0.mk (r_e HO_9.out)
    have n2_ := Aside0.mk (r_e HO_12.out)
    have n3_ := Aside0.mk (r_e HO_64.out)
    have n4_ := Aside0.mk (g_e BK1145.out)
    have n5_ := Aside0.mk (b_e HB.out)
    clear HO_8
    clear HO_9
    clear HO_12
    clear HO_64
    clear BK1145
    clear HB
    have HO_8 := n0_
    have HO_9 := n1_
    have HO_12 := n2_
    have HO_64 := n3_
    have BK1145 := n4_
    have HB := n5_
    clear n0_ n1_ n2_ n3_ n4_ n5_
    have p1183 : 0 ≤ (t1169 : Int) := of_decide_eq_true (by first | (with_reducible assumption) | assumption)
    have q1183 : t1169 < (x8_4.length : Int) := of_decide_eq_true (by first | (with_reducible assumption) | assumption)
    obtain ⟨ad1183, e1183, hx1183_0⟩ := Kd.at_int (Kd.R_reads' HO_8.out).2.2 t1169 p1183 q1183
    obtain rfl : (⟨go29, 0, none⟩ : Addr) = ad1183 := (by injection e1183)
    (first | simp only [add_plain] at hx1183_0 | simp only [add_at] at hx1183_0 | simp only [Addr.add, Nat.zero_add] at hx1183_0 | skip)
    replace p1183 := eq_true p1183
    replace q1183 := eq_true q1183
    have p1184 : 0 ≤ (t1162 : Int) := of_decide_eq_true (by first | (with_reducible assumption) | assumption)
    have q1184 : t1162 < (x8_4.length : Int) := of_decide_eq_true (by first | (with_reducible assumption) | assumption)
    obtain ⟨ad1184, e1184, hx1184_0⟩ := Kd.at_int (Kd.R_reads' HO_8.out).2.2 t1162 p1184 q1184
    obtain rfl : (⟨go29, 0, none⟩ : Addr) = ad1184 := (by injection e1184)
    (first | simp only [add_plain] at hx1184_0 | simp only [add_at] at hx1184_0 | simp only [Addr.add, Nat.zero_add] at hx1184_0 | skip)
    replace p1184 := eq_true p1184
    replace q1184 := eq_true q1184
    refine start_ (n := 10) (S := fun w' => w'.cell? ⟨go29, (t1169).toNat, none⟩ = some (.int .i64 (rd x8_4 t1169)) ∧ w'.cell? ⟨go29, (t1162).toNat, none⟩ = some (.int .i64 (rd x8_4 t1162))) (ds := []) (bs_ 10 0) (by kernel_rfl) rfl rfl ⟨hx1183_0, hx1184_0⟩ (fun hHeld => ?_); refine with_tabW spec_deFar.tab27 spec_deFar.bits27 (fun HT_ HW_ => ?_)
    generalize w108.drew = w109 at HO_8 HO_9 HO_12 HO_64 BK1145 HB hx1183_0 hx1184_0 hHeld ⊢
    refine pua 0 102 (bs_ 10 1) HT_ ?_
    refine pua 1 103 (bs_ 10 3) HT_ ?_
    refine pua 2 104 (bs_ 10 7) HT_ ?_
    refine pua 4 106 (bs_ 10 23) HT_ ?_
    refine pua 5 107 (bs_ 10 55) HT_ ?_
    refine pua 6 108 (bs_ 10 119) HT_ ?_
    refine tk_ 3 105 (bs_ 10 127) rfl rfl HT_ HW_ (by kernel_rfl) (fun _ _ _ h => h) (by rfl) hHeld (by rintro w' ⟨s0, s1⟩; go_simp; with_reducible rfl) (by simp only [Act.put, s_1, s_2, s_3, i64_w, i32_w]; rfl) ?_
    refine tk_ 7 109 (bs_ 10 255) rfl rfl HT_ HW_ (by kernel_rfl) (fun _ _ _ h => h) (by rfl) hHeld (by rintro w' ⟨s0, s1⟩; go_simp; with_reducible rfl) (by simp only [Act.put, s_1, s_2, s_3, i64_w, i32_w]; rfl) ?_
    refine pua 8 110 (bs_ 10 511) HT_ ?_
    refine pua 9 111 (bs_ 10 1023) HT_ ?_
    refine done_ (done_of HT_.out (by kernel_rfl)) ?_
    try go_wp2
    have n0_ := Aside0.mk (r_e HO_8.out)
    have n1_ := Aside0.mk (r_e HO_9.out)
    have n2_ := Aside0.mk (r_e HO_12.out)
    have n3_ := Aside0.mk (r_e HO_64.out)
    have n4_ := Aside0.mk (g_e BK1145.out)
    have n5_ := Aside0.mk (b_e HB.out)
    clear HO_8
    clear HO_9
    clear HO_12
    clear HO_64
    clear BK1145
    clear HB
    have HO_8 := n0_
    have HO_9 := n1_
    have HO_12 := n2_
    have HO_64 := n3_
    have BK1145 := n4_
    have HB := n5_
    clear n0_ n1_ n2_ n3_ n4_ n5_
    have p1185 : 0 ≤ (t1169 : Int) := of_decide_eq_true (by first | (with_reducible assumption) | assumption)
    have q1185 : t1169 < (x9_4.length : Int) := of_decide_eq_true (by first | (with_reducible assumption) | assumption)
    obtain ⟨ad1185, e1185, hx1185_0⟩ := Kd.at_int (Kd.R_reads' HO_9.out).2.2 t1169 p1185 q1185
    obtain rfl : (⟨go31, 0, none⟩ : Addr) = ad1185 := (by injection e1185)
    (first | simp only [add_plain] at hx1185_0 | simp only [add_at] at hx1185_0 | simp only [Addr.add, Nat.zero_add] at hx1185_0 | skip)
    replace p1185 := eq_true p1185
    replace q1185 := eq_true q1185
    have p1186 : 0 ≤ (t1162 : Int) := of_decide_eq_true (by first | (with_reducible assumption) | assumption)
    have q1186 : t1162 < (x9_4.length : Int) := of_decide_eq_true (by first | (with_reducible assumption) | assumption)
    obtain ⟨ad1186, e1186, hx1186_0⟩ := Kd.at_int (Kd.R_reads' HO_9.out).2.2 t1162 p1186 q1186
    obtain rfl : (⟨go31, 0, none⟩ : Addr) = ad1186 := (by injection e1186)
    (first | simp only [add_plain] at hx1186_0 | simp only [add_at] at hx1186_0 | simp only [Addr.add, Nat.zero_add] at hx1186_0 | skip)
    replace p1186 := eq_true p1186
    replace q1186 := eq_true q1186
    refine start_ (n := 14) (S := fun w' => w'.cell? ⟨go31, (t1169).toNat, none⟩ = some (.int .i64 (rd x9_4 t1169)) ∧ w'.cell? ⟨go31, (t1162).toNat, none⟩ = some (.int .i64 (rd x9_4 t1162))) (ds := [13]) (bs_ 14 0) (by kernel_rfl) rfl rfl ⟨hx1185_0, hx1186_0⟩ (fun hHeld => ?_); refine with_tabW spec_deFar.tab28 spec_deFar.bits28 (fun HT_ HW_ => ?_)
    generalize w109.drew = w110 at HO_8 HO_9 HO_12 HO_64 BK1145 HB hx1185_0 hx1186_0 hHeld ⊢
    refine pua 0 112 (bs_ 14 1) HT_ ?_
    refine pua 1 113 (bs_ 14 3) HT_ ?_
    refine pua 2 114 (bs_ 14 7) HT_ ?_
    refine pua 3 115 (bs_ 14 15) HT_ ?_
    refine pua 4 116 (bs_ 14 31) HT_ ?_
    refine pua 6 118 (bs_ 14 95) HT_ ?_
    refine pua 7 119 (bs_ 14 223) HT_ ?_
    refine pua 8 120 (bs_ 14 479) HT_ ?_
    refine tk_ 5 117 (bs_ 14 511) rfl rfl HT_ HW_ (by kernel_rfl) (fun _ _ _ h => h) (by rfl) hHeld (by rintro w' ⟨s0, s1⟩; go_simp; with_reducible rfl) (by simp only [Act.put, s_1, s_2, s_3, i64_w, i32_w]; rfl) ?_
    refine tk_ 9 121 (bs_ 14 1023) rfl rfl HT_ HW_ (by kernel_rfl) (fun _ _ _ h => h) (by rfl) hHeld (by rintro w' ⟨s0, s1⟩; go_simp; with_reducible rfl) (by simp only [Act.put, s_1, s_2, s_3, i64_w, i32_w]; rfl) ?_
    refine pua 10 122 (bs_ 14 2047) HT_ ?_
    refine one_ (i := 11) (N := some 123) (bs_ 14 4095) rfl rfl (one_of HT_.out (by kernel_rfl)) (by decide) (fun K hK => ?_)
    refine goes_ Try.func110 (by kernel_rfl) rfl #[.int .i64 (wrap64 ((rd x9_4 t1169) + (rd x9_4 t1162))), .int .i64 1000000000000001] (by rfl) rfl rfl (by (try simp only [m_1, m_2, m_3]); first | done | rfl | (simp only [m_4, m_5]; rfl)) ?_
    with_reducible refine (spec_l1Least.calls (wrap64 ((rd x9_4 t1169) + (rd x9_4 t1162))) 1000000000000001 t1187 _ A102.out).mono ?_
    rintro e w' ⟨rfl, ⟨nd, rfl⟩⟩
    refine ⟨_, rfl, ?_⟩
    have p103 : 0 ≤ (t1169 : Int) := of_decide_eq_true (by first | (with_reducible assumption) | assumption)
    have q103 : (t1169 : Int) < ((x9_4.length : Int) : Int) := of_decide_eq_true (by first | (with_reducible assumption) | assumption)
    obtain ⟨hx103_0, hf103_0⟩ := Kd.R_celln 0 HO_9.out (t1169 : Int) p103 q103
    replace p103 := eq_true p103
    replace q103 := eq_true q103
    have HP111 := Kd.R_putn HO_9.out (t1169 : Int) t1187
    rw [← Ny1188.out] at HP111
    have HQ111 := Aside0.mk HP111
    clear HP111
    refine hK.out _ _ ⟨hHeld.1, hHeld.2⟩ (fun hHeld => ?_)
    clear hK K
    refine norm_ (a' := ?_) ?_ ?_
    rotate_left
    · show Act.put _ (some 123) _ = _
      simp only [Act.put, s_1, s_2, s_3, i64_w, i32_w]
      rfl
    refine pua 12 124 (bs_ 14 8191) HT_ ?_
    refine last_ (i := 13) (N := none) (bs_ 14 16383) rfl rfl (one_of HT_.out (by kernel_rfl)) (by decide) (fun K hK => ?_)
    refine skip_ (w1 := ?_) (by rfl) rfl ?_ ?_
    rotate_left
    · go_simp
      rfl
    refine hK.out _ _ ?_
    clear hK K
    refine done_ (done_of HT_.out (by kernel_rfl)) ?_
    try go_wp2
    (try simp only [← hl8_4, ← hl9_4])
    go_roundg k4
    case measure => have := HK1.out; have := HK2.out; have := HK3.out; have := HK4.out; omega
    case rel => exact ⟨(x8_4), (y1188), (x12_4), (wrap64 (x66_4 + 1)), (by first | rfl | (simp; done) | (simp [*]; done)), H', ⟨by have := HK1.out; have := HK2.out; have := HK3.out; have := HK4.out; omega⟩, ⟨by (try simp only [hl8_1]); (try simp only [hl8_2]); (try simp only [hl9_2]); (try simp only [hl8_3]); (try simp only [hl9_3]); (try simp only [hl8_4]); (try simp only [hl9_4]); (with_reducible repeat (first | apply r_a | apply r_d | apply r_e)); exact Kd.R_mono (Kd.R_far (p := ⟨go31, (t1169 : Int).toNat, none⟩) (Kd.R_mono HO_8.out (fun k_ hk => (⟨hk, fun e_ => hk.1 (by rw [e_]; rfl)⟩ : _ ∧ k_ ≠ go31))) (fun _ hk => hk.2) (.int .i64 t1187)) (fun _ hk => ⟨hk.1.1, hk.1.2⟩)⟩, ⟨by (try simp only [hl8_1]); (try simp only [hl8_2]); (try simp only [hl9_2]); (try simp only [hl8_3]); (try simp only [hl9_3]); (try simp only [hl8_4]); (try simp only [hl9_4]); (with_reducible repeat (first | apply r_a | apply r_d | apply r_e)); exact HQ111.out⟩, ⟨by (try simp only [hl8_1]); (try simp only [hl8_2]); (try simp only [hl9_2]); (try simp only [hl8_3]); (try simp only [hl9_3]); (try simp only [hl8_4]); (try simp only [hl9_4]); (with_reducible repeat (first | apply r_a | apply r_d | apply r_e)); exact Kd.R_mono (Kd.R_far (p := ⟨go31, (t1169 : Int).toNat, none⟩) (Kd.R_mono (Kd.R_apart' HO_12.out (Kd.R_typed HO_9.out) (by decide)) (fun k_ hk => (⟨hk.1, fun e_ => hk.2 (by rw [e_]; rfl)⟩ : _ ∧ k_ ≠ go31))) (fun _ hk => hk.2) (.int .i64 t1187)) (fun _ hk => trivial)⟩, ⟨by (try simp only [hl8_1]); (try simp only [hl8_2]); (try simp only [hl9_2]); (try simp only [hl8_3]); (try simp only [hl9_3]); (try simp only [hl8_4]); (try simp only [hl9_4]); (with_reducible repeat (first | apply r_a | apply r_d | apply r_e)); exact Kd.R_mono (Kd.R_far (p := ⟨go31, (t1169 : Int).toNat, none⟩) (Kd.R_mono HO_64.out (fun k_ hk => (⟨hk, fun e_ => hk.2 (by rw [e_]; rfl)⟩ : _ ∧ k_ ≠ go31))) (fun _ hk => hk.2) (.int .i64 t1187)) (fun _ hk => ⟨hk.1.1, hk.1.2⟩)⟩, ⟨by (try simp only [hl8_1]); (try simp only [hl8_2]); (try simp only [hl9_2]); (try simp only [hl8_3]); (try simp only [hl9_3]); (try simp only [hl8_4]); (try simp only [hl9_4]); (with_reducible repeat (first | refine g_d ?_ _ | refine g_e ?_ | refine g_a ?_ _)); refine blk_far ?_ (by have h_ := Kd.R_ne HO_9.out BK1145.out (by decide); intro e_; exact h_ (by rw [e_]; rfl)) _; (with_reducible repeat (first | refine g_d ?_ _ | refine g_e ?_ | refine g_a ?_ _)); exact BK1145.out⟩, ⟨by repeat (first | (with_reducible first | exact HB.out | apply b_a | apply b_d | apply b_e | refine b_s ?_ GB31.out | refine b_s ?_ GE1145.out) | exact HB.out)⟩⟩
  rw [if_pos c67] at H
  have c67b0 : decide ((rd x8_4 t1169) < 0) = true := decide_eq_true c67
  clear c67
  by_cases c68 : 0 ≤ t1162
  rotate_left
  · rw [if_neg c68] at H
    exact absurd H (by simp)
  rw [if_pos c68] at H
  have c68b0 : decide (0 ≤ t1162) = true := decide_eq_true c68
  clear c68
  by_cases c69 : t1162 < (x8_4.length : Int)
  rotate_left
  · rw [if_neg c69] at H
    exact absurd H (by simp)
  rw [if_pos c69] at H
  have c69b0 : decide (t1162 < (x8_4.length : Int)) = true := decide_eq_true c69
  clear c69
  obtain ⟨y1173, hy1173⟩ : ∃ y_ : List Int, y_ = (x8_4.set (t1169 : Int).toNat (wrap64 ((rd x8_4 t1162) + 1))) := ⟨_, rfl⟩
  replace H : (if x12_4.length < 8796093022208 then ((some (x12_4 ++ [t1168] : List ByteArray)).bind fun y1174 => (if (rd y1173 t1169) = (wrap64 ((rd y1173 t1162) + 1)) then (if t1169 < (x9_4.length : Int) then (if t1162 < (x9_4.length : Int) then ((spec_l1Least.f (wrap64 ((rd x9_4 t1169) + (rd x9_4 t1162))) 1000000000000001).bind fun t1181 => (spec_deFar.l3 k4 l1 y1173 (x9_4.set (t1169 : Int).toNat t1181) y1174 x13_2 t1162 x15_3 y1163 (y1163.length : Int) (wrap64 (x66_4 + 1)) a0_0 a0_1)) else (none)) else (none)) else (spec_deFar.l3 k4 l1 y1173 x9_4 y1174 x13_2 t1162 x15_3 y1163 (y1163.length : Int) (wrap64 (x66_4 + 1)) a0_0 a0_1))) else (none)) = some (r1, r2) := by first | (rw [hy1173]; with_reducible exact H) | (have H2_ := (Option.bind_some _ _).symm.trans H; rw [hy1173]; with_reducible exact H2_) | (have H2_ := (Option.bind_some _ _).symm.trans H; with_reducible exact H2_) | with_reducible exact H | (rw [hy1173]; exact H) | exact H
  have Ny1173 := Aside0.mk hy1173
  clear hy1173
  by_cases c71 : x12_4.length < 8796093022208
  rotate_left
  · rw [if_neg c71] at H
    exact absurd H (by simp)
  rw [if_pos c71] at H
  have LMc71 := Aside0.mk c71
  clear c71
  obtain ⟨y1174, hy1174⟩ : ∃ y_ : List ByteArray, y_ = (x12_4 ++ [t1168]) := ⟨_, rfl⟩
  replace H : (if (rd y1173 t1169) = (wrap64 ((rd y1173 t1162) + 1)) then (if t1169 < (x9_4.length : Int) then (if t1162 < (x9_4.length : Int) then ((spec_l1Least.f (wrap64 ((rd x9_4 t1169) + (rd x9_4 t1162))) 1000000000000001).bind fun t1181 => (spec_deFar.l3 k4 l1 y1173 (x9_4.set (t1169 : Int).toNat t1181) y1174 x13_2 t1162 x15_3 y1163 (y1163.length : Int) (wrap64 (x66_4 + 1)) a0_0 a0_1)) else (none)) else (none)) else (spec_deFar.l3 k4 l1 y1173 x9_4 y1174 x13_2 t1162 x15_3 y1163 (y1163.length : Int) (wrap64 (x66_4 + 1)) a0_0 a0_1)) = some (r1, r2) := by first | (rw [hy1174]; with_reducible exact H) | (have H2_ := (Option.bind_some _ _).symm.trans H; rw [hy1174]; with_reducible exact H2_) | (have H2_ := (Option.bind_some _ _).symm.trans H; with_reducible exact H2_) | with_reducible exact H | (rw [hy1174]; exact H) | exact H
  have Ny1174 := Aside0.mk hy1174
  clear hy1174
  by_cases c72 : (rd y1173 t1169) = (wrap64 ((rd y1173 t1162) + 1))
  rotate_left
  · rw [if_neg c72] at H
    have c72b0 : ((rd y1173 t1169) == (wrap64 ((rd y1173 t1162) + 1))) = false := beq_eq_false_iff_ne.mpr c72
    have c72b1 : ((rd y1173 t1169) != (wrap64 ((rd y1173 t1162) + 1))) = true := bne_iff_ne.mpr c72
    have H' := Aside0.mk H
    clear H
    have p1166 : 0 ≤ (x66_4 : Int) := of_decide_eq_true (by first | (with_reducible assumption) | assumption)
    have q1166 : x66_4 < (y1163.length : Int) := of_decide_eq_true (by first | (with_reducible assumption) | assumption)
    obtain ⟨ad1166, e1166, hx1166_0⟩ := Kd.at_int (Kd.R_reads' HO_64.out).2.2 x66_4 p1166 q1166
    cases e1166
    replace p1166 := eq_true p1166
    replace q1166 := eq_true q1166
    try go_wp2
    have n0_ := Aside0.mk (r_e HO_8.out)
    have n1_ := Aside0.mk (r_e HO_9.out)
    have n2_ := Aside0.mk (r_e HO_12.out)
    have n3_ := Aside0.mk (r_e HO_64.out)
    have n4_ := Aside0.mk (g_e BK1145.out)
    have n5_ := Aside0.mk (b_e HB.out)
    clear HO_8
    clear HO_9
    clear HO_12
    clear HO_64
    clear BK1145
    clear HB
    have HO_8 := n0_
    have HO_9 := n1_
    have HO_12 := n2_
    have HO_64 := n3_
    have BK1145 := n4_
    have HB := n5_
    clear n0_ n1_ n2_ n3_ n4_ n5_
    obtain ⟨Ao89, co89, eo89⟩ := Kd.R_slice HO_12.out
    (first | subst eo89 | (injection eo89 with f1_ f2_ f3_; have f4_ := f1_.symm; have f5_ := f3_.symm; clear f1_ f2_ f3_; subst f4_; subst f5_))
    have p1167 : 0 ≤ (x13_2 : Int) := of_decide_eq_true (by first | (with_reducible assumption) | assumption)
    have q1167 : x13_2 < (x12_4.length : Int) := of_decide_eq_true (by first | (with_reducible assumption) | assumption)
    obtain ⟨ad1167, e1167, hx1167_0⟩ := Kd.at_string (Kd.R_reads' HO_12.out).2.2 x13_2 p1167 q1167
    cases e1167
    replace p1167 := eq_true p1167
    replace q1167 := eq_true q1167
    refine start_ (n := 10) (S := fun w' => w'.cell? ⟨gb1145, 0, none⟩ = some (.int .i64 a0_0) ∧ w'.cell? ⟨gb1145, 1, none⟩ = some (.int .i64 a0_1) ∧ w'.cell? (ad1167.add (x13_2).toNat) = some (.string (rdOf ByteArray.empty x12_4 x13_2))) (ds := []) (bs_ 10 0) (by kernel_rfl) rfl rfl ⟨(blk_cell BK1145.out 0).trans rfl, (blk_cell BK1145.out 1).trans rfl, hx1167_0⟩ (fun hHeld => ?_); refine with_tabW spec_deFar.tab21 spec_deFar.bits21 (fun HT_ HW_ => ?_)
    generalize wr.drew = w88 at HO_8 HO_9 HO_12 HO_64 BK1145 HB hx1167_0 hHeld ⊢
    refine pua 1 71 (bs_ 10 2) HT_ ?_
    refine pua 2 72 (bs_ 10 6) HT_ ?_
    refine pua 3 73 (bs_ 10 14) HT_ ?_
    refine pua 5 75 (bs_ 10 46) HT_ ?_
    refine pua 6 76 (bs_ 10 110) HT_ ?_
    refine pua 7 77 (bs_ 10 238) HT_ ?_
    refine tk_ 0 70 (bs_ 10 239) rfl rfl HT_ HW_ (by kernel_rfl) (fun _ _ _ h => h) (by rfl) hHeld (by rintro w' ⟨s0, s1, s2⟩; go_simp; with_reducible rfl) (by simp only [Act.put, s_1, s_2, s_3, i64_w, i32_w]; rfl) ?_
    refine tk_ 4 74 (bs_ 10 255) rfl rfl HT_ HW_ (by kernel_rfl) (fun _ _ _ h => h) (by rfl) hHeld (by rintro w' ⟨s0, s1, s2⟩; go_simp; with_reducible rfl) (by simp only [Act.put, s_1, s_2, s_3, i64_w, i32_w]; rfl) ?_
    refine one_ (i := 8) (N := some 78) (bs_ 10 511) rfl rfl (one_of HT_.out (by kernel_rfl)) (by decide) (fun K hK => ?_)
    refine goes_ Try.func138 (by kernel_rfl) rfl #[.agg #[.int .i64 a0_0, .int .i64 a0_1], .string (rdOf ByteArray.empty x12_4 x13_2), .agg #[.int .i64 x15_3, .int .i64 (rd y1163 x66_4)]] (by rfl) rfl rfl (by (try simp only [m_1, m_2, m_3]); first | done | rfl | (simp only [m_4, m_5]; rfl)) ?_
    with_reducible refine (spec_whMake.calls k4 a0_0 a0_1 (rdOf ByteArray.empty x12_4 x13_2) x15_3 (rd y1163 x66_4) t1168 _ A56.out).mono ?_
    rintro e w90 ⟨rfl, hb⟩
    have HS2_ := (hb.cell (World.block_lt_of_cell? _ _ (hHeld.2.2))).trans (hHeld.2.2)
    refine ⟨_, rfl, ?_⟩
    have n0_ := Aside0.mk (Kd.R_below (by (with_reducible repeat (first | apply r_a | apply r_d | apply r_e)); exact HO_8.out) hb)
    have n1_ := Aside0.mk (Kd.R_below (by (with_reducible repeat (first | apply r_a | apply r_d | apply r_e)); exact HO_9.out) hb)
    have n2_ := Aside0.mk (Kd.R_below (by (with_reducible repeat (first | apply r_a | apply r_d | apply r_e)); exact HO_12.out) hb)
    have n3_ := Aside0.mk (Kd.R_below (by (with_reducible repeat (first | apply r_a | apply r_d | apply r_e)); exact HO_64.out) hb)
    have n4_ := bbx hb BK1145
    have n5_ := bsx hb HB
    clear HO_8
    clear HO_9
    clear HO_12
    clear HO_64
    clear BK1145
    clear HB
    have HO_8 := n0_
    have HO_9 := n1_
    have HO_12 := n2_
    have HO_64 := n3_
    have BK1145 := n4_
    have HB := n5_
    clear n0_ n1_ n2_ n3_ n4_ n5_
    (try clear hb)
    (try clear hb2)
    (try clear hk)
    (try clear hi)
    refine hK.out _ _ ⟨(blk_cell BK1145.out 0).trans rfl, (blk_cell BK1145.out 1).trans rfl, HS2_⟩ (fun hHeld => ?_)
    clear hK K
    refine norm_ (a' := ?_) ?_ ?_
    rotate_left
    · show Act.put _ (some 78) _ = _
      simp only [Act.put, s_1, s_2, s_3, i64_w, i32_w]
      rfl
    refine pua 9 18 (bs_ 10 1023) HT_ ?_
    refine done_ (done_of HT_.out (by kernel_rfl)) ?_
    have hcz91_0 := cz0 BK1145
    have hcz91_1 := cz1 BK1145
    have hfz91_0 := blk_frozen BK1145.out 0
    have hfz91_1 := blk_frozen BK1145.out 1
    try go_wp2_with (first | ((with_reducible refine gate_callee (f := 63) rfl ?_); refine goesL_ (some 81) rfl rfl Try.func63 (by kernel_rfl) rfl #[.agg #[.int .i64 a0_0, .int .i64 a0_1], .string t1168] rfl (by (try simp only [m_1, m_2, m_3]); first | done | rfl | (simp only [m_4, m_5]; rfl)) ?_; (with_reducible refine (spec_whNumber.calls k4 a0_0 a0_1 t1168 t1169 _ A57.out).mono ?_); rintro e w92 ⟨rfl, hb⟩; refine ⟨_, rfl, ?_⟩; have n0_ := Aside0.mk (Kd.R_below (by (with_reducible repeat (first | apply r_a | apply r_d | apply r_e)); exact HO_8.out) hb); have n1_ := Aside0.mk (Kd.R_below (by (with_reducible repeat (first | apply r_a | apply r_d | apply r_e)); exact HO_9.out) hb); have n2_ := Aside0.mk (Kd.R_below (by (with_reducible repeat (first | apply r_a | apply r_d | apply r_e)); exact HO_12.out) hb); have n3_ := Aside0.mk (Kd.R_below (by (with_reducible repeat (first | apply r_a | apply r_d | apply r_e)); exact HO_64.out) hb); replace BK1145 := bbx hb BK1145; replace HB := bsx hb HB; clear HO_8; clear HO_9; clear HO_12; clear HO_64; have HO_8 := n0_; have HO_9 := n1_; have HO_12 := n2_; have HO_64 := n3_; clear n0_ n1_ n2_ n3_; (try clear hb); (try clear hb2); (try clear hk); (try clear hi)) | ((with_reducible refine gate_callee (f := 86) rfl ?_); refine goesL_ (some 84) rfl rfl Try.func86 (by kernel_rfl) rfl #[.slice A1 l1.length c1, .string t1168] rfl (by (try simp only [m_1, m_2, m_3]); first | done | rfl | (simp only [m_4, m_5]; rfl)) ?_; (with_reducible refine (spec_l1HasS.calls k4 _ _ l1 t1168 false _ ?side1 ?side2 A58.out).mono ?_); (case side1 => repeat (first | exact (Kd.C_below HR1.out HB.out) | (with_reducible refine Kd.C_alloc ?_ _) | (with_reducible refine Kd.C_drewN ?_ _) | (with_reducible refine Kd.C_drew ?_))); (case side2 => exact HC1.out); rintro e w' ⟨rfl, ⟨nd, rfl⟩⟩; refine ⟨_, rfl, ?_⟩; (try (rw [drewN_self w92]; generalize hq_ : World.drewN w92 _ = w92; have n0_ : Aside0 (Kd.R Kd.string 9 w92 w.heap.size (fun _ => True) (.slice (some ad1167) x12_4.length co89) x12_4) := ⟨by rw [← hq_]; exact (by (with_reducible repeat (first | apply r_a | apply r_d | apply r_e)); exact HO_12.out)⟩; have n1_ : Aside0 (Kd.R (Kd.int .i64) 3 w92 w.heap.size (fun k_ => some k_ ≠ (.slice (some ⟨go29, 0, none⟩) x8_4.length co19 : Value).ownBlock ∧ some k_ ≠ (.slice (some ⟨go31, 0, none⟩) x9_4.length co31 : Value).ownBlock) (.slice (some ad1166) y1163.length co50) y1163) := ⟨by rw [← hq_]; exact (by (with_reducible repeat (first | apply r_a | apply r_d | apply r_e)); exact HO_64.out)⟩; have n2_ : Aside0 (Kd.R (Kd.int .i64) 3 w92 w.heap.size (fun k_ => some k_ ≠ (.slice (some ⟨go31, 0, none⟩) x9_4.length co31 : Value).ownBlock ∧ some k_ ≠ (.slice (some ad1166) y1163.length co50 : Value).ownBlock) (.slice (some ⟨go29, 0, none⟩) x8_4.length co19) x8_4) := ⟨by rw [← hq_]; exact (by (with_reducible repeat (first | apply r_a | apply r_d | apply r_e)); exact HO_8.out)⟩; have n3_ : Aside0 (Kd.R (Kd.int .i64) 3 w92 w.heap.size (fun k_ => some k_ ≠ (.slice (some ⟨go29, 0, none⟩) x8_4.length co19 : Value).ownBlock ∧ some k_ ≠ (.slice (some ad1166) y1163.length co50 : Value).ownBlock) (.slice (some ⟨go31, 0, none⟩) x9_4.length co31) x9_4) := ⟨by rw [← hq_]; exact (by (with_reducible repeat (first | apply r_a | apply r_d | apply r_e)); exact HO_9.out)⟩; have n4_ : Aside0 (w92.heap[gb1145]? = some (.cells #[.int .i64 a0_0, .int .i64 a0_1] 28 (0, 0))) := ⟨by rw [← hq_]; exact (bK BK1145)⟩; have n5_ : Aside0 (Below w.heap.size w w92) := ⟨by rw [← hq_]; exact (bB HB)⟩; clear HO_12 HO_64 HO_8 HO_9 BK1145 HB hq_; have HO_12 := n0_; have HO_64 := n1_; have HO_8 := n2_; have HO_9 := n3_; have BK1145 := n4_; have HB := n5_; clear n0_ n1_ n2_ n3_ n4_ n5_)); have p1171 : 0 ≤ (t1169 : Int) := of_decide_eq_true (by first | (with_reducible assumption) | assumption); have q1171 : t1169 < (x8_4.length : Int) := of_decide_eq_true (by first | (with_reducible assumption) | assumption); obtain ⟨ad1171, e1171, hx1171_0⟩ := Kd.at_int (Kd.R_reads' HO_8.out).2.2 t1169 p1171 q1171; obtain rfl : (⟨go29, 0, none⟩ : Addr) = ad1171 := (by injection e1171); (first | simp only [add_plain] at hx1171_0 | simp only [add_at] at hx1171_0 | simp only [Addr.add, Nat.zero_add] at hx1171_0 | skip); replace p1171 := eq_true p1171; replace q1171 := eq_true q1171; have p1172 : 0 ≤ (t1162 : Int) := of_decide_eq_true (by first | (with_reducible assumption) | assumption); have q1172 : t1162 < (x8_4.length : Int) := of_decide_eq_true (by first | (with_reducible assumption) | assumption); obtain ⟨ad1172, e1172, hx1172_0⟩ := Kd.at_int (Kd.R_reads' HO_8.out).2.2 t1162 p1172 q1172; obtain rfl : (⟨go29, 0, none⟩ : Addr) = ad1172 := (by injection e1172); (first | simp only [add_plain] at hx1172_0 | simp only [add_at] at hx1172_0 | simp only [Addr.add, Nat.zero_add] at hx1172_0 | skip); replace p1172 := eq_true p1172; replace q1172 := eq_true q1172; have p70 : 0 ≤ (t1169 : Int) := of_decide_eq_true (by first | (with_reducible assumption) | assumption); have q70 : (t1169 : Int) < ((x8_4.length : Int) : Int) := of_decide_eq_true (by first | (with_reducible assumption) | assumption); obtain ⟨hx70_0, hf70_0⟩ := Kd.R_celln 0 HO_8.out (t1169 : Int) p70 q70; replace p70 := eq_true p70; replace q70 := eq_true q70; obtain ⟨hy93_, hz93_⟩ := Kd.R_celln 0 HO_8.out (t1169 : Int) (of_decide_eq_true (by first | (with_reducible assumption) | assumption)) (of_decide_eq_true (by first | (with_reducible assumption) | assumption)); have HP93 := Kd.R_putg HO_8.out (t1169 : Int) (wrap64 ((rd x8_4 t1162) + 1))) | ((with_reducible refine gate_store (t := 3) (p := 97) rfl ?_); refine store_event (t := 3) (p := 97) (v := ?vo_w94) (w1 := (w92.setCell ⟨go29, (t1169 : Int).toNat, none⟩ (.int .i64 (wrap64 ((rd x8_4 t1162) + 1))))) ?hg ?ho ?hn ?hr ?_; (case ho => rfl); (case hg => rfl); (case hn => rfl); (case hr => first | (go_simp; done) | (go_simp; rfl)); intro w94 hw; have hg : w92.grownBy w94 (some go29) := (by rw [hw]; exact HP93.2); have hp_ : Kd.R (Kd.int .i64) 3 w94 w.heap.size (fun k_ => some k_ ≠ (.slice (some ⟨go31, 0, none⟩) x9_4.length co31 : Value).ownBlock ∧ some k_ ≠ (.slice (some ad1166) y1163.length co50 : Value).ownBlock) (.slice (some ⟨go29, 0, none⟩) x8_4.length co19) y1173 := (by rw [hw, Ny1173.out]; exact HP93.1); clear HP93; have n0_ := Aside0.mk (hp_); have n1_ := Aside0.mk (Kd.R_after (v := (.slice (some ⟨go29, 0, none⟩) x8_4.length co19)) (v1 := (.slice (some ⟨go29, 0, none⟩) x8_4.length co19)) (ok := (fun k_ => some k_ ≠ (.slice (some ad1166) y1163.length co50 : Value).ownBlock)) (by (with_reducible repeat (first | apply r_a | apply r_d | apply r_e)); exact Kd.R_mono HO_9.out (fun _ hk => ⟨hk.2, hk.1⟩)) hg (.inl rfl)); have n2_ := Aside0.mk (Kd.R_over' (v := (.slice (some ⟨go29, 0, none⟩) x8_4.length co19)) (by (with_reducible repeat (first | apply r_a | apply r_d | apply r_e)); exact HO_12.out) (Kd.R_typed HO_8.out) (by decide) hg); have n3_ := Aside0.mk (Kd.R_after (v := (.slice (some ⟨go29, 0, none⟩) x8_4.length co19)) (v1 := (.slice (some ⟨go29, 0, none⟩) x8_4.length co19)) (ok := (fun k_ => some k_ ≠ (.slice (some ⟨go31, 0, none⟩) x9_4.length co31 : Value).ownBlock)) (by (with_reducible repeat (first | apply r_a | apply r_d | apply r_e)); exact Kd.R_mono HO_64.out (fun _ hk => ⟨hk.2, hk.1⟩)) hg (.inl rfl)); have n4_ := Aside0.mk (blk_grown (g := gb1145) (o := .cells #[.int .i64 a0_0, .int .i64 a0_1] 28 (0, 0)) (bK BK1145) hg (Kd.R_ne HO_8.out BK1145.out (by decide))); have n5_ := Aside0.mk ((by rw [hw]; exact b_s (HB.out) GB29.out : Below w.heap.size w w94)); clear HO_8; clear HO_9; clear HO_12; clear HO_64; clear BK1145; clear HB; have HO_8 := n0_; have HO_9 := n1_; have HO_12 := n2_; have HO_64 := n3_; have BK1145 := n4_; have HB := n5_; clear n0_ n1_ n2_ n3_ n4_ n5_; clear hg hw hp_) | ((with_reducible refine gate_builtin (b := .append) (xs := #[.tmp 98, .tmp 100]) rfl ?_); at_builtin; refine Kd.R_append Kd.string (w0 := w) w.heap.size rfl (.tmp 98) (.tmp 100) 24 9 (.string ⟨#[]⟩) 16 rfl Try.underlying24 info9 rfl (by decide) (by omega) (.slice (some ad1167) x12_4.length co89) x12_4 t1168 [.string t1168] (fun _ => True) (fun _ => False) rfl rfl ?aP (fun _ hk => hk.elim) ?aF ?aO ?aB ?aS ?aL ?_; (case aP => exact rfl); (case aB => exact (bB HB)); (case aF => exact (fun _ _ => trivial)); (case aO => exact (by (with_reducible repeat (first | apply r_a | apply r_d | apply r_e)); exact HO_12.out)); (case aS => exact (below_size (bB HB))); (case aL => have := LMc71.out; omega); intro v1175 w95 ho hb hg hat; rw [← Ny1174.out] at ho; have n0_ := Aside0.mk (Kd.R_over' (by (with_reducible repeat (first | apply r_a | apply r_d | apply r_e)); exact HO_8.out) (Kd.R_typed (by (with_reducible repeat (first | apply r_a | apply r_d | apply r_e)); exact HO_12.out)) (by decide) hg); have n1_ := Aside0.mk (Kd.R_over' (by (with_reducible repeat (first | apply r_a | apply r_d | apply r_e)); exact HO_9.out) (Kd.R_typed (by (with_reducible repeat (first | apply r_a | apply r_d | apply r_e)); exact HO_12.out)) (by decide) hg); have n2_ := Aside0.mk (Kd.R_over' (by (with_reducible repeat (first | apply r_a | apply r_d | apply r_e)); exact HO_64.out) (Kd.R_typed (by (with_reducible repeat (first | apply r_a | apply r_d | apply r_e)); exact HO_12.out)) (by decide) hg); have n3_ := Aside0.mk (blk_grown (g := gb1145) (o := .cells #[.int .i64 a0_0, .int .i64 a0_1] 28 (0, 0)) (bK BK1145) hg (Kd.R_ne HO_12.out BK1145.out (by decide))); have n4_ := Aside0.mk (hb); have n5_ := Aside0.mk (ho); clear HO_8; clear HO_9; clear HO_64; clear BK1145; clear HB; clear HO_12; have HO_8 := n0_; have HO_9 := n1_; have HO_64 := n2_; have BK1145 := n3_; have HB := n4_; have HO1176 := n5_; clear n0_ n1_ n2_ n3_ n4_ n5_; clear ho hb hg hat))
    have n0_ := Aside0.mk (r_e HO_8.out)
    have n1_ := Aside0.mk (r_e HO_9.out)
    have n2_ := Aside0.mk (r_e HO_64.out)
    have n3_ := Aside0.mk (r_e HO1176.out)
    have n4_ := Aside0.mk (g_e BK1145.out)
    have n5_ := Aside0.mk (b_e HB.out)
    clear HO_8
    clear HO_9
    clear HO_64
    clear HO1176
    clear BK1145
    clear HB
    have HO_8 := n0_
    have HO_9 := n1_
    have HO_64 := n2_
    have HO1176 := n3_
    have BK1145 := n4_
    have HB := n5_
    clear n0_ n1_ n2_ n3_ n4_ n5_
    have p1177 : 0 ≤ (t1169 : Int) := of_decide_eq_true (by first | (with_reducible assumption) | assumption)
    have q1177 : t1169 < (y1173.length : Int) := (by have h_ : (t1169 : Int) < ((x8_4.length : Int) : Int) := of_decide_eq_true (by first | (with_reducible assumption) | assumption); first | (have e_ := (Kd.R_reads' HO_8.out).1; omega) | simpa only [Ny1173.out, List.length_set] using h_)
    have ql1177 : ((t1169 : Int) < ((x8_4.length : Int) : Int)) = True := eq_true (of_decide_eq_true (by first | (with_reducible assumption) | assumption))
    obtain ⟨ad1177, e1177, hx1177_0⟩ := Kd.at_int (Kd.R_reads' HO_8.out).2.2 t1169 p1177 q1177
    obtain rfl : (⟨go29, 0, none⟩ : Addr) = ad1177 := (by injection e1177)
    (first | simp only [add_plain] at hx1177_0 | simp only [add_at] at hx1177_0 | simp only [Addr.add, Nat.zero_add] at hx1177_0 | skip)
    replace p1177 := eq_true p1177
    replace q1177 := eq_true q1177
    have p1178 : 0 ≤ (t1162 : Int) := of_decide_eq_true (by first | (with_reducible assumption) | assumption)
    have q1178 : t1162 < (y1173.length : Int) := (by have h_ : (t1162 : Int) < ((x8_4.length : Int) : Int) := of_decide_eq_true (by first | (with_reducible assumption) | assumption); first | (have e_ := (Kd.R_reads' HO_8.out).1; omega) | simpa only [Ny1173.out, List.length_set] using h_)
    have ql1178 : ((t1162 : Int) < ((x8_4.length : Int) : Int)) = True := eq_true (of_decide_eq_true (by first | (with_reducible assumption) | assumption))
    obtain ⟨ad1178, e1178, hx1178_0⟩ := Kd.at_int (Kd.R_reads' HO_8.out).2.2 t1162 p1178 q1178
    obtain rfl : (⟨go29, 0, none⟩ : Addr) = ad1178 := (by injection e1178)
    (first | simp only [add_plain] at hx1178_0 | simp only [add_at] at hx1178_0 | simp only [Addr.add, Nat.zero_add] at hx1178_0 | skip)
    replace p1178 := eq_true p1178
    replace q1178 := eq_true q1178
    refine start_ (n := 10) (S := fun w' => w'.cell? ⟨go29, (t1169).toNat, none⟩ = some (.int .i64 (rd y1173 t1169)) ∧ w'.cell? ⟨go29, (t1162).toNat, none⟩ = some (.int .i64 (rd y1173 t1162))) (ds := []) (bs_ 10 0) (by kernel_rfl) rfl rfl ⟨hx1177_0, hx1178_0⟩ (fun hHeld => ?_); refine with_tabW spec_deFar.tab27 spec_deFar.bits27 (fun HT_ HW_ => ?_)
    generalize w95.drew = w96 at HO_8 HO_9 HO_64 HO1176 BK1145 HB hx1177_0 hx1178_0 hHeld ⊢
    refine pua 0 102 (bs_ 10 1) HT_ ?_
    refine pua 1 103 (bs_ 10 3) HT_ ?_
    refine pua 2 104 (bs_ 10 7) HT_ ?_
    refine pua 4 106 (bs_ 10 23) HT_ ?_
    refine pua 5 107 (bs_ 10 55) HT_ ?_
    refine pua 6 108 (bs_ 10 119) HT_ ?_
    refine tk_ 3 105 (bs_ 10 127) rfl rfl HT_ HW_ (by kernel_rfl) (fun _ _ _ h => h) (by rfl) hHeld (by rintro w' ⟨s0, s1⟩; go_simp; with_reducible rfl) (by simp only [Act.put, s_1, s_2, s_3, i64_w, i32_w]; rfl) ?_
    refine tk_ 7 109 (bs_ 10 255) rfl rfl HT_ HW_ (by kernel_rfl) (fun _ _ _ h => h) (by rfl) hHeld (by rintro w' ⟨s0, s1⟩; go_simp; with_reducible rfl) (by simp only [Act.put, s_1, s_2, s_3, i64_w, i32_w]; rfl) ?_
    refine pua 8 110 (bs_ 10 511) HT_ ?_
    refine pua 9 111 (bs_ 10 1023) HT_ ?_
    refine done_ (done_of HT_.out (by kernel_rfl)) ?_
    try go_wp2
    (try simp only [← hl8_4, ← hl9_4])
    go_roundg k4
    case measure => have := HK1.out; have := HK2.out; have := HK3.out; have := HK4.out; omega
    case rel => exact ⟨(y1173), (x9_4), (y1174), (wrap64 (x66_4 + 1)), (by first | rfl | (simp; done) | (simp [*]; done)), H', ⟨by have := HK1.out; have := HK2.out; have := HK3.out; have := HK4.out; omega⟩, ⟨by (try simp only [hl8_1]); (try simp only [hl8_2]); (try simp only [hl9_2]); (try simp only [hl8_3]); (try simp only [hl9_3]); (try simp only [hl8_4]); (try simp only [hl9_4]); (with_reducible repeat (first | apply r_a | apply r_d | apply r_e)); exact HO_8.out⟩, ⟨by (try simp only [hl8_1]); (try simp only [hl8_2]); (try simp only [hl9_2]); (try simp only [hl8_3]); (try simp only [hl9_3]); (try simp only [hl8_4]); (try simp only [hl9_4]); (with_reducible repeat (first | apply r_a | apply r_d | apply r_e)); exact Kd.R_mono HO_9.out (fun _ hk => ⟨hk.2, hk.1⟩)⟩, ⟨by (try simp only [hl8_1]); (try simp only [hl8_2]); (try simp only [hl9_2]); (try simp only [hl8_3]); (try simp only [hl9_3]); (try simp only [hl8_4]); (try simp only [hl9_4]); (with_reducible repeat (first | apply r_a | apply r_d | apply r_e)); exact HO1176.out⟩, ⟨by (try simp only [hl8_1]); (try simp only [hl8_2]); (try simp only [hl9_2]); (try simp only [hl8_3]); (try simp only [hl9_3]); (try simp only [hl8_4]); (try simp only [hl9_4]); (with_reducible repeat (first | apply r_a | apply r_d | apply r_e)); exact Kd.R_mono HO_64.out (fun _ hk => ⟨hk.2, hk.1⟩)⟩, ⟨by (try simp only [hl8_1]); (try simp only [hl8_2]); (try simp only [hl9_2]); (try simp only [hl8_3]); (try simp only [hl9_3]); (try simp only [hl8_4]); (try simp only [hl9_4]); (with_reducible repeat (first | refine g_d ?_ _ | refine g_e ?_ | refine g_a ?_ _)); exact BK1145.out⟩, ⟨bB HB⟩⟩
  rw [if_pos c72] at H
  have c72b0 : ((rd y1173 t1169) == (wrap64 ((rd y1173 t1162) + 1))) = true := beq_iff_eq.mpr c72
  have c72b1 : ((rd y1173 t1169) != (wrap64 ((rd y1173 t1162) + 1))) = false := bne_eq_false_iff_eq.mpr c72
  clear c72
  by_cases c73 : t1169 < (x9_4.length : Int)
  rotate_left
  · rw [if_neg c73] at H
    exact absurd H (by simp)
  rw [if_pos c73] at H
  have c73b0 : decide (t1169 < (x9_4.length : Int)) = true := decide_eq_true c73
  clear c73
  by_cases c74 : t1162 < (x9_4.length : Int)
  rotate_left
  · rw [if_neg c74] at H
    exact absurd H (by simp)
  rw [if_pos c74] at H
  have c74b0 : decide (t1162 < (x9_4.length : Int)) = true := decide_eq_true c74
  clear c74
  replace H := Option.bind_eq_some_iff.mp H
  obtain ⟨t1181, A750, H⟩ := H
  try dsimp only at H
  have A75 := Aside0.mk A750
  clear A750
  obtain ⟨y1182, hy1182⟩ : ∃ y_ : List Int, y_ = (x9_4.set (t1169 : Int).toNat t1181) := ⟨_, rfl⟩
  replace H : (spec_deFar.l3 k4 l1 y1173 y1182 y1174 x13_2 t1162 x15_3 y1163 (y1163.length : Int) (wrap64 (x66_4 + 1)) a0_0 a0_1) = some (r1, r2) := by first | (rw [hy1182]; with_reducible exact H) | (have H2_ := (Option.bind_some _ _).symm.trans H; rw [hy1182]; with_reducible exact H2_) | (have H2_ := (Option.bind_some _ _).symm.trans H; with_reducible exact H2_) | with_reducible exact H | (rw [hy1182]; exact H) | exact H
  have Ny1182 := Aside0.mk hy1182
  clear hy1182
  have H' := Aside0.mk H
  clear H
  have p1166 : 0 ≤ (x66_4 : Int) := of_decide_eq_true (by first | (with_reducible assumption) | assumption)
  have q1166 : x66_4 < (y1163.length : Int) := of_decide_eq_true (by first | (with_reducible assumption) | assumption)
  obtain ⟨ad1166, e1166, hx1166_0⟩ := Kd.at_int (Kd.R_reads' HO_64.out).2.2 x66_4 p1166 q1166
  cases e1166
  replace p1166 := eq_true p1166
  replace q1166 := eq_true q1166
  try go_wp2
  have n0_ := Aside0.mk (r_e HO_8.out)
  have n1_ := Aside0.mk (r_e HO_9.out)
  have n2_ := Aside0.mk (r_e HO_12.out)
  have n3_ := Aside0.mk (r_e HO_64.out)
  have n4_ := Aside0.mk (g_e BK1145.out)
  have n5_ := Aside0.mk (b_e HB.out)
  clear HO_8
  clear HO_9
  clear HO_12
  clear HO_64
  clear BK1145
  clear HB
  have HO_8 := n0_
  have HO_9 := n1_
  have HO_12 := n2_
  have HO_64 := n3_
  have BK1145 := n4_
  have HB := n5_
  clear n0_ n1_ n2_ n3_ n4_ n5_
  obtain ⟨Ao78, co78, eo78⟩ := Kd.R_slice HO_12.out
  (first | subst eo78 | (injection eo78 with f1_ f2_ f3_; have f4_ := f1_.symm; have f5_ := f3_.symm; clear f1_ f2_ f3_; subst f4_; subst f5_))
  have p1167 : 0 ≤ (x13_2 : Int) := of_decide_eq_true (by first | (with_reducible assumption) | assumption)
  have q1167 : x13_2 < (x12_4.length : Int) := of_decide_eq_true (by first | (with_reducible assumption) | assumption)
  obtain ⟨ad1167, e1167, hx1167_0⟩ := Kd.at_string (Kd.R_reads' HO_12.out).2.2 x13_2 p1167 q1167
  cases e1167
  replace p1167 := eq_true p1167
  replace q1167 := eq_true q1167
  refine start_ (n := 10) (S := fun w' => w'.cell? ⟨gb1145, 0, none⟩ = some (.int .i64 a0_0) ∧ w'.cell? ⟨gb1145, 1, none⟩ = some (.int .i64 a0_1) ∧ w'.cell? (ad1167.add (x13_2).toNat) = some (.string (rdOf ByteArray.empty x12_4 x13_2))) (ds := []) (bs_ 10 0) (by kernel_rfl) rfl rfl ⟨(blk_cell BK1145.out 0).trans rfl, (blk_cell BK1145.out 1).trans rfl, hx1167_0⟩ (fun hHeld => ?_); refine with_tabW spec_deFar.tab21 spec_deFar.bits21 (fun HT_ HW_ => ?_)
  generalize wr.drew = w77 at HO_8 HO_9 HO_12 HO_64 BK1145 HB hx1167_0 hHeld ⊢
  refine pua 1 71 (bs_ 10 2) HT_ ?_
  refine pua 2 72 (bs_ 10 6) HT_ ?_
  refine pua 3 73 (bs_ 10 14) HT_ ?_
  refine pua 5 75 (bs_ 10 46) HT_ ?_
  refine pua 6 76 (bs_ 10 110) HT_ ?_
  refine pua 7 77 (bs_ 10 238) HT_ ?_
  refine tk_ 0 70 (bs_ 10 239) rfl rfl HT_ HW_ (by kernel_rfl) (fun _ _ _ h => h) (by rfl) hHeld (by rintro w' ⟨s0, s1, s2⟩; go_simp; with_reducible rfl) (by simp only [Act.put, s_1, s_2, s_3, i64_w, i32_w]; rfl) ?_
  refine tk_ 4 74 (bs_ 10 255) rfl rfl HT_ HW_ (by kernel_rfl) (fun _ _ _ h => h) (by rfl) hHeld (by rintro w' ⟨s0, s1, s2⟩; go_simp; with_reducible rfl) (by simp only [Act.put, s_1, s_2, s_3, i64_w, i32_w]; rfl) ?_
  refine one_ (i := 8) (N := some 78) (bs_ 10 511) rfl rfl (one_of HT_.out (by kernel_rfl)) (by decide) (fun K hK => ?_)
  refine goes_ Try.func138 (by kernel_rfl) rfl #[.agg #[.int .i64 a0_0, .int .i64 a0_1], .string (rdOf ByteArray.empty x12_4 x13_2), .agg #[.int .i64 x15_3, .int .i64 (rd y1163 x66_4)]] (by rfl) rfl rfl (by (try simp only [m_1, m_2, m_3]); first | done | rfl | (simp only [m_4, m_5]; rfl)) ?_
  with_reducible refine (spec_whMake.calls k4 a0_0 a0_1 (rdOf ByteArray.empty x12_4 x13_2) x15_3 (rd y1163 x66_4) t1168 _ A56.out).mono ?_
  rintro e w79 ⟨rfl, hb⟩
  have HS2_ := (hb.cell (World.block_lt_of_cell? _ _ (hHeld.2.2))).trans (hHeld.2.2)
  refine ⟨_, rfl, ?_⟩
  have n0_ := Aside0.mk (Kd.R_below (by (with_reducible repeat (first | apply r_a | apply r_d | apply r_e)); exact HO_8.out) hb)
  have n1_ := Aside0.mk (Kd.R_below (by (with_reducible repeat (first | apply r_a | apply r_d | apply r_e)); exact HO_9.out) hb)
  have n2_ := Aside0.mk (Kd.R_below (by (with_reducible repeat (first | apply r_a | apply r_d | apply r_e)); exact HO_12.out) hb)
  have n3_ := Aside0.mk (Kd.R_below (by (with_reducible repeat (first | apply r_a | apply r_d | apply r_e)); exact HO_64.out) hb)
  have n4_ := bbx hb BK1145
  have n5_ := bsx hb HB
  clear HO_8
  clear HO_9
  clear HO_12
  clear HO_64
  clear BK1145
  clear HB
  have HO_8 := n0_
  have HO_9 := n1_
  have HO_12 := n2_
  have HO_64 := n3_
  have BK1145 := n4_
  have HB := n5_
  clear n0_ n1_ n2_ n3_ n4_ n5_
  (try clear hb)
  (try clear hb2)
  (try clear hk)
  (try clear hi)
  refine hK.out _ _ ⟨(blk_cell BK1145.out 0).trans rfl, (blk_cell BK1145.out 1).trans rfl, HS2_⟩ (fun hHeld => ?_)
  clear hK K
  refine norm_ (a' := ?_) ?_ ?_
  rotate_left
  · show Act.put _ (some 78) _ = _
    simp only [Act.put, s_1, s_2, s_3, i64_w, i32_w]
    rfl
  refine pua 9 18 (bs_ 10 1023) HT_ ?_
  refine done_ (done_of HT_.out (by kernel_rfl)) ?_
  have hcz80_0 := cz0 BK1145
  have hcz80_1 := cz1 BK1145
  have hfz80_0 := blk_frozen BK1145.out 0
  have hfz80_1 := blk_frozen BK1145.out 1
  try go_wp2_with (first | ((with_reducible refine gate_callee (f := 63) rfl ?_); refine goesL_ (some 81) rfl rfl Try.func63 (by kernel_rfl) rfl #[.agg #[.int .i64 a0_0, .int .i64 a0_1], .string t1168] rfl (by (try simp only [m_1, m_2, m_3]); first | done | rfl | (simp only [m_4, m_5]; rfl)) ?_; (with_reducible refine (spec_whNumber.calls k4 a0_0 a0_1 t1168 t1169 _ A57.out).mono ?_); rintro e w81 ⟨rfl, hb⟩; refine ⟨_, rfl, ?_⟩; have n0_ := Aside0.mk (Kd.R_below (by (with_reducible repeat (first | apply r_a | apply r_d | apply r_e)); exact HO_8.out) hb); have n1_ := Aside0.mk (Kd.R_below (by (with_reducible repeat (first | apply r_a | apply r_d | apply r_e)); exact HO_9.out) hb); have n2_ := Aside0.mk (Kd.R_below (by (with_reducible repeat (first | apply r_a | apply r_d | apply r_e)); exact HO_12.out) hb); have n3_ := Aside0.mk (Kd.R_below (by (with_reducible repeat (first | apply r_a | apply r_d | apply r_e)); exact HO_64.out) hb); replace BK1145 := bbx hb BK1145; replace HB := bsx hb HB; clear HO_8; clear HO_9; clear HO_12; clear HO_64; have HO_8 := n0_; have HO_9 := n1_; have HO_12 := n2_; have HO_64 := n3_; clear n0_ n1_ n2_ n3_; (try clear hb); (try clear hb2); (try clear hk); (try clear hi)) | ((with_reducible refine gate_callee (f := 86) rfl ?_); refine goesL_ (some 84) rfl rfl Try.func86 (by kernel_rfl) rfl #[.slice A1 l1.length c1, .string t1168] rfl (by (try simp only [m_1, m_2, m_3]); first | done | rfl | (simp only [m_4, m_5]; rfl)) ?_; (with_reducible refine (spec_l1HasS.calls k4 _ _ l1 t1168 false _ ?side1 ?side2 A58.out).mono ?_); (case side1 => repeat (first | exact (Kd.C_below HR1.out HB.out) | (with_reducible refine Kd.C_alloc ?_ _) | (with_reducible refine Kd.C_drewN ?_ _) | (with_reducible refine Kd.C_drew ?_))); (case side2 => exact HC1.out); rintro e w' ⟨rfl, ⟨nd, rfl⟩⟩; refine ⟨_, rfl, ?_⟩; (try (rw [drewN_self w81]; generalize hq_ : World.drewN w81 _ = w81; have n0_ : Aside0 (Kd.R Kd.string 9 w81 w.heap.size (fun _ => True) (.slice (some ad1167) x12_4.length co78) x12_4) := ⟨by rw [← hq_]; exact (by (with_reducible repeat (first | apply r_a | apply r_d | apply r_e)); exact HO_12.out)⟩; have n1_ : Aside0 (Kd.R (Kd.int .i64) 3 w81 w.heap.size (fun k_ => some k_ ≠ (.slice (some ⟨go29, 0, none⟩) x8_4.length co19 : Value).ownBlock ∧ some k_ ≠ (.slice (some ⟨go31, 0, none⟩) x9_4.length co31 : Value).ownBlock) (.slice (some ad1166) y1163.length co50) y1163) := ⟨by rw [← hq_]; exact (by (with_reducible repeat (first | apply r_a | apply r_d | apply r_e)); exact HO_64.out)⟩; have n2_ : Aside0 (Kd.R (Kd.int .i64) 3 w81 w.heap.size (fun k_ => some k_ ≠ (.slice (some ⟨go31, 0, none⟩) x9_4.length co31 : Value).ownBlock ∧ some k_ ≠ (.slice (some ad1166) y1163.length co50 : Value).ownBlock) (.slice (some ⟨go29, 0, none⟩) x8_4.length co19) x8_4) := ⟨by rw [← hq_]; exact (by (with_reducible repeat (first | apply r_a | apply r_d | apply r_e)); exact HO_8.out)⟩; have n3_ : Aside0 (Kd.R (Kd.int .i64) 3 w81 w.heap.size (fun k_ => some k_ ≠ (.slice (some ⟨go29, 0, none⟩) x8_4.length co19 : Value).ownBlock ∧ some k_ ≠ (.slice (some ad1166) y1163.length co50 : Value).ownBlock) (.slice (some ⟨go31, 0, none⟩) x9_4.length co31) x9_4) := ⟨by rw [← hq_]; exact (by (with_reducible repeat (first | apply r_a | apply r_d | apply r_e)); exact HO_9.out)⟩; have n4_ : Aside0 (w81.heap[gb1145]? = some (.cells #[.int .i64 a0_0, .int .i64 a0_1] 28 (0, 0))) := ⟨by rw [← hq_]; exact (bK BK1145)⟩; have n5_ : Aside0 (Below w.heap.size w w81) := ⟨by rw [← hq_]; exact (bB HB)⟩; clear HO_12 HO_64 HO_8 HO_9 BK1145 HB hq_; have HO_12 := n0_; have HO_64 := n1_; have HO_8 := n2_; have HO_9 := n3_; have BK1145 := n4_; have HB := n5_; clear n0_ n1_ n2_ n3_ n4_ n5_)); have p1171 : 0 ≤ (t1169 : Int) := of_decide_eq_true (by first | (with_reducible assumption) | assumption); have q1171 : t1169 < (x8_4.length : Int) := of_decide_eq_true (by first | (with_reducible assumption) | assumption); obtain ⟨ad1171, e1171, hx1171_0⟩ := Kd.at_int (Kd.R_reads' HO_8.out).2.2 t1169 p1171 q1171; obtain rfl : (⟨go29, 0, none⟩ : Addr) = ad1171 := (by injection e1171); (first | simp only [add_plain] at hx1171_0 | simp only [add_at] at hx1171_0 | simp only [Addr.add, Nat.zero_add] at hx1171_0 | skip); replace p1171 := eq_true p1171; replace q1171 := eq_true q1171; have p1172 : 0 ≤ (t1162 : Int) := of_decide_eq_true (by first | (with_reducible assumption) | assumption); have q1172 : t1162 < (x8_4.length : Int) := of_decide_eq_true (by first | (with_reducible assumption) | assumption); obtain ⟨ad1172, e1172, hx1172_0⟩ := Kd.at_int (Kd.R_reads' HO_8.out).2.2 t1162 p1172 q1172; obtain rfl : (⟨go29, 0, none⟩ : Addr) = ad1172 := (by injection e1172); (first | simp only [add_plain] at hx1172_0 | simp only [add_at] at hx1172_0 | simp only [Addr.add, Nat.zero_add] at hx1172_0 | skip); replace p1172 := eq_true p1172; replace q1172 := eq_true q1172; have p70 : 0 ≤ (t1169 : Int) := of_decide_eq_true (by first | (with_reducible assumption) | assumption); have q70 : (t1169 : Int) < ((x8_4.length : Int) : Int) := of_decide_eq_true (by first | (with_reducible assumption) | assumption); obtain ⟨hx70_0, hf70_0⟩ := Kd.R_celln 0 HO_8.out (t1169 : Int) p70 q70; replace p70 := eq_true p70; replace q70 := eq_true q70; obtain ⟨hy82_, hz82_⟩ := Kd.R_celln 0 HO_8.out (t1169 : Int) (of_decide_eq_true (by first | (with_reducible assumption) | assumption)) (of_decide_eq_true (by first | (with_reducible assumption) | assumption)); have HP82 := Kd.R_putg HO_8.out (t1169 : Int) (wrap64 ((rd x8_4 t1162) + 1))) | ((with_reducible refine gate_store (t := 3) (p := 97) rfl ?_); refine store_event (t := 3) (p := 97) (v := ?vo_w83) (w1 := (w81.setCell ⟨go29, (t1169 : Int).toNat, none⟩ (.int .i64 (wrap64 ((rd x8_4 t1162) + 1))))) ?hg ?ho ?hn ?hr ?_; (case ho => rfl); (case hg => rfl); (case hn => rfl); (case hr => first | (go_simp; done) | (go_simp; rfl)); intro w83 hw; have hg : w81.grownBy w83 (some go29) := (by rw [hw]; exact HP82.2); have hp_ : Kd.R (Kd.int .i64) 3 w83 w.heap.size (fun k_ => some k_ ≠ (.slice (some ⟨go31, 0, none⟩) x9_4.length co31 : Value).ownBlock ∧ some k_ ≠ (.slice (some ad1166) y1163.length co50 : Value).ownBlock) (.slice (some ⟨go29, 0, none⟩) x8_4.length co19) y1173 := (by rw [hw, Ny1173.out]; exact HP82.1); clear HP82; have n0_ := Aside0.mk (hp_); have n1_ := Aside0.mk (Kd.R_after (v := (.slice (some ⟨go29, 0, none⟩) x8_4.length co19)) (v1 := (.slice (some ⟨go29, 0, none⟩) x8_4.length co19)) (ok := (fun k_ => some k_ ≠ (.slice (some ad1166) y1163.length co50 : Value).ownBlock)) (by (with_reducible repeat (first | apply r_a | apply r_d | apply r_e)); exact Kd.R_mono HO_9.out (fun _ hk => ⟨hk.2, hk.1⟩)) hg (.inl rfl)); have n2_ := Aside0.mk (Kd.R_over' (v := (.slice (some ⟨go29, 0, none⟩) x8_4.length co19)) (by (with_reducible repeat (first | apply r_a | apply r_d | apply r_e)); exact HO_12.out) (Kd.R_typed HO_8.out) (by decide) hg); have n3_ := Aside0.mk (Kd.R_after (v := (.slice (some ⟨go29, 0, none⟩) x8_4.length co19)) (v1 := (.slice (some ⟨go29, 0, none⟩) x8_4.length co19)) (ok := (fun k_ => some k_ ≠ (.slice (some ⟨go31, 0, none⟩) x9_4.length co31 : Value).ownBlock)) (by (with_reducible repeat (first | apply r_a | apply r_d | apply r_e)); exact Kd.R_mono HO_64.out (fun _ hk => ⟨hk.2, hk.1⟩)) hg (.inl rfl)); have n4_ := Aside0.mk (blk_grown (g := gb1145) (o := .cells #[.int .i64 a0_0, .int .i64 a0_1] 28 (0, 0)) (bK BK1145) hg (Kd.R_ne HO_8.out BK1145.out (by decide))); have n5_ := Aside0.mk ((by rw [hw]; exact b_s (HB.out) GB29.out : Below w.heap.size w w83)); clear HO_8; clear HO_9; clear HO_12; clear HO_64; clear BK1145; clear HB; have HO_8 := n0_; have HO_9 := n1_; have HO_12 := n2_; have HO_64 := n3_; have BK1145 := n4_; have HB := n5_; clear n0_ n1_ n2_ n3_ n4_ n5_; clear hg hw hp_) | ((with_reducible refine gate_builtin (b := .append) (xs := #[.tmp 98, .tmp 100]) rfl ?_); at_builtin; refine Kd.R_append Kd.string (w0 := w) w.heap.size rfl (.tmp 98) (.tmp 100) 24 9 (.string ⟨#[]⟩) 16 rfl Try.underlying24 info9 rfl (by decide) (by omega) (.slice (some ad1167) x12_4.length co78) x12_4 t1168 [.string t1168] (fun _ => True) (fun _ => False) rfl rfl ?aP (fun _ hk => hk.elim) ?aF ?aO ?aB ?aS ?aL ?_; (case aP => exact rfl); (case aB => exact (bB HB)); (case aF => exact (fun _ _ => trivial)); (case aO => exact (by (with_reducible repeat (first | apply r_a | apply r_d | apply r_e)); exact HO_12.out)); (case aS => exact (below_size (bB HB))); (case aL => have := LMc71.out; omega); intro v1175 w84 ho hb hg hat; rw [← Ny1174.out] at ho; have n0_ := Aside0.mk (Kd.R_over' (by (with_reducible repeat (first | apply r_a | apply r_d | apply r_e)); exact HO_8.out) (Kd.R_typed (by (with_reducible repeat (first | apply r_a | apply r_d | apply r_e)); exact HO_12.out)) (by decide) hg); have n1_ := Aside0.mk (Kd.R_over' (by (with_reducible repeat (first | apply r_a | apply r_d | apply r_e)); exact HO_9.out) (Kd.R_typed (by (with_reducible repeat (first | apply r_a | apply r_d | apply r_e)); exact HO_12.out)) (by decide) hg); have n2_ := Aside0.mk (Kd.R_over' (by (with_reducible repeat (first | apply r_a | apply r_d | apply r_e)); exact HO_64.out) (Kd.R_typed (by (with_reducible repeat (first | apply r_a | apply r_d | apply r_e)); exact HO_12.out)) (by decide) hg); have n3_ := Aside0.mk (blk_grown (g := gb1145) (o := .cells #[.int .i64 a0_0, .int .i64 a0_1] 28 (0, 0)) (bK BK1145) hg (Kd.R_ne HO_12.out BK1145.out (by decide))); have n4_ := Aside0.mk (hb); have n5_ := Aside0.mk (ho); clear HO_8; clear HO_9; clear HO_64; clear BK1145; clear HB; clear HO_12; have HO_8 := n0_; have HO_9 := n1_; have HO_64 := n2_; have BK1145 := n3_; have HB := n4_; have HO1176 := n5_; clear n0_ n1_ n2_ n3_ n4_ n5_; clear ho hb hg hat))
  have n0_ := Aside0.mk (r_e HO_8.out)
  have n1_ := Aside0.mk (r_e HO_9.out)
  have n2_ := Aside0.mk (r_e HO_64.out)
  have n3_ := Aside0.mk (r_e HO1176.out)
  have n4_ := Aside0.mk (g_e BK1145.out)
  have n5_ := Aside0.mk (b_e HB.out)
  clear HO_8
  clear HO_9
  clear HO_64
  clear HO1176
  clear BK1145
  clear HB
  have HO_8 := n0_
  have HO_9 := n1_
  have HO_64 := n2_
  have HO1176 := n3_
  have BK1145 := n4_
  have HB := n5_
  clear n0_ n1_ n2_ n3_ n4_ n5_
  have p1177 : 0 ≤ (t1169 : Int) := of_decide_eq_true (by first | (with_reducible assumption) | assumption)
  have q1177 : t1169 < (y1173.length : Int) := (by have h_ : (t1169 : Int) < ((x8_4.length : Int) : Int) := of_decide_eq_true (by first | (with_reducible assumption) | assumption); first | (have e_ := (Kd.R_reads' HO_8.out).1; omega) | simpa only [Ny1173.out, List.length_set] using h_)
  have ql1177 : ((t1169 : Int) < ((x8_4.length : Int) : Int)) = True := eq_true (of_decide_eq_true (by first | (with_reducible assumption) | assumption))
  obtain ⟨ad1177, e1177, hx1177_0⟩ := Kd.at_int (Kd.R_reads' HO_8.out).2.2 t1169 p1177 q1177
  obtain rfl : (⟨go29, 0, none⟩ : Addr) = ad1177 := (by injection e1177)
  (first | simp only [add_plain] at hx1177_0 | simp only [add_at] at hx1177_0 | simp only [Addr.add, Nat.zero_add] at hx1177_0 | skip)
  replace p1177 := eq_true p1177
  replace q1177 := eq_true q1177
  have p1178 : 0 ≤ (t1162 : Int) := of_decide_eq_true (by first | (with_reducible assumption) | assumption)
  have q1178 : t1162 < (y1173.length : Int) := (by have h_ : (t1162 : Int) < ((x8_4.length : Int) : Int) := of_decide_eq_true (by first | (with_reducible assumption) | assumption); first | (have e_ := (Kd.R_reads' HO_8.out).1; omega) | simpa only [Ny1173.out, List.length_set] using h_)
  have ql1178 : ((t1162 : Int) < ((x8_4.length : Int) : Int)) = True := eq_true (of_decide_eq_true (by first | (with_reducible assumption) | assumption))
  obtain ⟨ad1178, e1178, hx1178_0⟩ := Kd.at_int (Kd.R_reads' HO_8.out).2.2 t1162 p1178 q1178
  obtain rfl : (⟨go29, 0, none⟩ : Addr) = ad1178 := (by injection e1178)
  (first | simp only [add_plain] at hx1178_0 | simp only [add_at] at hx1178_0 | simp only [Addr.add, Nat.zero_add] at hx1178_0 | skip)
  replace p1178 := eq_true p1178
  replace q1178 := eq_true q1178
  refine start_ (n := 10) (S := fun w' => w'.cell? ⟨go29, (t1169).toNat, none⟩ = some (.int .i64 (rd y1173 t1169)) ∧ w'.cell? ⟨go29, (t1162).toNat, none⟩ = some (.int .i64 (rd y1173 t1162))) (ds := []) (bs_ 10 0) (by kernel_rfl) rfl rfl ⟨hx1177_0, hx1178_0⟩ (fun hHeld => ?_); refine with_tabW spec_deFar.tab27 spec_deFar.bits27 (fun HT_ HW_ => ?_)
  generalize w84.drew = w85 at HO_8 HO_9 HO_64 HO1176 BK1145 HB hx1177_0 hx1178_0 hHeld ⊢
  refine pua 0 102 (bs_ 10 1) HT_ ?_
  refine pua 1 103 (bs_ 10 3) HT_ ?_
  refine pua 2 104 (bs_ 10 7) HT_ ?_
  refine pua 4 106 (bs_ 10 23) HT_ ?_
  refine pua 5 107 (bs_ 10 55) HT_ ?_
  refine pua 6 108 (bs_ 10 119) HT_ ?_
  refine tk_ 3 105 (bs_ 10 127) rfl rfl HT_ HW_ (by kernel_rfl) (fun _ _ _ h => h) (by rfl) hHeld (by rintro w' ⟨s0, s1⟩; go_simp; with_reducible rfl) (by simp only [Act.put, s_1, s_2, s_3, i64_w, i32_w]; rfl) ?_
  refine tk_ 7 109 (bs_ 10 255) rfl rfl HT_ HW_ (by kernel_rfl) (fun _ _ _ h => h) (by rfl) hHeld (by rintro w' ⟨s0, s1⟩; go_simp; with_reducible rfl) (by simp only [Act.put, s_1, s_2, s_3, i64_w, i32_w]; rfl) ?_
  refine pua 8 110 (bs_ 10 511) HT_ ?_
  refine pua 9 111 (bs_ 10 1023) HT_ ?_
  refine done_ (done_of HT_.out (by kernel_rfl)) ?_
  try go_wp2
  have n0_ := Aside0.mk (r_e HO_8.out)
  have n1_ := Aside0.mk (r_e HO_9.out)
  have n2_ := Aside0.mk (r_e HO_64.out)
  have n3_ := Aside0.mk (r_e HO1176.out)
  have n4_ := Aside0.mk (g_e BK1145.out)
  have n5_ := Aside0.mk (b_e HB.out)
  clear HO_8
  clear HO_9
  clear HO_64
  clear HO1176
  clear BK1145
  clear HB
  have HO_8 := n0_
  have HO_9 := n1_
  have HO_64 := n2_
  have HO1176 := n3_
  have BK1145 := n4_
  have HB := n5_
  clear n0_ n1_ n2_ n3_ n4_ n5_
  have p1179 : 0 ≤ (t1169 : Int) := of_decide_eq_true (by first | (with_reducible assumption) | assumption)
  have q1179 : t1169 < (x9_4.length : Int) := of_decide_eq_true (by first | (with_reducible assumption) | assumption)
  obtain ⟨ad1179, e1179, hx1179_0⟩ := Kd.at_int (Kd.R_reads' HO_9.out).2.2 t1169 p1179 q1179
  obtain rfl : (⟨go31, 0, none⟩ : Addr) = ad1179 := (by injection e1179)
  (first | simp only [add_plain] at hx1179_0 | simp only [add_at] at hx1179_0 | simp only [Addr.add, Nat.zero_add] at hx1179_0 | skip)
  replace p1179 := eq_true p1179
  replace q1179 := eq_true q1179
  have p1180 : 0 ≤ (t1162 : Int) := of_decide_eq_true (by first | (with_reducible assumption) | assumption)
  have q1180 : t1162 < (x9_4.length : Int) := of_decide_eq_true (by first | (with_reducible assumption) | assumption)
  obtain ⟨ad1180, e1180, hx1180_0⟩ := Kd.at_int (Kd.R_reads' HO_9.out).2.2 t1162 p1180 q1180
  obtain rfl : (⟨go31, 0, none⟩ : Addr) = ad1180 := (by injection e1180)
  (first | simp only [add_plain] at hx1180_0 | simp only [add_at] at hx1180_0 | simp only [Addr.add, Nat.zero_add] at hx1180_0 | skip)
  replace p1180 := eq_true p1180
  replace q1180 := eq_true q1180
  refine start_ (n := 14) (S := fun w' => w'.cell? ⟨go31, (t1169).toNat, none⟩ = some (.int .i64 (rd x9_4 t1169)) ∧ w'.cell? ⟨go31, (t1162).toNat, none⟩ = some (.int .i64 (rd x9_4 t1162))) (ds := [13]) (bs_ 14 0) (by kernel_rfl) rfl rfl ⟨hx1179_0, hx1180_0⟩ (fun hHeld => ?_); refine with_tabW spec_deFar.tab28 spec_deFar.bits28 (fun HT_ HW_ => ?_)
  generalize w85.drew = w86 at HO_8 HO_9 HO_64 HO1176 BK1145 HB hx1179_0 hx1180_0 hHeld ⊢
  refine pua 0 112 (bs_ 14 1) HT_ ?_
  refine pua 1 113 (bs_ 14 3) HT_ ?_
  refine pua 2 114 (bs_ 14 7) HT_ ?_
  refine pua 3 115 (bs_ 14 15) HT_ ?_
  refine pua 4 116 (bs_ 14 31) HT_ ?_
  refine pua 6 118 (bs_ 14 95) HT_ ?_
  refine pua 7 119 (bs_ 14 223) HT_ ?_
  refine pua 8 120 (bs_ 14 479) HT_ ?_
  refine tk_ 5 117 (bs_ 14 511) rfl rfl HT_ HW_ (by kernel_rfl) (fun _ _ _ h => h) (by rfl) hHeld (by rintro w' ⟨s0, s1⟩; go_simp; with_reducible rfl) (by simp only [Act.put, s_1, s_2, s_3, i64_w, i32_w]; rfl) ?_
  refine tk_ 9 121 (bs_ 14 1023) rfl rfl HT_ HW_ (by kernel_rfl) (fun _ _ _ h => h) (by rfl) hHeld (by rintro w' ⟨s0, s1⟩; go_simp; with_reducible rfl) (by simp only [Act.put, s_1, s_2, s_3, i64_w, i32_w]; rfl) ?_
  refine pua 10 122 (bs_ 14 2047) HT_ ?_
  refine one_ (i := 11) (N := some 123) (bs_ 14 4095) rfl rfl (one_of HT_.out (by kernel_rfl)) (by decide) (fun K hK => ?_)
  refine goes_ Try.func110 (by kernel_rfl) rfl #[.int .i64 (wrap64 ((rd x9_4 t1169) + (rd x9_4 t1162))), .int .i64 1000000000000001] (by rfl) rfl rfl (by (try simp only [m_1, m_2, m_3]); first | done | rfl | (simp only [m_4, m_5]; rfl)) ?_
  with_reducible refine (spec_l1Least.calls (wrap64 ((rd x9_4 t1169) + (rd x9_4 t1162))) 1000000000000001 t1181 _ A75.out).mono ?_
  rintro e w' ⟨rfl, ⟨nd, rfl⟩⟩
  refine ⟨_, rfl, ?_⟩
  have p76 : 0 ≤ (t1169 : Int) := of_decide_eq_true (by first | (with_reducible assumption) | assumption)
  have q76 : (t1169 : Int) < ((x9_4.length : Int) : Int) := of_decide_eq_true (by first | (with_reducible assumption) | assumption)
  obtain ⟨hx76_0, hf76_0⟩ := Kd.R_celln 0 HO_9.out (t1169 : Int) p76 q76
  replace p76 := eq_true p76
  replace q76 := eq_true q76
  have HP87 := Kd.R_putn HO_9.out (t1169 : Int) t1181
  rw [← Ny1182.out] at HP87
  have HQ87 := Aside0.mk HP87
  clear HP87
  refine hK.out _ _ ⟨hHeld.1, hHeld.2⟩ (fun hHeld => ?_)
  clear hK K
  refine norm_ (a' := ?_) ?_ ?_
  rotate_left
  · show Act.put _ (some 123) _ = _
    simp only [Act.put, s_1, s_2, s_3, i64_w, i32_w]
    rfl
  refine pua 12 124 (bs_ 14 8191) HT_ ?_
  refine last_ (i := 13) (N := none) (bs_ 14 16383) rfl rfl (one_of HT_.out (by kernel_rfl)) (by decide) (fun K hK => ?_)
  refine skip_ (w1 := ?_) (by rfl) rfl ?_ ?_
  rotate_left
  · go_simp
    rfl
  refine hK.out _ _ ?_
  clear hK K
  refine done_ (done_of HT_.out (by kernel_rfl)) ?_
  try go_wp2
  (try simp only [← hl8_4, ← hl9_4])
  go_roundg k4
  case measure => have := HK1.out; have := HK2.out; have := HK3.out; have := HK4.out; omega
  case rel => exact ⟨(y1173), (y1182), (y1174), (wrap64 (x66_4 + 1)), (by first | rfl | (simp; done) | (simp [*]; done)), H', ⟨by have := HK1.out; have := HK2.out; have := HK3.out; have := HK4.out; omega⟩, ⟨by (try simp only [hl8_1]); (try simp only [hl8_2]); (try simp only [hl9_2]); (try simp only [hl8_3]); (try simp only [hl9_3]); (try simp only [hl8_4]); (try simp only [hl9_4]); (with_reducible repeat (first | apply r_a | apply r_d | apply r_e)); exact Kd.R_mono (Kd.R_far (p := ⟨go31, (t1169 : Int).toNat, none⟩) (Kd.R_mono HO_8.out (fun k_ hk => (⟨hk, fun e_ => hk.1 (by rw [e_]; rfl)⟩ : _ ∧ k_ ≠ go31))) (fun _ hk => hk.2) (.int .i64 t1181)) (fun _ hk => ⟨hk.1.1, hk.1.2⟩)⟩, ⟨by (try simp only [hl8_1]); (try simp only [hl8_2]); (try simp only [hl9_2]); (try simp only [hl8_3]); (try simp only [hl9_3]); (try simp only [hl8_4]); (try simp only [hl9_4]); (with_reducible repeat (first | apply r_a | apply r_d | apply r_e)); exact Kd.R_mono HQ87.out (fun _ hk => ⟨hk.2, hk.1⟩)⟩, ⟨by (try simp only [hl8_1]); (try simp only [hl8_2]); (try simp only [hl9_2]); (try simp only [hl8_3]); (try simp only [hl9_3]); (try simp only [hl8_4]); (try simp only [hl9_4]); (with_reducible repeat (first | apply r_a | apply r_d | apply r_e)); exact Kd.R_mono (Kd.R_far (p := ⟨go31, (t1169 : Int).toNat, none⟩) (Kd.R_mono (Kd.R_apart' HO1176.out (Kd.R_typed HO_9.out) (by decide)) (fun k_ hk => (⟨hk.1, fun e_ => hk.2 (by rw [e_]; rfl)⟩ : _ ∧ k_ ≠ go31))) (fun _ hk => hk.2) (.int .i64 t1181)) (fun _ hk => trivial)⟩, ⟨by (try simp only [hl8_1]); (try simp only [hl8_2]); (try simp only [hl9_2]); (try simp only [hl8_3]); (try simp only [hl9_3]); (try simp only [hl8_4]); (try simp only [hl9_4]); (with_reducible repeat (first | apply r_a | apply r_d | apply r_e)); exact Kd.R_mono (Kd.R_far (p := ⟨go31, (t1169 : Int).toNat, none⟩) (Kd.R_mono HO_64.out (fun k_ hk => (⟨hk, fun e_ => hk.1 (by rw [e_]; rfl)⟩ : _ ∧ k_ ≠ go31))) (fun _ hk => hk.2) (.int .i64 t1181)) (fun _ hk => ⟨hk.1.2, hk.1.1⟩)⟩, ⟨by (try simp only [hl8_1]); (try simp only [hl8_2]); (try simp only [hl9_2]); (try simp only [hl8_3]); (try simp only [hl9_3]); (try simp only [hl8_4]); (try simp only [hl9_4]); (with_reducible repeat (first | refine g_d ?_ _ | refine g_e ?_ | refine g_a ?_ _)); refine blk_far ?_ (by have h_ := Kd.R_ne HO_9.out BK1145.out (by decide); intro e_; exact h_ (by rw [e_]; rfl)) _; (with_reducible repeat (first | refine g_d ?_ _ | refine g_e ?_ | refine g_a ?_ _)); exact BK1145.out⟩, ⟨by repeat (first | (with_reducible first | exact HB.out | apply b_a | apply b_d | apply b_e | refine b_s ?_ GB31.out | refine b_s ?_ GE1145.out) | exact HB.out)⟩⟩
end Go.Proofs.Ytihhiolflbieaaa.P
