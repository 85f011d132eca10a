-- Texts of this session's own program (wip/dr.py), which runs the kit's printer.
import Derived.Test.YtijbngmlaggclaaPx0
import Derived.Test.YtijbngmlaggclaaPx1
import Derived.Test.YtijbngmlaggclaaPx18
import Derived.Test.YtijbngmlaggclaaPx34
import Derived.Test.YtijbngmlaggclaaPx42
import Derived.Test.YtijbngmlaggclaaPx50
import Derived.Test.YtijbngmlaggclaaPx59
import Derived.Test.YtijbngmlaggclaaPx85
namespace Go.Proofs.Ytijbngmlaggclaa.P
open Go.RowKit Go.Proofs.YtijbngmlaggclaaW.PrintWords Go.Proofs.YtijbngmlaggclaaW.PrintLast Go.Proofs.YtijbngmlaggclaaW.PrintMore
attribute [local go_sem] max2_int min2_int max_two min_two max_three min_three max_four min_four   -- for this text's walks alone
set_option linter.unusedVariables false
set_option linter.unusedSimpArgs false

attribute [local go_sem high] eqA32
/-! ### laws_FnOrdersTurnOfAll: function 4 -/
mutual
def laws_FnOrdersTurnOfAll.j0 : Nat → Int → ByteArray → Int → Int → ByteArray → Bool → ByteArray → Bool → Bool → Int → Int → Int → Int → Int → Int → Int → Int → Int → Int → Int → Int → Option (Bool)
  | 0, _, _, _, _, _, _, _, _, _, _, _, _, _, _, _, _, _, _, _, _, _ => none
  | k + 1, x1, x3, x5, x6, x17, x18, x21, x30, x187, x459000, x459001, x460000, x460001, x461000, x461001, x462000, x462001, x474000, x474001, x482000, x482001 => if x187 = true then (some false) else (if x18 = true then ((impl_CountCodes.f k x459000 x459001).bind fun bt486 => ((impl_RoundRank.f k x459000 x459001 x17).bind fun bt488 => ((impl_ForthRank.f k x459000 x459001 x21).bind fun bt490 => ((impl_TurnWheel.f k x459000 x459001 x17 x474000 x474001).bind fun bt492 => (if bt486.1 = 0 then (none) else ((impl_RoundCode.f k x459000 x459001 (Int.tmod (wrap64 (x1 + 1)) bt486.1)).bind fun bt494 => (if bt486.2 = true then (if bt488.2 = true then (if bt488.1 = x1 then (if bt490.2 = true then (if bt490.1 = x1 then (if bt492.2 = true then (if bt494.2 = true then (if bt492.1.toList = bt494.1.toList then (if x474001 = 1 then (laws_FnOrdersTurnOfAll.j1 k x1 x3 x5 x6 x21 x30 (x30 != (decide (x1 < (wrap64 (bt486.1 - 1))))) x459000 x459001 x460000 x460001 x461000 x461001 x462000 x462001 x482000 x482001) else (laws_FnOrdersTurnOfAll.j1 k x1 x3 x5 x6 x21 x30 true x459000 x459001 x460000 x460001 x461000 x461001 x462000 x462001 x482000 x482001)) else (laws_FnOrdersTurnOfAll.j1 k x1 x3 x5 x6 x21 x30 true x459000 x459001 x460000 x460001 x461000 x461001 x462000 x462001 x482000 x482001)) else (laws_FnOrdersTurnOfAll.j1 k x1 x3 x5 x6 x21 x30 true x459000 x459001 x460000 x460001 x461000 x461001 x462000 x462001 x482000 x482001)) else (laws_FnOrdersTurnOfAll.j1 k x1 x3 x5 x6 x21 x30 true x459000 x459001 x460000 x460001 x461000 x461001 x462000 x462001 x482000 x482001)) else (laws_FnOrdersTurnOfAll.j1 k x1 x3 x5 x6 x21 x30 true x459000 x459001 x460000 x460001 x461000 x461001 x462000 x462001 x482000 x482001)) else (laws_FnOrdersTurnOfAll.j1 k x1 x3 x5 x6 x21 x30 true x459000 x459001 x460000 x460001 x461000 x461001 x462000 x462001 x482000 x482001)) else (laws_FnOrdersTurnOfAll.j1 k x1 x3 x5 x6 x21 x30 true x459000 x459001 x460000 x460001 x461000 x461001 x462000 x462001 x482000 x482001)) else (laws_FnOrdersTurnOfAll.j1 k x1 x3 x5 x6 x21 x30 true x459000 x459001 x460000 x460001 x461000 x461001 x462000 x462001 x482000 x482001)) else (laws_FnOrdersTurnOfAll.j1 k x1 x3 x5 x6 x21 x30 true x459000 x459001 x460000 x460001 x461000 x461001 x462000 x462001 x482000 x482001)))))))) else (laws_FnOrdersTurnOfAll.j2 k x3 x5 x6 x460000 x460001 x461000 x461001 x462000 x462001))
def laws_FnOrdersTurnOfAll.j2 : Nat → ByteArray → Int → Int → Int → Int → Int → Int → Int → Int → Option (Bool)
  | 0, _, _, _, _, _, _, _, _, _ => none
  | k + 1, x3, x5, x6, x460000, x460001, x461000, x461001, x462000, x462001 => (impl_ForthRank.f k x460000 x460001 x3).bind fun bt500 => ((spec_ForthRank.f k x460000 x460001 x3).bind fun bt502 => ((impl_RoundRank.f k x460000 x460001 x3).bind fun bt504 => ((spec_RoundRank.f k x460000 x460001 x3).bind fun bt506 => ((impl_ForthPart.f k x461000 x461001 x5 x6).bind fun bt508 => ((spec_ForthPart.f k x461000 x461001 x5 x6).bind fun bt512 => ((impl_RoundPart.f k x461000 x461001 x5 x6).bind fun bt516 => ((spec_RoundPart.f k x461000 x461001 x5 x6).bind fun bt520 => ((impl_WheelTurns.f k x462000 x462001).bind fun bt524 => ((spec_WheelTurns.f k x462000 x462001).bind fun bt528 => (if (bt500.2 != bt502.2) = true then (laws_FnOrdersTurnOfAll.j3 k x3 x6 bt500.1 bt500.2 bt504.1 bt508.1 bt508.2 bt516.1 bt516.2 bt524.1 bt524.2 true x460000 x460001 x461000 x461001 x462000 x462001) else (if bt500.1 = bt502.1 then (if (bt504.2 != bt506.2) = true then (laws_FnOrdersTurnOfAll.j3 k x3 x6 bt500.1 bt500.2 bt504.1 bt508.1 bt508.2 bt516.1 bt516.2 bt524.1 bt524.2 true x460000 x460001 x461000 x461001 x462000 x462001) else (if bt504.1 = bt506.1 then (if (bt504.2 != bt500.2) = true then (laws_FnOrdersTurnOfAll.j3 k x3 x6 bt500.1 bt500.2 bt504.1 bt508.1 bt508.2 bt516.1 bt516.2 bt524.1 bt524.2 true x460000 x460001 x461000 x461001 x462000 x462001) else (if (bt508.2 != bt512.2) = true then (laws_FnOrdersTurnOfAll.j3 k x3 x6 bt500.1 bt500.2 bt504.1 bt508.1 bt508.2 bt516.1 bt516.2 bt524.1 bt524.2 true x460000 x460001 x461000 x461001 x462000 x462001) else ((laws_aTexts.f k bt508.1 bt512.1).bind fun t532 => (if t532 = true then (if (bt516.2 != bt520.2) = true then (laws_FnOrdersTurnOfAll.j3 k x3 x6 bt500.1 bt500.2 bt504.1 bt508.1 bt508.2 bt516.1 bt516.2 bt524.1 bt524.2 true x460000 x460001 x461000 x461001 x462000 x462001) else ((laws_aTexts.f k bt516.1 bt520.1).bind fun t533 => (if t533 = true then (if bt508.2 = true then (if bt516.2 = true then (if (bt524.2 != bt528.2) = true then (laws_FnOrdersTurnOfAll.j3 k x3 x6 bt500.1 bt500.2 bt504.1 bt508.1 bt508.2 bt516.1 bt516.2 bt524.1 bt524.2 true x460000 x460001 x461000 x461001 x462000 x462001) else ((laws_aSame.f k bt524.1 bt528.1).bind fun t534 => (laws_FnOrdersTurnOfAll.j3 k x3 x6 bt500.1 bt500.2 bt504.1 bt508.1 bt508.2 bt516.1 bt516.2 bt524.1 bt524.2 (!t534) x460000 x460001 x461000 x461001 x462000 x462001))) else (laws_FnOrdersTurnOfAll.j3 k x3 x6 bt500.1 bt500.2 bt504.1 bt508.1 bt508.2 bt516.1 bt516.2 bt524.1 bt524.2 true x460000 x460001 x461000 x461001 x462000 x462001)) else (if (bt524.2 != bt528.2) = true then (laws_FnOrdersTurnOfAll.j3 k x3 x6 bt500.1 bt500.2 bt504.1 bt508.1 bt508.2 bt516.1 bt516.2 bt524.1 bt524.2 true x460000 x460001 x461000 x461001 x462000 x462001) else ((laws_aSame.f k bt524.1 bt528.1).bind fun t535 => (laws_FnOrdersTurnOfAll.j3 k x3 x6 bt500.1 bt500.2 bt504.1 bt508.1 bt508.2 bt516.1 bt516.2 bt524.1 bt524.2 (!t535) x460000 x460001 x461000 x461001 x462000 x462001)))) else (laws_FnOrdersTurnOfAll.j3 k x3 x6 bt500.1 bt500.2 bt504.1 bt508.1 bt508.2 bt516.1 bt516.2 bt524.1 bt524.2 true x460000 x460001 x461000 x461001 x462000 x462001)))) else (laws_FnOrdersTurnOfAll.j3 k x3 x6 bt500.1 bt500.2 bt504.1 bt508.1 bt508.2 bt516.1 bt516.2 bt524.1 bt524.2 true x460000 x460001 x461000 x461001 x462000 x462001))))) else (laws_FnOrdersTurnOfAll.j3 k x3 x6 bt500.1 bt500.2 bt504.1 bt508.1 bt508.2 bt516.1 bt516.2 bt524.1 bt524.2 true x460000 x460001 x461000 x461001 x462000 x462001))) else (laws_FnOrdersTurnOfAll.j3 k x3 x6 bt500.1 bt500.2 bt504.1 bt508.1 bt508.2 bt516.1 bt516.2 bt524.1 bt524.2 true x460000 x460001 x461000 x461001 x462000 x462001))))))))))))
def laws_FnOrdersTurnOfAll.j3 : Nat → ByteArray → Int → Int → Bool → Int → List ByteArray → Bool → List ByteArray → Bool → List Int → Bool → Bool → Int → Int → Int → Int → Int → Int → Option (Bool)
  | 0, _, _, _, _, _, _, _, _, _, _, _, _, _, _, _, _, _, _ => none
  | k + 1, x3, x6, x47, x48, x51, x55, x56, x59, x60, x63, x64, x418, x460000, x460001, x461000, x461001, x462000, x462001 => if x418 = true then (some false) else (if x48 = true then ((impl_ForthCode.f k x460000 x460001 x47).bind fun bt536 => ((impl_RoundCode.f k x460000 x460001 x51).bind fun bt538 => (if bt536.2 = true then (if bt536.1.toList = x3.toList then (if bt538.2 = true then (if bt538.1.toList = x3.toList then (laws_FnOrdersTurnOfAll.j4 k x6 x55 x56 x59 x60 x63 x64 x461000 x461001 x462000 x462001) else (some false)) else (some false)) else (some false)) else (some false)))) else (laws_FnOrdersTurnOfAll.j4 k x6 x55 x56 x59 x60 x63 x64 x461000 x461001 x462000 x462001))
def laws_FnOrdersTurnOfAll.j4 : Nat → Int → List ByteArray → Bool → List ByteArray → Bool → List Int → Bool → Int → Int → Int → Int → Option (Bool)
  | 0, _, _, _, _, _, _, _, _, _, _, _ => none
  | k + 1, x6, x55, x56, x59, x60, x63, x64, x461000, x461001, x462000, x462001 => if x56 = true then ((impl_IsTurnOrder.f k x461000 x461001 x55).bind fun bt540 => (if (x55.length : Int) = x6 then (if bt540.2 = true then (if bt540.1 = true then (laws_FnOrdersTurnOfAll.j5 k x6 x59 x60 x63 x64 x461000 x461001 x462000 x462001) else (some false)) else (some false)) else (some false))) else (laws_FnOrdersTurnOfAll.j5 k x6 x59 x60 x63 x64 x461000 x461001 x462000 x462001)
def laws_FnOrdersTurnOfAll.j5 : Nat → Int → List ByteArray → Bool → List Int → Bool → Int → Int → Int → Int → Option (Bool)
  | 0, _, _, _, _, _, _, _, _, _ => none
  | k + 1, x6, x59, x60, x63, x64, x461000, x461001, x462000, x462001 => if x60 = true then ((impl_CountCodes.f k x461000 x461001).bind fun bt542 => ((impl_IsTurnOrder.f k x461000 x461001 x59).bind fun bt544 => (if (x59.length : Int) = x6 then (if bt542.2 = true then (if bt544.2 = true then (if x6 ≤ bt542.1 then (if bt544.1 = true then (laws_FnOrdersTurnOfAll.j6 k x63 x64 x462000 x462001) else (some false)) else (laws_FnOrdersTurnOfAll.j6 k x63 x64 x462000 x462001)) else (some false)) else (some false)) else (some false)))) else (laws_FnOrdersTurnOfAll.j6 k x63 x64 x462000 x462001)
def laws_FnOrdersTurnOfAll.j6 : Nat → List Int → Bool → Int → Int → Option (Bool)
  | 0, _, _, _, _ => none
  | k + 1, x63, x64, x462000, x462001 => if x64 = true then ((impl_CountCodes.f k x462000 x462001).bind fun bt546 => (laws_FnOrdersTurnOfAll.l0 k x63 bt546.1 bt546.2 0 x63 (x63.length : Int) 0 x462000 x462001)) else (some true)
def laws_FnOrdersTurnOfAll.l0 : Nat → List Int → Int → Bool → Int → List Int → Int → Int → Int → Int → Option (Bool)
  | 0, _, _, _, _, _, _, _, _, _ => none
  | k + 1, x63, x77, x78, x79, x506, x507, x508, x462000, x462001 => if x508 < x507 then (if 0 ≤ x508 then (if x508 < (x506.length : Int) then (laws_FnOrdersTurnOfAll.l0 k x63 x77 x78 (wrap64 (x79 + (rd x506 x508))) x506 x507 (wrap64 (x508 + 1)) x462000 x462001) else (none)) else (none)) else (if x78 = true then (if x79 = x77 then (if (x63.length : Int) = x462000 then (if 0 < (x63.length : Int) then (some ((rd x63 0) == x462001)) else (none)) else (some false)) else (some false)) else (some false))
def laws_FnOrdersTurnOfAll.j1 : Nat → Int → ByteArray → Int → Int → ByteArray → Bool → Bool → Int → Int → Int → Int → Int → Int → Int → Int → Int → Int → Option (Bool)
  | 0, _, _, _, _, _, _, _, _, _, _, _, _, _, _, _, _, _ => none
  | k + 1, x1, x3, x5, x6, x21, x30, x267, x459000, x459001, x460000, x460001, x461000, x461001, x462000, x462001, x482000, x482001 => if x267 = true then (some false) else (if x30 = true then ((impl_TurnWheel.f k x459000 x459001 x21 x482000 x482001).bind fun bt496 => ((impl_ForthCode.f k x459000 x459001 (wrap64 (x1 + 1))).bind fun bt498 => (if bt496.2 = true then (if bt498.2 = true then (if bt496.1.toList = bt498.1.toList then (laws_FnOrdersTurnOfAll.j2 k x3 x5 x6 x460000 x460001 x461000 x461001 x462000 x462001) else (some false)) else (some false)) else (some false)))) else (laws_FnOrdersTurnOfAll.j2 k x3 x5 x6 x460000 x460001 x461000 x461001 x462000 x462001))
end
def laws_FnOrdersTurnOfAll.f (k : Nat) (a0_0 : Int) (a0_1 : Int) (a1 : Int) (a2_0 : Int) (a2_1 : Int) (a3 : ByteArray) (a4_0 : Int) (a4_1 : Int) (a5 : Int) (a6 : Int) (a7_0 : Int) (a7_1 : Int) : Option (Bool) := if (a3.size : Int) > 1048576 then (some true) else ((impl_RoundCode.f k a0_0 a0_1 a1).bind fun bt462 => ((spec_RoundCode.f k a0_0 a0_1 a1).bind fun bt464 => ((impl_ForthCode.f k a0_0 a0_1 a1).bind fun bt466 => ((spec_ForthCode.f k a0_0 a0_1 a1).bind fun bt468 => ((impl_TurnInRound.f k a0_0 a0_1 a1).bind fun bt470 => ((spec_TurnInRound.f k a0_0 a0_1 a1).bind fun bt474 => ((impl_TurnInForth.f k a0_0 a0_1 a1).bind fun bt478 => ((spec_TurnInForth.f k a0_0 a0_1 a1).bind fun bt482 => (if (bt462.2 != bt464.2) = true then (laws_FnOrdersTurnOfAll.j0 k a1 a3 a5 a6 bt462.1 bt462.2 bt466.1 bt478.2.2 true a0_0 a0_1 a2_0 a2_1 a4_0 a4_1 a7_0 a7_1 bt470.1 bt470.2.1 bt478.1 bt478.2.1) else (if bt462.1.toList = bt464.1.toList then (if (bt466.2 != bt468.2) = true then (laws_FnOrdersTurnOfAll.j0 k a1 a3 a5 a6 bt462.1 bt462.2 bt466.1 bt478.2.2 true a0_0 a0_1 a2_0 a2_1 a4_0 a4_1 a7_0 a7_1 bt470.1 bt470.2.1 bt478.1 bt478.2.1) else (if bt466.1.toList = bt468.1.toList then (if (bt470.2.2 != bt474.2.2) = true then (laws_FnOrdersTurnOfAll.j0 k a1 a3 a5 a6 bt462.1 bt462.2 bt466.1 bt478.2.2 true a0_0 a0_1 a2_0 a2_1 a4_0 a4_1 a7_0 a7_1 bt470.1 bt470.2.1 bt478.1 bt478.2.1) else (if (!(bt470.1 == bt474.1) || (!(bt470.2.1 == bt474.2.1))) = true then (laws_FnOrdersTurnOfAll.j0 k a1 a3 a5 a6 bt462.1 bt462.2 bt466.1 bt478.2.2 true a0_0 a0_1 a2_0 a2_1 a4_0 a4_1 a7_0 a7_1 bt470.1 bt470.2.1 bt478.1 bt478.2.1) else (if (bt478.2.2 != bt482.2.2) = true then (laws_FnOrdersTurnOfAll.j0 k a1 a3 a5 a6 bt462.1 bt462.2 bt466.1 bt478.2.2 true a0_0 a0_1 a2_0 a2_1 a4_0 a4_1 a7_0 a7_1 bt470.1 bt470.2.1 bt478.1 bt478.2.1) else (if (!(bt478.1 == bt482.1) || (!(bt478.2.1 == bt482.2.1))) = true then (laws_FnOrdersTurnOfAll.j0 k a1 a3 a5 a6 bt462.1 bt462.2 bt466.1 bt478.2.2 true a0_0 a0_1 a2_0 a2_1 a4_0 a4_1 a7_0 a7_1 bt470.1 bt470.2.1 bt478.1 bt478.2.1) else (if (bt466.2 != bt462.2) = true then (laws_FnOrdersTurnOfAll.j0 k a1 a3 a5 a6 bt462.1 bt462.2 bt466.1 bt478.2.2 true a0_0 a0_1 a2_0 a2_1 a4_0 a4_1 a7_0 a7_1 bt470.1 bt470.2.1 bt478.1 bt478.2.1) else (if (bt470.2.2 != bt462.2) = true then (laws_FnOrdersTurnOfAll.j0 k a1 a3 a5 a6 bt462.1 bt462.2 bt466.1 bt478.2.2 true a0_0 a0_1 a2_0 a2_1 a4_0 a4_1 a7_0 a7_1 bt470.1 bt470.2.1 bt478.1 bt478.2.1) else (if bt478.2.2 = true then (laws_FnOrdersTurnOfAll.j0 k a1 a3 a5 a6 bt462.1 bt462.2 bt466.1 bt478.2.2 (!bt462.2) a0_0 a0_1 a2_0 a2_1 a4_0 a4_1 a7_0 a7_1 bt470.1 bt470.2.1 bt478.1 bt478.2.1) else (laws_FnOrdersTurnOfAll.j0 k a1 a3 a5 a6 bt462.1 bt462.2 bt466.1 bt478.2.2 false a0_0 a0_1 a2_0 a2_1 a4_0 a4_1 a7_0 a7_1 bt470.1 bt470.2.1 bt478.1 bt478.2.1)))))))) else (laws_FnOrdersTurnOfAll.j0 k a1 a3 a5 a6 bt462.1 bt462.2 bt466.1 bt478.2.2 true a0_0 a0_1 a2_0 a2_1 a4_0 a4_1 a7_0 a7_1 bt470.1 bt470.2.1 bt478.1 bt478.2.1))) else (laws_FnOrdersTurnOfAll.j0 k a1 a3 a5 a6 bt462.1 bt462.2 bt466.1 bt478.2.2 true a0_0 a0_1 a2_0 a2_1 a4_0 a4_1 a7_0 a7_1 bt470.1 bt470.2.1 bt478.1 bt478.2.1)))))))))))
theorem laws_FnOrdersTurnOfAll.mono_l : ∀ k, (∀ y0 y1 y2 y3 y4 y5 y6 y7 y8 y9 y10 y11 y12 y13 y14 y15 y16 y17 y18 y19 y20, LeO (laws_FnOrdersTurnOfAll.j0 k y0 y1 y2 y3 y4 y5 y6 y7 y8 y9 y10 y11 y12 y13 y14 y15 y16 y17 y18 y19 y20) (laws_FnOrdersTurnOfAll.j0 (k + 1) y0 y1 y2 y3 y4 y5 y6 y7 y8 y9 y10 y11 y12 y13 y14 y15 y16 y17 y18 y19 y20)) ∧ (∀ y0 y1 y2 y3 y4 y5 y6 y7 y8, LeO (laws_FnOrdersTurnOfAll.j2 k y0 y1 y2 y3 y4 y5 y6 y7 y8) (laws_FnOrdersTurnOfAll.j2 (k + 1) y0 y1 y2 y3 y4 y5 y6 y7 y8)) ∧ (∀ y0 y1 y2 y3 y4 y5 y6 y7 y8 y9 y10 y11 y12 y13 y14 y15 y16 y17, LeO (laws_FnOrdersTurnOfAll.j3 k y0 y1 y2 y3 y4 y5 y6 y7 y8 y9 y10 y11 y12 y13 y14 y15 y16 y17) (laws_FnOrdersTurnOfAll.j3 (k + 1) y0 y1 y2 y3 y4 y5 y6 y7 y8 y9 y10 y11 y12 y13 y14 y15 y16 y17)) ∧ (∀ y0 y1 y2 y3 y4 y5 y6 y7 y8 y9 y10, LeO (laws_FnOrdersTurnOfAll.j4 k y0 y1 y2 y3 y4 y5 y6 y7 y8 y9 y10) (laws_FnOrdersTurnOfAll.j4 (k + 1) y0 y1 y2 y3 y4 y5 y6 y7 y8 y9 y10)) ∧ (∀ y0 y1 y2 y3 y4 y5 y6 y7 y8, LeO (laws_FnOrdersTurnOfAll.j5 k y0 y1 y2 y3 y4 y5 y6 y7 y8) (laws_FnOrdersTurnOfAll.j5 (k + 1) y0 y1 y2 y3 y4 y5 y6 y7 y8)) ∧ (∀ y0 y1 y2 y3, LeO (laws_FnOrdersTurnOfAll.j6 k y0 y1 y2 y3) (laws_FnOrdersTurnOfAll.j6 (k + 1) y0 y1 y2 y3)) ∧ (∀ y0 y1 y2 y3 y4 y5 y6 y7 y8, LeO (laws_FnOrdersTurnOfAll.l0 k y0 y1 y2 y3 y4 y5 y6 y7 y8) (laws_FnOrdersTurnOfAll.l0 (k + 1) y0 y1 y2 y3 y4 y5 y6 y7 y8)) ∧ (∀ y0 y1 y2 y3 y4 y5 y6 y7 y8 y9 y10 y11 y12 y13 y14 y15 y16, LeO (laws_FnOrdersTurnOfAll.j1 k y0 y1 y2 y3 y4 y5 y6 y7 y8 y9 y10 y11 y12 y13 y14 y15 y16) (laws_FnOrdersTurnOfAll.j1 (k + 1) y0 y1 y2 y3 y4 y5 y6 y7 y8 y9 y10 y11 y12 y13 y14 y15 y16))
  | 0 => ⟨fun _ _ _ _ _ _ _ _ _ _ _ _ _ _ _ _ _ _ _ _ _ r h => by simp [laws_FnOrdersTurnOfAll.j0] at h, fun _ _ _ _ _ _ _ _ _ r h => by simp [laws_FnOrdersTurnOfAll.j2] at h, fun _ _ _ _ _ _ _ _ _ _ _ _ _ _ _ _ _ _ r h => by simp [laws_FnOrdersTurnOfAll.j3] at h, fun _ _ _ _ _ _ _ _ _ _ _ r h => by simp [laws_FnOrdersTurnOfAll.j4] at h, fun _ _ _ _ _ _ _ _ _ r h => by simp [laws_FnOrdersTurnOfAll.j5] at h, fun _ _ _ _ r h => by simp [laws_FnOrdersTurnOfAll.j6] at h, fun _ _ _ _ _ _ _ _ _ r h => by simp [laws_FnOrdersTurnOfAll.l0] at h, fun _ _ _ _ _ _ _ _ _ _ _ _ _ _ _ _ _ r h => by simp [laws_FnOrdersTurnOfAll.j1] at h⟩
  | k + 1 => by
    obtain ⟨ih0, ih1, ih2, ih3, ih4, ih5, ih6, ih7⟩ := laws_FnOrdersTurnOfAll.mono_l k
    refine ⟨?_, ?_, ?_, ?_, ?_, ?_, ?_, ?_⟩
    · intro y0 y1 y2 y3 y4 y5 y6 y7 y8 y9 y10 y11 y12 y13 y14 y15 y16 y17 y18 y19 y20
      unfold laws_FnOrdersTurnOfAll.j0
      repeat' first
      | (with_reducible exact ih0 _ _ _ _ _ _ _ _ _ _ _ _ _ _ _ _ _ _ _ _ _)
      | (with_reducible exact ih1 _ _ _ _ _ _ _ _ _)
      | (with_reducible exact ih2 _ _ _ _ _ _ _ _ _ _ _ _ _ _ _ _ _ _)
      | (with_reducible exact ih3 _ _ _ _ _ _ _ _ _ _ _)
      | (with_reducible exact ih4 _ _ _ _ _ _ _ _ _)
      | (with_reducible exact ih5 _ _ _ _)
      | (with_reducible exact ih6 _ _ _ _ _ _ _ _ _)
      | (with_reducible exact ih7 _ _ _ _ _ _ _ _ _ _ _ _ _ _ _ _ _)
      | (with_reducible exact impl_CountCodes.mono _ _ _)
      | (with_reducible exact impl_ForthCode.mono _ _ _ _)
      | (with_reducible exact impl_ForthPart.mono _ _ _ _ _)
      | (with_reducible exact impl_ForthRank.mono _ _ _ _)
      | (with_reducible exact impl_IsTurnOrder.mono _ _ _ _)
      | (with_reducible exact impl_RoundCode.mono _ _ _ _)
      | (with_reducible exact impl_RoundPart.mono _ _ _ _ _)
      | (with_reducible exact impl_RoundRank.mono _ _ _ _)
      | (with_reducible exact impl_TurnInForth.mono _ _ _ _)
      | (with_reducible exact impl_TurnInRound.mono _ _ _ _)
      | (with_reducible exact impl_TurnWheel.mono _ _ _ _ _ _)
      | (with_reducible exact impl_WheelTurns.mono _ _ _)
      | (with_reducible exact laws_aSame.mono _ _ _)
      | (with_reducible exact laws_aTexts.mono _ _ _)
      | (with_reducible exact spec_ForthCode.mono _ _ _ _)
      | (with_reducible exact spec_ForthPart.mono _ _ _ _ _)
      | (with_reducible exact spec_ForthRank.mono _ _ _ _)
      | (with_reducible exact spec_RoundCode.mono _ _ _ _)
      | (with_reducible exact spec_RoundPart.mono _ _ _ _ _)
      | (with_reducible exact spec_RoundRank.mono _ _ _ _)
      | (with_reducible exact spec_TurnInForth.mono _ _ _ _)
      | (with_reducible exact spec_TurnInRound.mono _ _ _ _)
      | (with_reducible exact spec_WheelTurns.mono _ _ _)
      | (with_reducible exact LeO.refl _)
      | (with_reducible exact LeO.none _)
      | (with_reducible refine LeO.ite ?_ ?_)
      | (with_reducible refine LeO.bind ?_ (fun _ => ?_))
      | exact ih0 _ _ _ _ _ _ _ _ _ _ _ _ _ _ _ _ _ _ _ _ _
      | exact ih1 _ _ _ _ _ _ _ _ _
      | exact ih2 _ _ _ _ _ _ _ _ _ _ _ _ _ _ _ _ _ _
      | exact ih3 _ _ _ _ _ _ _ _ _ _ _
      | exact ih4 _ _ _ _ _ _ _ _ _
      | exact ih5 _ _ _ _
      | exact ih6 _ _ _ _ _ _ _ _ _
      | exact ih7 _ _ _ _ _ _ _ _ _ _ _ _ _ _ _ _ _
      | exact impl_CountCodes.mono _ _ _
      | exact impl_ForthCode.mono _ _ _ _
      | exact impl_ForthPart.mono _ _ _ _ _
      | exact impl_ForthRank.mono _ _ _ _
      | exact impl_IsTurnOrder.mono _ _ _ _
      | exact impl_RoundCode.mono _ _ _ _
      | exact impl_RoundPart.mono _ _ _ _ _
      | exact impl_RoundRank.mono _ _ _ _
      | exact impl_TurnInForth.mono _ _ _ _
      | exact impl_TurnInRound.mono _ _ _ _
      | exact impl_TurnWheel.mono _ _ _ _ _ _
      | exact impl_WheelTurns.mono _ _ _
      | exact laws_aSame.mono _ _ _
      | exact laws_aTexts.mono _ _ _
      | exact spec_ForthCode.mono _ _ _ _
      | exact spec_ForthPart.mono _ _ _ _ _
      | exact spec_ForthRank.mono _ _ _ _
      | exact spec_RoundCode.mono _ _ _ _
      | exact spec_RoundPart.mono _ _ _ _ _
      | exact spec_RoundRank.mono _ _ _ _
      | exact spec_TurnInForth.mono _ _ _ _
      | exact spec_TurnInRound.mono _ _ _ _
      | exact spec_WheelTurns.mono _ _ _
      | exact LeO.none _
      | refine LeO.ite ?_ ?_
      | refine LeO.bind ?_ (fun _ => ?_)
    · intro y0 y1 y2 y3 y4 y5 y6 y7 y8
      unfold laws_FnOrdersTurnOfAll.j2
      repeat' first
      | (with_reducible exact ih0 _ _ _ _ _ _ _ _ _ _ _ _ _ _ _ _ _ _ _ _ _)
      | (with_reducible exact ih1 _ _ _ _ _ _ _ _ _)
      | (with_reducible exact ih2 _ _ _ _ _ _ _ _ _ _ _ _ _ _ _ _ _ _)
      | (with_reducible exact ih3 _ _ _ _ _ _ _ _ _ _ _)
      | (with_reducible exact ih4 _ _ _ _ _ _ _ _ _)
      | (with_reducible exact ih5 _ _ _ _)
      | (with_reducible exact ih6 _ _ _ _ _ _ _ _ _)
      | (with_reducible exact ih7 _ _ _ _ _ _ _ _ _ _ _ _ _ _ _ _ _)
      | (with_reducible exact impl_CountCodes.mono _ _ _)
      | (with_reducible exact impl_ForthCode.mono _ _ _ _)
      | (with_reducible exact impl_ForthPart.mono _ _ _ _ _)
      | (with_reducible exact impl_ForthRank.mono _ _ _ _)
      | (with_reducible exact impl_IsTurnOrder.mono _ _ _ _)
      | (with_reducible exact impl_RoundCode.mono _ _ _ _)
      | (with_reducible exact impl_RoundPart.mono _ _ _ _ _)
      | (with_reducible exact impl_RoundRank.mono _ _ _ _)
      | (with_reducible exact impl_TurnInForth.mono _ _ _ _)
      | (with_reducible exact impl_TurnInRound.mono _ _ _ _)
      | (with_reducible exact impl_TurnWheel.mono _ _ _ _ _ _)
      | (with_reducible exact impl_WheelTurns.mono _ _ _)
      | (with_reducible exact laws_aSame.mono _ _ _)
      | (with_reducible exact laws_aTexts.mono _ _ _)
      | (with_reducible exact spec_ForthCode.mono _ _ _ _)
      | (with_reducible exact spec_ForthPart.mono _ _ _ _ _)
      | (with_reducible exact spec_ForthRank.mono _ _ _ _)
      | (with_reducible exact spec_RoundCode.mono _ _ _ _)
      | (with_reducible exact spec_RoundPart.mono _ _ _ _ _)
      | (with_reducible exact spec_RoundRank.mono _ _ _ _)
      | (with_reducible exact spec_TurnInForth.mono _ _ _ _)
      | (with_reducible exact spec_TurnInRound.mono _ _ _ _)
      | (with_reducible exact spec_WheelTurns.mono _ _ _)
      | (with_reducible exact LeO.refl _)
      | (with_reducible exact LeO.none _)
      | (with_reducible refine LeO.ite ?_ ?_)
      | (with_reducible refine LeO.bind ?_ (fun _ => ?_))
      | exact ih0 _ _ _ _ _ _ _ _ _ _ _ _ _ _ _ _ _ _ _ _ _
      | exact ih1 _ _ _ _ _ _ _ _ _
      | exact ih2 _ _ _ _ _ _ _ _ _ _ _ _ _ _ _ _ _ _
      | exact ih3 _ _ _ _ _ _ _ _ _ _ _
      | exact ih4 _ _ _ _ _ _ _ _ _
      | exact ih5 _ _ _ _
      | exact ih6 _ _ _ _ _ _ _ _ _
      | exact ih7 _ _ _ _ _ _ _ _ _ _ _ _ _ _ _ _ _
      | exact impl_CountCodes.mono _ _ _
      | exact impl_ForthCode.mono _ _ _ _
      | exact impl_ForthPart.mono _ _ _ _ _
      | exact impl_ForthRank.mono _ _ _ _
      | exact impl_IsTurnOrder.mono _ _ _ _
      | exact impl_RoundCode.mono _ _ _ _
      | exact impl_RoundPart.mono _ _ _ _ _
      | exact impl_RoundRank.mono _ _ _ _
      | exact impl_TurnInForth.mono _ _ _ _
      | exact impl_TurnInRound.mono _ _ _ _
      | exact impl_TurnWheel.mono _ _ _ _ _ _
      | exact impl_WheelTurns.mono _ _ _
      | exact laws_aSame.mono _ _ _
      | exact laws_aTexts.mono _ _ _
      | exact spec_ForthCode.mono _ _ _ _
      | exact spec_ForthPart.mono _ _ _ _ _
      | exact spec_ForthRank.mono _ _ _ _
      | exact spec_RoundCode.mono _ _ _ _
      | exact spec_RoundPart.mono _ _ _ _ _
      | exact spec_RoundRank.mono _ _ _ _
      | exact spec_TurnInForth.mono _ _ _ _
      | exact spec_TurnInRound.mono _ _ _ _
      | exact spec_WheelTurns.mono _ _ _
      | exact LeO.none _
      | refine LeO.ite ?_ ?_
      | refine LeO.bind ?_ (fun _ => ?_)
    · intro y0 y1 y2 y3 y4 y5 y6 y7 y8 y9 y10 y11 y12 y13 y14 y15 y16 y17
      unfold laws_FnOrdersTurnOfAll.j3
      repeat' first
      | (with_reducible exact ih0 _ _ _ _ _ _ _ _ _ _ _ _ _ _ _ _ _ _ _ _ _)
      | (with_reducible exact ih1 _ _ _ _ _ _ _ _ _)
      | (with_reducible exact ih2 _ _ _ _ _ _ _ _ _ _ _ _ _ _ _ _ _ _)
      | (with_reducible exact ih3 _ _ _ _ _ _ _ _ _ _ _)
      | (with_reducible exact ih4 _ _ _ _ _ _ _ _ _)
      | (with_reducible exact ih5 _ _ _ _)
      | (with_reducible exact ih6 _ _ _ _ _ _ _ _ _)
      | (with_reducible exact ih7 _ _ _ _ _ _ _ _ _ _ _ _ _ _ _ _ _)
      | (with_reducible exact impl_CountCodes.mono _ _ _)
      | (with_reducible exact impl_ForthCode.mono _ _ _ _)
      | (with_reducible exact impl_ForthPart.mono _ _ _ _ _)
      | (with_reducible exact impl_ForthRank.mono _ _ _ _)
      | (with_reducible exact impl_IsTurnOrder.mono _ _ _ _)
      | (with_reducible exact impl_RoundCode.mono _ _ _ _)
      | (with_reducible exact impl_RoundPart.mono _ _ _ _ _)
      | (with_reducible exact impl_RoundRank.mono _ _ _ _)
      | (with_reducible exact impl_TurnInForth.mono _ _ _ _)
      | (with_reducible exact impl_TurnInRound.mono _ _ _ _)
      | (with_reducible exact impl_TurnWheel.mono _ _ _ _ _ _)
      | (with_reducible exact impl_WheelTurns.mono _ _ _)
      | (with_reducible exact laws_aSame.mono _ _ _)
      | (with_reducible exact laws_aTexts.mono _ _ _)
      | (with_reducible exact spec_ForthCode.mono _ _ _ _)
      | (with_reducible exact spec_ForthPart.mono _ _ _ _ _)
      | (with_reducible exact spec_ForthRank.mono _ _ _ _)
      | (with_reducible exact spec_RoundCode.mono _ _ _ _)
      | (with_reducible exact spec_RoundPart.mono _ _ _ _ _)
      | (with_reducible exact spec_RoundRank.mono _ _ _ _)
      | (with_reducible exact spec_TurnInForth.mono _ _ _ _)
      | (with_reducible exact spec_TurnInRound.mono _ _ _ _)
      | (with_reducible exact spec_WheelTurns.mono _ _ _)
      | (with_reducible exact LeO.refl _)
      | (with_reducible exact LeO.none _)
      | (with_reducible refine LeO.ite ?_ ?_)
      | (with_reducible refine LeO.bind ?_ (fun _ => ?_))
      | exact ih0 _ _ _ _ _ _ _ _ _ _ _ _ _ _ _ _ _ _ _ _ _
      | exact ih1 _ _ _ _ _ _ _ _ _
      | exact ih2 _ _ _ _ _ _ _ _ _ _ _ _ _ _ _ _ _ _
      | exact ih3 _ _ _ _ _ _ _ _ _ _ _
      | exact ih4 _ _ _ _ _ _ _ _ _
      | exact ih5 _ _ _ _
      | exact ih6 _ _ _ _ _ _ _ _ _
      | exact ih7 _ _ _ _ _ _ _ _ _ _ _ _ _ _ _ _ _
      | exact impl_CountCodes.mono _ _ _
      | exact impl_ForthCode.mono _ _ _ _
      | exact impl_ForthPart.mono _ _ _ _ _
      | exact impl_ForthRank.mono _ _ _ _
      | exact impl_IsTurnOrder.mono _ _ _ _
      | exact impl_RoundCode.mono _ _ _ _
      | exact impl_RoundPart.mono _ _ _ _ _
      | exact impl_RoundRank.mono _ _ _ _
      | exact impl_TurnInForth.mono _ _ _ _
      | exact impl_TurnInRound.mono _ _ _ _
      | exact impl_TurnWheel.mono _ _ _ _ _ _
      | exact impl_WheelTurns.mono _ _ _
      | exact laws_aSame.mono _ _ _
      | exact laws_aTexts.mono _ _ _
      | exact spec_ForthCode.mono _ _ _ _
      | exact spec_ForthPart.mono _ _ _ _ _
      | exact spec_ForthRank.mono _ _ _ _
      | exact spec_RoundCode.mono _ _ _ _
      | exact spec_RoundPart.mono _ _ _ _ _
      | exact spec_RoundRank.mono _ _ _ _
      | exact spec_TurnInForth.mono _ _ _ _
      | exact spec_TurnInRound.mono _ _ _ _
      | exact spec_WheelTurns.mono _ _ _
      | exact LeO.none _
      | refine LeO.ite ?_ ?_
      | refine LeO.bind ?_ (fun _ => ?_)
    · intro y0 y1 y2 y3 y4 y5 y6 y7 y8 y9 y10
      unfold laws_FnOrdersTurnOfAll.j4
      repeat' first
      | (with_reducible exact ih0 _ _ _ _ _ _ _ _ _ _ _ _ _ _ _ _ _ _ _ _ _)
      | (with_reducible exact ih1 _ _ _ _ _ _ _ _ _)
      | (with_reducible exact ih2 _ _ _ _ _ _ _ _ _ _ _ _ _ _ _ _ _ _)
      | (with_reducible exact ih3 _ _ _ _ _ _ _ _ _ _ _)
      | (with_reducible exact ih4 _ _ _ _ _ _ _ _ _)
      | (with_reducible exact ih5 _ _ _ _)
      | (with_reducible exact ih6 _ _ _ _ _ _ _ _ _)
      | (with_reducible exact ih7 _ _ _ _ _ _ _ _ _ _ _ _ _ _ _ _ _)
      | (with_reducible exact impl_CountCodes.mono _ _ _)
      | (with_reducible exact impl_ForthCode.mono _ _ _ _)
      | (with_reducible exact impl_ForthPart.mono _ _ _ _ _)
      | (with_reducible exact impl_ForthRank.mono _ _ _ _)
      | (with_reducible exact impl_IsTurnOrder.mono _ _ _ _)
      | (with_reducible exact impl_RoundCode.mono _ _ _ _)
      | (with_reducible exact impl_RoundPart.mono _ _ _ _ _)
      | (with_reducible exact impl_RoundRank.mono _ _ _ _)
      | (with_reducible exact impl_TurnInForth.mono _ _ _ _)
      | (with_reducible exact impl_TurnInRound.mono _ _ _ _)
      | (with_reducible exact impl_TurnWheel.mono _ _ _ _ _ _)
      | (with_reducible exact impl_WheelTurns.mono _ _ _)
      | (with_reducible exact laws_aSame.mono _ _ _)
      | (with_reducible exact laws_aTexts.mono _ _ _)
      | (with_reducible exact spec_ForthCode.mono _ _ _ _)
      | (with_reducible exact spec_ForthPart.mono _ _ _ _ _)
      | (with_reducible exact spec_ForthRank.mono _ _ _ _)
      | (with_reducible exact spec_RoundCode.mono _ _ _ _)
      | (with_reducible exact spec_RoundPart.mono _ _ _ _ _)
      | (with_reducible exact spec_RoundRank.mono _ _ _ _)
      | (with_reducible exact spec_TurnInForth.mono _ _ _ _)
      | (with_reducible exact spec_TurnInRound.mono _ _ _ _)
      | (with_reducible exact spec_WheelTurns.mono _ _ _)
      | (with_reducible exact LeO.refl _)
      | (with_reducible exact LeO.none _)
      | (with_reducible refine LeO.ite ?_ ?_)
      | (with_reducible refine LeO.bind ?_ (fun _ => ?_))
      | exact ih0 _ _ _ _ _ _ _ _ _ _ _ _ _ _ _ _ _ _ _ _ _
      | exact ih1 _ _ _ _ _ _ _ _ _
      | exact ih2 _ _ _ _ _ _ _ _ _ _ _ _ _ _ _ _ _ _
      | exact ih3 _ _ _ _ _ _ _ _ _ _ _
      | exact ih4 _ _ _ _ _ _ _ _ _
      | exact ih5 _ _ _ _
      | exact ih6 _ _ _ _ _ _ _ _ _
      | exact ih7 _ _ _ _ _ _ _ _ _ _ _ _ _ _ _ _ _
      | exact impl_CountCodes.mono _ _ _
      | exact impl_ForthCode.mono _ _ _ _
      | exact impl_ForthPart.mono _ _ _ _ _
      | exact impl_ForthRank.mono _ _ _ _
      | exact impl_IsTurnOrder.mono _ _ _ _
      | exact impl_RoundCode.mono _ _ _ _
      | exact impl_RoundPart.mono _ _ _ _ _
      | exact impl_RoundRank.mono _ _ _ _
      | exact impl_TurnInForth.mono _ _ _ _
      | exact impl_TurnInRound.mono _ _ _ _
      | exact impl_TurnWheel.mono _ _ _ _ _ _
      | exact impl_WheelTurns.mono _ _ _
      | exact laws_aSame.mono _ _ _
      | exact laws_aTexts.mono _ _ _
      | exact spec_ForthCode.mono _ _ _ _
      | exact spec_ForthPart.mono _ _ _ _ _
      | exact spec_ForthRank.mono _ _ _ _
      | exact spec_RoundCode.mono _ _ _ _
      | exact spec_RoundPart.mono _ _ _ _ _
      | exact spec_RoundRank.mono _ _ _ _
      | exact spec_TurnInForth.mono _ _ _ _
      | exact spec_TurnInRound.mono _ _ _ _
      | exact spec_WheelTurns.mono _ _ _
      | exact LeO.none _
      | refine LeO.ite ?_ ?_
      | refine LeO.bind ?_ (fun _ => ?_)
    · intro y0 y1 y2 y3 y4 y5 y6 y7 y8
      unfold laws_FnOrdersTurnOfAll.j5
      repeat' first
      | (with_reducible exact ih0 _ _ _ _ _ _ _ _ _ _ _ _ _ _ _ _ _ _ _ _ _)
      | (with_reducible exact ih1 _ _ _ _ _ _ _ _ _)
      | (with_reducible exact ih2 _ _ _ _ _ _ _ _ _ _ _ _ _ _ _ _ _ _)
      | (with_reducible exact ih3 _ _ _ _ _ _ _ _ _ _ _)
      | (with_reducible exact ih4 _ _ _ _ _ _ _ _ _)
      | (with_reducible exact ih5 _ _ _ _)
      | (with_reducible exact ih6 _ _ _ _ _ _ _ _ _)
      | (with_reducible exact ih7 _ _ _ _ _ _ _ _ _ _ _ _ _ _ _ _ _)
      | (with_reducible exact impl_CountCodes.mono _ _ _)
      | (with_reducible exact impl_ForthCode.mono _ _ _ _)
      | (with_reducible exact impl_ForthPart.mono _ _ _ _ _)
      | (with_reducible exact impl_ForthRank.mono _ _ _ _)
      | (with_reducible exact impl_IsTurnOrder.mono _ _ _ _)
      | (with_reducible exact impl_RoundCode.mono _ _ _ _)
      | (with_reducible exact impl_RoundPart.mono _ _ _ _ _)
      | (with_reducible exact impl_RoundRank.mono _ _ _ _)
      | (with_reducible exact impl_TurnInForth.mono _ _ _ _)
      | (with_reducible exact impl_TurnInRound.mono _ _ _ _)
      | (with_reducible exact impl_TurnWheel.mono _ _ _ _ _ _)
      | (with_reducible exact impl_WheelTurns.mono _ _ _)
      | (with_reducible exact laws_aSame.mono _ _ _)
      | (with_reducible exact laws_aTexts.mono _ _ _)
      | (with_reducible exact spec_ForthCode.mono _ _ _ _)
      | (with_reducible exact spec_ForthPart.mono _ _ _ _ _)
      | (with_reducible exact spec_ForthRank.mono _ _ _ _)
      | (with_reducible exact spec_RoundCode.mono _ _ _ _)
      | (with_reducible exact spec_RoundPart.mono _ _ _ _ _)
      | (with_reducible exact spec_RoundRank.mono _ _ _ _)
      | (with_reducible exact spec_TurnInForth.mono _ _ _ _)
      | (with_reducible exact spec_TurnInRound.mono _ _ _ _)
      | (with_reducible exact spec_WheelTurns.mono _ _ _)
      | (with_reducible exact LeO.refl _)
      | (with_reducible exact LeO.none _)
      | (with_reducible refine LeO.ite ?_ ?_)
      | (with_reducible refine LeO.bind ?_ (fun _ => ?_))
      | exact ih0 _ _ _ _ _ _ _ _ _ _ _ _ _ _ _ _ _ _ _ _ _
      | exact ih1 _ _ _ _ _ _ _ _ _
      | exact ih2 _ _ _ _ _ _ _ _ _ _ _ _ _ _ _ _ _ _
      | exact ih3 _ _ _ _ _ _ _ _ _ _ _
      | exact ih4 _ _ _ _ _ _ _ _ _
      | exact ih5 _ _ _ _
      | exact ih6 _ _ _ _ _ _ _ _ _
      | exact ih7 _ _ _ _ _ _ _ _ _ _ _ _ _ _ _ _ _
      | exact impl_CountCodes.mono _ _ _
      | exact impl_ForthCode.mono _ _ _ _
      | exact impl_ForthPart.mono _ _ _ _ _
      | exact impl_ForthRank.mono _ _ _ _
      | exact impl_IsTurnOrder.mono _ _ _ _
      | exact impl_RoundCode.mono _ _ _ _
      | exact impl_RoundPart.mono _ _ _ _ _
      | exact impl_RoundRank.mono _ _ _ _
      | exact impl_TurnInForth.mono _ _ _ _
      | exact impl_TurnInRound.mono _ _ _ _
      | exact impl_TurnWheel.mono _ _ _ _ _ _
      | exact impl_WheelTurns.mono _ _ _
      | exact laws_aSame.mono _ _ _
      | exact laws_aTexts.mono _ _ _
      | exact spec_ForthCode.mono _ _ _ _
      | exact spec_ForthPart.mono _ _ _ _ _
      | exact spec_ForthRank.mono _ _ _ _
      | exact spec_RoundCode.mono _ _ _ _
      | exact spec_RoundPart.mono _ _ _ _ _
      | exact spec_RoundRank.mono _ _ _ _
      | exact spec_TurnInForth.mono _ _ _ _
      | exact spec_TurnInRound.mono _ _ _ _
      | exact spec_WheelTurns.mono _ _ _
      | exact LeO.none _
      | refine LeO.ite ?_ ?_
      | refine LeO.bind ?_ (fun _ => ?_)
    · intro y0 y1 y2 y3
      unfold laws_FnOrdersTurnOfAll.j6
      repeat' first
      | (with_reducible exact ih0 _ _ _ _ _ _ _ _ _ _ _ _ _ _ _ _ _ _ _ _ _)
      | (with_reducible exact ih1 _ _ _ _ _ _ _ _ _)
      | (with_reducible exact ih2 _ _ _ _ _ _ _ _ _ _ _ _ _ _ _ _ _ _)
      | (with_reducible exact ih3 _ _ _ _ _ _ _ _ _ _ _)
      | (with_reducible exact ih4 _ _ _ _ _ _ _ _ _)
      | (with_reducible exact ih5 _ _ _ _)
      | (with_reducible exact ih6 _ _ _ _ _ _ _ _ _)
      | (with_reducible exact ih7 _ _ _ _ _ _ _ _ _ _ _ _ _ _ _ _ _)
      | (with_reducible exact impl_CountCodes.mono _ _ _)
      | (with_reducible exact impl_ForthCode.mono _ _ _ _)
      | (with_reducible exact impl_ForthPart.mono _ _ _ _ _)
      | (with_reducible exact impl_ForthRank.mono _ _ _ _)
      | (with_reducible exact impl_IsTurnOrder.mono _ _ _ _)
      | (with_reducible exact impl_RoundCode.mono _ _ _ _)
      | (with_reducible exact impl_RoundPart.mono _ _ _ _ _)
      | (with_reducible exact impl_RoundRank.mono _ _ _ _)
      | (with_reducible exact impl_TurnInForth.mono _ _ _ _)
      | (with_reducible exact impl_TurnInRound.mono _ _ _ _)
      | (with_reducible exact impl_TurnWheel.mono _ _ _ _ _ _)
      | (with_reducible exact impl_WheelTurns.mono _ _ _)
      | (with_reducible exact laws_aSame.mono _ _ _)
      | (with_reducible exact laws_aTexts.mono _ _ _)
      | (with_reducible exact spec_ForthCode.mono _ _ _ _)
      | (with_reducible exact spec_ForthPart.mono _ _ _ _ _)
      | (with_reducible exact spec_ForthRank.mono _ _ _ _)
      | (with_reducible exact spec_RoundCode.mono _ _ _ _)
      | (with_reducible exact spec_RoundPart.mono _ _ _ _ _)
      | (with_reducible exact spec_RoundRank.mono _ _ _ _)
      | (with_reducible exact spec_TurnInForth.mono _ _ _ _)
      | (with_reducible exact spec_TurnInRound.mono _ _ _ _)
      | (with_reducible exact spec_WheelTurns.mono _ _ _)
      | (with_reducible exact LeO.refl _)
      | (with_reducible exact LeO.none _)
      | (with_reducible refine LeO.ite ?_ ?_)
      | (with_reducible refine LeO.bind ?_ (fun _ => ?_))
      | exact ih0 _ _ _ _ _ _ _ _ _ _ _ _ _ _ _ _ _ _ _ _ _
      | exact ih1 _ _ _ _ _ _ _ _ _
      | exact ih2 _ _ _ _ _ _ _ _ _ _ _ _ _ _ _ _ _ _
      | exact ih3 _ _ _ _ _ _ _ _ _ _ _
      | exact ih4 _ _ _ _ _ _ _ _ _
      | exact ih5 _ _ _ _
      | exact ih6 _ _ _ _ _ _ _ _ _
      | exact ih7 _ _ _ _ _ _ _ _ _ _ _ _ _ _ _ _ _
      | exact impl_CountCodes.mono _ _ _
      | exact impl_ForthCode.mono _ _ _ _
      | exact impl_ForthPart.mono _ _ _ _ _
      | exact impl_ForthRank.mono _ _ _ _
      | exact impl_IsTurnOrder.mono _ _ _ _
      | exact impl_RoundCode.mono _ _ _ _
      | exact impl_RoundPart.mono _ _ _ _ _
      | exact impl_RoundRank.mono _ _ _ _
      | exact impl_TurnInForth.mono _ _ _ _
      | exact impl_TurnInRound.mono _ _ _ _
      | exact impl_TurnWheel.mono _ _ _ _ _ _
      | exact impl_WheelTurns.mono _ _ _
      | exact laws_aSame.mono _ _ _
      | exact laws_aTexts.mono _ _ _
      | exact spec_ForthCode.mono _ _ _ _
      | exact spec_ForthPart.mono _ _ _ _ _
      | exact spec_ForthRank.mono _ _ _ _
      | exact spec_RoundCode.mono _ _ _ _
      | exact spec_RoundPart.mono _ _ _ _ _
      | exact spec_RoundRank.mono _ _ _ _
      | exact spec_TurnInForth.mono _ _ _ _
      | exact spec_TurnInRound.mono _ _ _ _
      | exact spec_WheelTurns.mono _ _ _
      | exact LeO.none _
      | refine LeO.ite ?_ ?_
      | refine LeO.bind ?_ (fun _ => ?_)
    · intro y0 y1 y2 y3 y4 y5 y6 y7 y8
      unfold laws_FnOrdersTurnOfAll.l0
      repeat' first
      | (with_reducible exact ih0 _ _ _ _ _ _ _ _ _ _ _ _ _ _ _ _ _ _ _ _ _)
      | (with_reducible exact ih1 _ _ _ _ _ _ _ _ _)
      | (with_reducible exact ih2 _ _ _ _ _ _ _ _ _ _ _ _ _ _ _ _ _ _)
      | (with_reducible exact ih3 _ _ _ _ _ _ _ _ _ _ _)
      | (with_reducible exact ih4 _ _ _ _ _ _ _ _ _)
      | (with_reducible exact ih5 _ _ _ _)
      | (with_reducible exact ih6 _ _ _ _ _ _ _ _ _)
      | (with_reducible exact ih7 _ _ _ _ _ _ _ _ _ _ _ _ _ _ _ _ _)
      | (with_reducible exact impl_CountCodes.mono _ _ _)
      | (with_reducible exact impl_ForthCode.mono _ _ _ _)
      | (with_reducible exact impl_ForthPart.mono _ _ _ _ _)
      | (with_reducible exact impl_ForthRank.mono _ _ _ _)
      | (with_reducible exact impl_IsTurnOrder.mono _ _ _ _)
      | (with_reducible exact impl_RoundCode.mono _ _ _ _)
      | (with_reducible exact impl_RoundPart.mono _ _ _ _ _)
      | (with_reducible exact impl_RoundRank.mono _ _ _ _)
      | (with_reducible exact impl_TurnInForth.mono _ _ _ _)
      | (with_reducible exact impl_TurnInRound.mono _ _ _ _)
      | (with_reducible exact impl_TurnWheel.mono _ _ _ _ _ _)
      | (with_reducible exact impl_WheelTurns.mono _ _ _)
      | (with_reducible exact laws_aSame.mono _ _ _)
      | (with_reducible exact laws_aTexts.mono _ _ _)
      | (with_reducible exact spec_ForthCode.mono _ _ _ _)
      | (with_reducible exact spec_ForthPart.mono _ _ _ _ _)
      | (with_reducible exact spec_ForthRank.mono _ _ _ _)
      | (with_reducible exact spec_RoundCode.mono _ _ _ _)
      | (with_reducible exact spec_RoundPart.mono _ _ _ _ _)
      | (with_reducible exact spec_RoundRank.mono _ _ _ _)
      | (with_reducible exact spec_TurnInForth.mono _ _ _ _)
      | (with_reducible exact spec_TurnInRound.mono _ _ _ _)
      | (with_reducible exact spec_WheelTurns.mono _ _ _)
      | (with_reducible exact LeO.refl _)
      | (with_reducible exact LeO.none _)
      | (with_reducible refine LeO.ite ?_ ?_)
      | (with_reducible refine LeO.bind ?_ (fun _ => ?_))
      | exact ih0 _ _ _ _ _ _ _ _ _ _ _ _ _ _ _ _ _ _ _ _ _
      | exact ih1 _ _ _ _ _ _ _ _ _
      | exact ih2 _ _ _ _ _ _ _ _ _ _ _ _ _ _ _ _ _ _
      | exact ih3 _ _ _ _ _ _ _ _ _ _ _
      | exact ih4 _ _ _ _ _ _ _ _ _
      | exact ih5 _ _ _ _
      | exact ih6 _ _ _ _ _ _ _ _ _
      | exact ih7 _ _ _ _ _ _ _ _ _ _ _ _ _ _ _ _ _
      | exact impl_CountCodes.mono _ _ _
      | exact impl_ForthCode.mono _ _ _ _
      | exact impl_ForthPart.mono _ _ _ _ _
      | exact impl_ForthRank.mono _ _ _ _
      | exact impl_IsTurnOrder.mono _ _ _ _
      | exact impl_RoundCode.mono _ _ _ _
      | exact impl_RoundPart.mono _ _ _ _ _
      | exact impl_RoundRank.mono _ _ _ _
      | exact impl_TurnInForth.mono _ _ _ _
      | exact impl_TurnInRound.mono _ _ _ _
      | exact impl_TurnWheel.mono _ _ _ _ _ _
      | exact impl_WheelTurns.mono _ _ _
      | exact laws_aSame.mono _ _ _
      | exact laws_aTexts.mono _ _ _
      | exact spec_ForthCode.mono _ _ _ _
      | exact spec_ForthPart.mono _ _ _ _ _
      | exact spec_ForthRank.mono _ _ _ _
      | exact spec_RoundCode.mono _ _ _ _
      | exact spec_RoundPart.mono _ _ _ _ _
      | exact spec_RoundRank.mono _ _ _ _
      | exact spec_TurnInForth.mono _ _ _ _
      | exact spec_TurnInRound.mono _ _ _ _
      | exact spec_WheelTurns.mono _ _ _
      | exact LeO.none _
      | refine LeO.ite ?_ ?_
      | refine LeO.bind ?_ (fun _ => ?_)
    · intro y0 y1 y2 y3 y4 y5 y6 y7 y8 y9 y10 y11 y12 y13 y14 y15 y16
      unfold laws_FnOrdersTurnOfAll.j1
      repeat' first
      | (with_reducible exact ih0 _ _ _ _ _ _ _ _ _ _ _ _ _ _ _ _ _ _ _ _ _)
      | (with_reducible exact ih1 _ _ _ _ _ _ _ _ _)
      | (with_reducible exact ih2 _ _ _ _ _ _ _ _ _ _ _ _ _ _ _ _ _ _)
      | (with_reducible exact ih3 _ _ _ _ _ _ _ _ _ _ _)
      | (with_reducible exact ih4 _ _ _ _ _ _ _ _ _)
      | (with_reducible exact ih5 _ _ _ _)
      | (with_reducible exact ih6 _ _ _ _ _ _ _ _ _)
      | (with_reducible exact ih7 _ _ _ _ _ _ _ _ _ _ _ _ _ _ _ _ _)
      | (with_reducible exact impl_CountCodes.mono _ _ _)
      | (with_reducible exact impl_ForthCode.mono _ _ _ _)
      | (with_reducible exact impl_ForthPart.mono _ _ _ _ _)
      | (with_reducible exact impl_ForthRank.mono _ _ _ _)
      | (with_reducible exact impl_IsTurnOrder.mono _ _ _ _)
      | (with_reducible exact impl_RoundCode.mono _ _ _ _)
      | (with_reducible exact impl_RoundPart.mono _ _ _ _ _)
      | (with_reducible exact impl_RoundRank.mono _ _ _ _)
      | (with_reducible exact impl_TurnInForth.mono _ _ _ _)
      | (with_reducible exact impl_TurnInRound.mono _ _ _ _)
      | (with_reducible exact impl_TurnWheel.mono _ _ _ _ _ _)
      | (with_reducible exact impl_WheelTurns.mono _ _ _)
      | (with_reducible exact laws_aSame.mono _ _ _)
      | (with_reducible exact laws_aTexts.mono _ _ _)
      | (with_reducible exact spec_ForthCode.mono _ _ _ _)
      | (with_reducible exact spec_ForthPart.mono _ _ _ _ _)
      | (with_reducible exact spec_ForthRank.mono _ _ _ _)
      | (with_reducible exact spec_RoundCode.mono _ _ _ _)
      | (with_reducible exact spec_RoundPart.mono _ _ _ _ _)
      | (with_reducible exact spec_RoundRank.mono _ _ _ _)
      | (with_reducible exact spec_TurnInForth.mono _ _ _ _)
      | (with_reducible exact spec_TurnInRound.mono _ _ _ _)
      | (with_reducible exact spec_WheelTurns.mono _ _ _)
      | (with_reducible exact LeO.refl _)
      | (with_reducible exact LeO.none _)
      | (with_reducible refine LeO.ite ?_ ?_)
      | (with_reducible refine LeO.bind ?_ (fun _ => ?_))
      | exact ih0 _ _ _ _ _ _ _ _ _ _ _ _ _ _ _ _ _ _ _ _ _
      | exact ih1 _ _ _ _ _ _ _ _ _
      | exact ih2 _ _ _ _ _ _ _ _ _ _ _ _ _ _ _ _ _ _
      | exact ih3 _ _ _ _ _ _ _ _ _ _ _
      | exact ih4 _ _ _ _ _ _ _ _ _
      | exact ih5 _ _ _ _
      | exact ih6 _ _ _ _ _ _ _ _ _
      | exact ih7 _ _ _ _ _ _ _ _ _ _ _ _ _ _ _ _ _
      | exact impl_CountCodes.mono _ _ _
      | exact impl_ForthCode.mono _ _ _ _
      | exact impl_ForthPart.mono _ _ _ _ _
      | exact impl_ForthRank.mono _ _ _ _
      | exact impl_IsTurnOrder.mono _ _ _ _
      | exact impl_RoundCode.mono _ _ _ _
      | exact impl_RoundPart.mono _ _ _ _ _
      | exact impl_RoundRank.mono _ _ _ _
      | exact impl_TurnInForth.mono _ _ _ _
      | exact impl_TurnInRound.mono _ _ _ _
      | exact impl_TurnWheel.mono _ _ _ _ _ _
      | exact impl_WheelTurns.mono _ _ _
      | exact laws_aSame.mono _ _ _
      | exact laws_aTexts.mono _ _ _
      | exact spec_ForthCode.mono _ _ _ _
      | exact spec_ForthPart.mono _ _ _ _ _
      | exact spec_ForthRank.mono _ _ _ _
      | exact spec_RoundCode.mono _ _ _ _
      | exact spec_RoundPart.mono _ _ _ _ _
      | exact spec_RoundRank.mono _ _ _ _
      | exact spec_TurnInForth.mono _ _ _ _
      | exact spec_TurnInRound.mono _ _ _ _
      | exact spec_WheelTurns.mono _ _ _
      | exact LeO.none _
      | refine LeO.ite ?_ ?_
      | refine LeO.bind ?_ (fun _ => ?_)
theorem laws_FnOrdersTurnOfAll.mono : ∀ a0 a1 a2 a3 a4 a5 a6 a7 a8 a9 a10 a11 k, LeO (laws_FnOrdersTurnOfAll.f k a0 a1 a2 a3 a4 a5 a6 a7 a8 a9 a10 a11) (laws_FnOrdersTurnOfAll.f (k + 1) a0 a1 a2 a3 a4 a5 a6 a7 a8 a9 a10 a11) := by
  intro a0 a1 a2 a3 a4 a5 a6 a7 a8 a9 a10 a11 k
  obtain ⟨ih0, ih1, ih2, ih3, ih4, ih5, ih6, ih7⟩ := laws_FnOrdersTurnOfAll.mono_l k
  unfold laws_FnOrdersTurnOfAll.f
  repeat' first
      | (with_reducible exact ih0 _ _ _ _ _ _ _ _ _ _ _ _ _ _ _ _ _ _ _ _ _)
      | (with_reducible exact ih1 _ _ _ _ _ _ _ _ _)
      | (with_reducible exact ih2 _ _ _ _ _ _ _ _ _ _ _ _ _ _ _ _ _ _)
      | (with_reducible exact ih3 _ _ _ _ _ _ _ _ _ _ _)
      | (with_reducible exact ih4 _ _ _ _ _ _ _ _ _)
      | (with_reducible exact ih5 _ _ _ _)
      | (with_reducible exact ih6 _ _ _ _ _ _ _ _ _)
      | (with_reducible exact ih7 _ _ _ _ _ _ _ _ _ _ _ _ _ _ _ _ _)
      | (with_reducible exact impl_CountCodes.mono _ _ _)
      | (with_reducible exact impl_ForthCode.mono _ _ _ _)
      | (with_reducible exact impl_ForthPart.mono _ _ _ _ _)
      | (with_reducible exact impl_ForthRank.mono _ _ _ _)
      | (with_reducible exact impl_IsTurnOrder.mono _ _ _ _)
      | (with_reducible exact impl_RoundCode.mono _ _ _ _)
      | (with_reducible exact impl_RoundPart.mono _ _ _ _ _)
      | (with_reducible exact impl_RoundRank.mono _ _ _ _)
      | (with_reducible exact impl_TurnInForth.mono _ _ _ _)
      | (with_reducible exact impl_TurnInRound.mono _ _ _ _)
      | (with_reducible exact impl_TurnWheel.mono _ _ _ _ _ _)
      | (with_reducible exact impl_WheelTurns.mono _ _ _)
      | (with_reducible exact laws_aSame.mono _ _ _)
      | (with_reducible exact laws_aTexts.mono _ _ _)
      | (with_reducible exact spec_ForthCode.mono _ _ _ _)
      | (with_reducible exact spec_ForthPart.mono _ _ _ _ _)
      | (with_reducible exact spec_ForthRank.mono _ _ _ _)
      | (with_reducible exact spec_RoundCode.mono _ _ _ _)
      | (with_reducible exact spec_RoundPart.mono _ _ _ _ _)
      | (with_reducible exact spec_RoundRank.mono _ _ _ _)
      | (with_reducible exact spec_TurnInForth.mono _ _ _ _)
      | (with_reducible exact spec_TurnInRound.mono _ _ _ _)
      | (with_reducible exact spec_WheelTurns.mono _ _ _)
      | (with_reducible exact LeO.refl _)
      | (with_reducible exact LeO.none _)
      | (with_reducible refine LeO.ite ?_ ?_)
      | (with_reducible refine LeO.bind ?_ (fun _ => ?_))
      | exact ih0 _ _ _ _ _ _ _ _ _ _ _ _ _ _ _ _ _ _ _ _ _
      | exact ih1 _ _ _ _ _ _ _ _ _
      | exact ih2 _ _ _ _ _ _ _ _ _ _ _ _ _ _ _ _ _ _
      | exact ih3 _ _ _ _ _ _ _ _ _ _ _
      | exact ih4 _ _ _ _ _ _ _ _ _
      | exact ih5 _ _ _ _
      | exact ih6 _ _ _ _ _ _ _ _ _
      | exact ih7 _ _ _ _ _ _ _ _ _ _ _ _ _ _ _ _ _
      | exact impl_CountCodes.mono _ _ _
      | exact impl_ForthCode.mono _ _ _ _
      | exact impl_ForthPart.mono _ _ _ _ _
      | exact impl_ForthRank.mono _ _ _ _
      | exact impl_IsTurnOrder.mono _ _ _ _
      | exact impl_RoundCode.mono _ _ _ _
      | exact impl_RoundPart.mono _ _ _ _ _
      | exact impl_RoundRank.mono _ _ _ _
      | exact impl_TurnInForth.mono _ _ _ _
      | exact impl_TurnInRound.mono _ _ _ _
      | exact impl_TurnWheel.mono _ _ _ _ _ _
      | exact impl_WheelTurns.mono _ _ _
      | exact laws_aSame.mono _ _ _
      | exact laws_aTexts.mono _ _ _
      | exact spec_ForthCode.mono _ _ _ _
      | exact spec_ForthPart.mono _ _ _ _ _
      | exact spec_ForthRank.mono _ _ _ _
      | exact spec_RoundCode.mono _ _ _ _
      | exact spec_RoundPart.mono _ _ _ _ _
      | exact spec_RoundRank.mono _ _ _ _
      | exact spec_TurnInForth.mono _ _ _ _
      | exact spec_TurnInRound.mono _ _ _ _
      | exact spec_WheelTurns.mono _ _ _
      | exact LeO.none _
      | refine LeO.ite ?_ ?_
      | refine LeO.bind ?_ (fun _ => ?_)
def laws_FnOrdersTurnOfAll.T18 : Bool × List (List Nat × List Nat) := (true, [([], []), ([], []), ([1], [1]), ([], []), ([2, 3], [2, 3]), ([0, 4], [0, 4]), ([5], [5]), ([6], [6]), ([6], [6]), ([7, 5, 0, 1, 2, 3, 4, 5, 6, 7], [7]), ([8, 9, 0, 1, 2, 3, 4, 5, 6, 7, 8, 9], [8])])
def laws_FnOrdersTurnOfAll.B18 : List Nat := [0, 0, 2, 0, 14, 31, 63, 127, 127, 255, 1023]
theorem laws_FnOrdersTurnOfAll.tab18 : rtab .any (opsOf Try.f4 18) = laws_FnOrdersTurnOfAll.T18 := by kernel_rfl
theorem laws_FnOrdersTurnOfAll.bits18 : waitsOk laws_FnOrdersTurnOfAll.T18.2 laws_FnOrdersTurnOfAll.B18 = true := by kernel_rfl
def laws_FnOrdersTurnOfAll.T60 : Bool × List (List Nat × List Nat) := (true, [([], []), ([0], [0]), ([1], [1]), ([1], [1]), ([2, 3, 1], [1, 2, 3]), ([1, 4], [1, 4]), ([5, 1], [5]), ([6], [6]), ([7, 6], [6, 7]), ([6], [6]), ([9, 6], [6, 9]), ([8, 10, 6], [6, 8, 10]), ([6, 11], [6, 11]), ([12, 6], [12]), ([13], [13]), ([14, 13], [13, 14]), ([15, 13], [13, 15]), ([13], [13]), ([17, 13], [13, 17]), ([16, 18, 13], [13, 16, 18]), ([13, 19], [13, 19]), ([20, 13, 0, 1, 2, 3, 4, 5, 6, 7, 8, 9, 10, 11, 12, 13, 14, 15, 16, 17, 18, 19, 20], [20])])
def laws_FnOrdersTurnOfAll.B60 : List Nat := [0, 1, 3, 3, 15, 31, 63, 127, 255, 127, 639, 2047, 4095, 8191, 16383, 32767, 65535, 16383, 147455, 524287, 1048575, 2097151]
theorem laws_FnOrdersTurnOfAll.tab60 : rtab .any (opsOf Try.f4 60) = laws_FnOrdersTurnOfAll.T60 := by kernel_rfl
theorem laws_FnOrdersTurnOfAll.bits60 : waitsOk laws_FnOrdersTurnOfAll.T60.2 laws_FnOrdersTurnOfAll.B60 = true := by kernel_rfl
set_option maxHeartbeats 8000000 in
set_option maxRecDepth 100000 in
theorem laws_FnOrdersTurnOfAll.calls (k : Nat) (a0_0 : Int) (a0_1 : Int) (a1 : Int) (a2_0 : Int) (a2_1 : Int) (a3 : ByteArray) (a4_0 : Int) (a4_1 : Int) (a5 : Int) (a6 : Int) (a7_0 : Int) (a7_1 : Int) (r : Bool) (w : World) (h : laws_FnOrdersTurnOfAll.f k a0_0 a0_1 a1 a2_0 a2_1 a3 a4_0 a4_1 a5 a6 a7_0 a7_1 = some r) (hr_ : r = true := by rfl) :
    Calls Try.prog 4 #[.agg #[.int .i64 a0_0, .int .i64 a0_1], .int .i64 a1, .agg #[.int .i64 a2_0, .int .i64 a2_1], .string a3, .agg #[.int .i64 a4_0, .int .i64 a4_1], .int .i64 a5, .int .i64 a6, .agg #[.int .i64 a7_0, .int .i64 a7_1]] w fun e w' => e = .returned (.bool r) ∧ Below w.heap.size w w' := by
  have HRT := Aside0.mk hr_
  clear hr_
  have hu26 := Try.underlying26
  have hu32 := Try.underlying32
  have HB := Aside0.mk (Below.refl w.heap.size w)
  have H : (if (a3.size : Int) > 1048576 then (some true) else ((impl_RoundCode.f k a0_0 a0_1 a1).bind fun bt462 => ((spec_RoundCode.f k a0_0 a0_1 a1).bind fun bt464 => ((impl_ForthCode.f k a0_0 a0_1 a1).bind fun bt466 => ((spec_ForthCode.f k a0_0 a0_1 a1).bind fun bt468 => ((impl_TurnInRound.f k a0_0 a0_1 a1).bind fun bt470 => ((spec_TurnInRound.f k a0_0 a0_1 a1).bind fun bt474 => ((impl_TurnInForth.f k a0_0 a0_1 a1).bind fun bt478 => ((spec_TurnInForth.f k a0_0 a0_1 a1).bind fun bt482 => (if (bt462.2 != bt464.2) = true then (laws_FnOrdersTurnOfAll.j0 k a1 a3 a5 a6 bt462.1 bt462.2 bt466.1 bt478.2.2 true a0_0 a0_1 a2_0 a2_1 a4_0 a4_1 a7_0 a7_1 bt470.1 bt470.2.1 bt478.1 bt478.2.1) else (if bt462.1.toList = bt464.1.toList then (if (bt466.2 != bt468.2) = true then (laws_FnOrdersTurnOfAll.j0 k a1 a3 a5 a6 bt462.1 bt462.2 bt466.1 bt478.2.2 true a0_0 a0_1 a2_0 a2_1 a4_0 a4_1 a7_0 a7_1 bt470.1 bt470.2.1 bt478.1 bt478.2.1) else (if bt466.1.toList = bt468.1.toList then (if (bt470.2.2 != bt474.2.2) = true then (laws_FnOrdersTurnOfAll.j0 k a1 a3 a5 a6 bt462.1 bt462.2 bt466.1 bt478.2.2 true a0_0 a0_1 a2_0 a2_1 a4_0 a4_1 a7_0 a7_1 bt470.1 bt470.2.1 bt478.1 bt478.2.1) else (if (!(bt470.1 == bt474.1) || (!(bt470.2.1 == bt474.2.1))) = true then (laws_FnOrdersTurnOfAll.j0 k a1 a3 a5 a6 bt462.1 bt462.2 bt466.1 bt478.2.2 true a0_0 a0_1 a2_0 a2_1 a4_0 a4_1 a7_0 a7_1 bt470.1 bt470.2.1 bt478.1 bt478.2.1) else (if (bt478.2.2 != bt482.2.2) = true then (laws_FnOrdersTurnOfAll.j0 k a1 a3 a5 a6 bt462.1 bt462.2 bt466.1 bt478.2.2 true a0_0 a0_1 a2_0 a2_1 a4_0 a4_1 a7_0 a7_1 bt470.1 bt470.2.1 bt478.1 bt478.2.1) else (if (!(bt478.1 == bt482.1) || (!(bt478.2.1 == bt482.2.1))) = true then (laws_FnOrdersTurnOfAll.j0 k a1 a3 a5 a6 bt462.1 bt462.2 bt466.1 bt478.2.2 true a0_0 a0_1 a2_0 a2_1 a4_0 a4_1 a7_0 a7_1 bt470.1 bt470.2.1 bt478.1 bt478.2.1) else (if (bt466.2 != bt462.2) = true then (laws_FnOrdersTurnOfAll.j0 k a1 a3 a5 a6 bt462.1 bt462.2 bt466.1 bt478.2.2 true a0_0 a0_1 a2_0 a2_1 a4_0 a4_1 a7_0 a7_1 bt470.1 bt470.2.1 bt478.1 bt478.2.1) else (if (bt470.2.2 != bt462.2) = true then (laws_FnOrdersTurnOfAll.j0 k a1 a3 a5 a6 bt462.1 bt462.2 bt466.1 bt478.2.2 true a0_0 a0_1 a2_0 a2_1 a4_0 a4_1 a7_0 a7_1 bt470.1 bt470.2.1 bt478.1 bt478.2.1) else (if bt478.2.2 = true then (laws_FnOrdersTurnOfAll.j0 k a1 a3 a5 a6 bt462.1 bt462.2 bt466.1 bt478.2.2 (!bt462.2) a0_0 a0_1 a2_0 a2_1 a4_0 a4_1 a7_0 a7_1 bt470.1 bt470.2.1 bt478.1 bt478.2.1) else (laws_FnOrdersTurnOfAll.j0 k a1 a3 a5 a6 bt462.1 bt462.2 bt466.1 bt478.2.2 false a0_0 a0_1 a2_0 a2_1 a4_0 a4_1 a7_0 a7_1 bt470.1 bt470.2.1 bt478.1 bt478.2.1)))))))) else (laws_FnOrdersTurnOfAll.j0 k a1 a3 a5 a6 bt462.1 bt462.2 bt466.1 bt478.2.2 true a0_0 a0_1 a2_0 a2_1 a4_0 a4_1 a7_0 a7_1 bt470.1 bt470.2.1 bt478.1 bt478.2.1))) else (laws_FnOrdersTurnOfAll.j0 k a1 a3 a5 a6 bt462.1 bt462.2 bt466.1 bt478.2.2 true a0_0 a0_1 a2_0 a2_1 a4_0 a4_1 a7_0 a7_1 bt470.1 bt470.2.1 bt478.1 bt478.2.1)))))))))))) = some r := h
  clear h
  by_cases c9 : (a3.size : Int) > 1048576
  · rw [if_pos c9] at H
    have c9b0 : decide (1048576 < (a3.size : Int)) = true := decide_eq_true c9
    have c9b1 : decide (1048576 < a3.size) = true := decide_eq_true (by omega)
    clear c9
    obtain rfl := Option.some.inj H
    go_enter Try.func4, Try.ntmps4
    go_wp2_with (first | ((with_reducible refine gate_dst (N := 8) rfl ?_); (try (refine gate_guard (by rfl) ?_; dsimp only)); refine box_event ?hg (N := 8) ?hd (cs := #[.int .i64 a0_0, .int .i64 a0_1]) (t := 26) ?hr ?_; (case hd => rfl); (case hg => rfl); (case hr => first | (go_simp; done) | (go_simp; rfl)); intro gb458 hg w10 hbox hb; have n0_ := Aside0.mk (below_step (bB HB) hb); have n1_ := Aside0.mk (hbox); have n2_ := Aside0.mk ((by rw [hg]; exact (below_size (bB HB)) : w.heap.size ≤ gb458)); have n3_ := n2_; clear HB; have HB := n0_; have BK458 := n1_; have GW458 := n2_; have GE458 := n3_; clear n0_ n1_ n2_ n3_; clear hb hbox hg) | ((with_reducible refine gate_dst (N := 10) rfl ?_); (try (refine gate_guard (by rfl) ?_; dsimp only)); refine box_event ?hg (N := 10) ?hd (cs := #[.int .i64 a2_0, .int .i64 a2_1]) (t := 26) ?hr ?_; (case hd => rfl); (case hg => rfl); (case hr => first | (go_simp; done) | (go_simp; rfl)); intro gb459 hg w11 hbox hb; have n0_ := bbx hb BK458; have n1_ := Aside0.mk (below_step (bB HB) hb); have n2_ := Aside0.mk (hbox); have n3_ := Aside0.mk ((by rw [hg]; exact (below_size (bB HB)) : w.heap.size ≤ gb459)); have n4_ := Aside0.mk ((by rw [hg]; exact (below_size (bB HB)) : w.heap.size ≤ gb459)); have n5_ := Aside0.mk ((by rw [hg]; exact Nat.ne_of_lt (blk_lt (g := gb458) (o := .cells #[.int .i64 a0_0, .int .i64 a0_1] 26 (0, 0)) (bK BK458)) : gb458 ≠ gb459)); have n6_ := Aside0.mk ((by rw [hg]; exact Nat.ne_of_gt (blk_lt (g := gb458) (o := .cells #[.int .i64 a0_0, .int .i64 a0_1] 26 (0, 0)) (bK BK458)) : gb459 ≠ gb458)); clear BK458; clear HB; have BK458 := n0_; have HB := n1_; have BK459 := n2_; have GW459 := n3_; have GE459 := n4_; have NB458_459 := n5_; have NB459_458 := n6_; clear n0_ n1_ n2_ n3_ n4_ n5_ n6_; clear hb hbox hg) | ((with_reducible refine gate_dst (N := 12) rfl ?_); (try (refine gate_guard (by rfl) ?_; dsimp only)); refine box_event ?hg (N := 12) ?hd (cs := #[.int .i64 a4_0, .int .i64 a4_1]) (t := 26) ?hr ?_; (case hd => rfl); (case hg => rfl); (case hr => first | (go_simp; done) | (go_simp; rfl)); intro gb460 hg w12 hbox hb; have n0_ := bbx hb BK458; have n1_ := bbx hb BK459; have n2_ := Aside0.mk (below_step (bB HB) hb); have n3_ := Aside0.mk (hbox); have n4_ := Aside0.mk ((by rw [hg]; exact (below_size (bB HB)) : w.heap.size ≤ gb460)); have n5_ := Aside0.mk ((by rw [hg]; exact (below_size (bB HB)) : w.heap.size ≤ gb460)); have n6_ := Aside0.mk ((by rw [hg]; exact Nat.ne_of_lt (blk_lt (g := gb458) (o := .cells #[.int .i64 a0_0, .int .i64 a0_1] 26 (0, 0)) (bK BK458)) : gb458 ≠ gb460)); have n7_ := Aside0.mk ((by rw [hg]; exact Nat.ne_of_gt (blk_lt (g := gb458) (o := .cells #[.int .i64 a0_0, .int .i64 a0_1] 26 (0, 0)) (bK BK458)) : gb460 ≠ gb458)); have n8_ := Aside0.mk ((by rw [hg]; exact Nat.ne_of_lt (blk_lt (g := gb459) (o := .cells #[.int .i64 a2_0, .int .i64 a2_1] 26 (0, 0)) (bK BK459)) : gb459 ≠ gb460)); have n9_ := Aside0.mk ((by rw [hg]; exact Nat.ne_of_gt (blk_lt (g := gb459) (o := .cells #[.int .i64 a2_0, .int .i64 a2_1] 26 (0, 0)) (bK BK459)) : gb460 ≠ gb459)); clear BK458; clear BK459; clear HB; have BK458 := n0_; have BK459 := n1_; have HB := n2_; have BK460 := n3_; have GW460 := n4_; have GE460 := n5_; have NB458_460 := n6_; have NB460_458 := n7_; have NB459_460 := n8_; have NB460_459 := n9_; clear n0_ n1_ n2_ n3_ n4_ n5_ n6_ n7_ n8_ n9_; clear hb hbox hg) | ((with_reducible refine gate_dst (N := 15) rfl ?_); (try (refine gate_guard (by rfl) ?_; dsimp only)); refine box_event ?hg (N := 15) ?hd (cs := #[.int .i64 a7_0, .int .i64 a7_1]) (t := 26) ?hr ?_; (case hd => rfl); (case hg => rfl); (case hr => first | (go_simp; done) | (go_simp; rfl)); intro gb461 hg w13 hbox hb; have n0_ := bbx hb BK458; have n1_ := bbx hb BK459; have n2_ := bbx hb BK460; have n3_ := Aside0.mk (below_step (bB HB) hb); have n4_ := Aside0.mk (hbox); have n5_ := Aside0.mk ((by rw [hg]; exact (below_size (bB HB)) : w.heap.size ≤ gb461)); have n6_ := Aside0.mk ((by rw [hg]; exact (below_size (bB HB)) : w.heap.size ≤ gb461)); have n7_ := Aside0.mk ((by rw [hg]; exact Nat.ne_of_lt (blk_lt (g := gb458) (o := .cells #[.int .i64 a0_0, .int .i64 a0_1] 26 (0, 0)) (bK BK458)) : gb458 ≠ gb461)); have n8_ := Aside0.mk ((by rw [hg]; exact Nat.ne_of_gt (blk_lt (g := gb458) (o := .cells #[.int .i64 a0_0, .int .i64 a0_1] 26 (0, 0)) (bK BK458)) : gb461 ≠ gb458)); have n9_ := Aside0.mk ((by rw [hg]; exact Nat.ne_of_lt (blk_lt (g := gb459) (o := .cells #[.int .i64 a2_0, .int .i64 a2_1] 26 (0, 0)) (bK BK459)) : gb459 ≠ gb461)); have n10_ := Aside0.mk ((by rw [hg]; exact Nat.ne_of_gt (blk_lt (g := gb459) (o := .cells #[.int .i64 a2_0, .int .i64 a2_1] 26 (0, 0)) (bK BK459)) : gb461 ≠ gb459)); have n11_ := Aside0.mk ((by rw [hg]; exact Nat.ne_of_lt (blk_lt (g := gb460) (o := .cells #[.int .i64 a4_0, .int .i64 a4_1] 26 (0, 0)) (bK BK460)) : gb460 ≠ gb461)); have n12_ := Aside0.mk ((by rw [hg]; exact Nat.ne_of_gt (blk_lt (g := gb460) (o := .cells #[.int .i64 a4_0, .int .i64 a4_1] 26 (0, 0)) (bK BK460)) : gb461 ≠ gb460)); clear BK458; clear BK459; clear BK460; clear HB; have BK458 := n0_; have BK459 := n1_; have BK460 := n2_; have HB := n3_; have BK461 := n4_; have GW461 := n5_; have GE461 := n6_; have NB458_461 := n7_; have NB461_458 := n8_; have NB459_461 := n9_; have NB461_459 := n10_; have NB460_461 := n11_; have NB461_460 := n12_; clear n0_ n1_ n2_ n3_ n4_ n5_ n6_ n7_ n8_ n9_ n10_ n11_ n12_; clear hb hbox hg))
    go_ret
    exact ⟨by first | rfl | (simp [errW_none, errW_some] <;> rfl) | (simp [*, errW_none, errW_some] <;> rfl), bB HB⟩
  rw [if_neg c9] at H
  have c9b0 : decide (1048576 < (a3.size : Int)) = false := decide_eq_false c9
  have c9b1 : decide (1048576 < a3.size) = false := decide_eq_false (by omega)
  clear c9
  replace H := Option.bind_eq_some_iff.mp H
  obtain ⟨⟨t462, t463⟩, A140, H⟩ := H
  try dsimp only at H
  have A14 := Aside0.mk A140
  clear A140
  replace H := Option.bind_eq_some_iff.mp H
  obtain ⟨⟨t464, t465⟩, A150, H⟩ := H
  try dsimp only at H
  have A15 := Aside0.mk A150
  clear A150
  replace H := Option.bind_eq_some_iff.mp H
  obtain ⟨⟨t466, t467⟩, A160, H⟩ := H
  try dsimp only at H
  have A16 := Aside0.mk A160
  clear A160
  replace H := Option.bind_eq_some_iff.mp H
  obtain ⟨⟨t468, t469⟩, A170, H⟩ := H
  try dsimp only at H
  have A17 := Aside0.mk A170
  clear A170
  replace H := Option.bind_eq_some_iff.mp H
  obtain ⟨⟨t470, t471, t472⟩, A180, H⟩ := H
  try dsimp only at H
  have A18 := Aside0.mk A180
  clear A180
  replace H := Option.bind_eq_some_iff.mp H
  obtain ⟨⟨t474, t475, t476⟩, A190, H⟩ := H
  try dsimp only at H
  have A19 := Aside0.mk A190
  clear A190
  replace H := Option.bind_eq_some_iff.mp H
  obtain ⟨⟨t478, t479, t480⟩, A200, H⟩ := H
  try dsimp only at H
  have A20 := Aside0.mk A200
  clear A200
  replace H := Option.bind_eq_some_iff.mp H
  obtain ⟨⟨t482, t483, t484⟩, A210, H⟩ := H
  try dsimp only at H
  have A21 := Aside0.mk A210
  clear A210
  have HC22 := Aside0.mk H
  clear H
  go_enter Try.func4, Try.ntmps4
  go_upto_region 11 with (first | ((with_reducible refine gate_dst (N := 8) rfl ?_); (try (refine gate_guard (by rfl) ?_; dsimp only)); refine box_event ?hg (N := 8) ?hd (cs := #[.int .i64 a0_0, .int .i64 a0_1]) (t := 26) ?hr ?_; (case hd => rfl); (case hg => rfl); (case hr => first | (go_simp; done) | (go_simp; rfl)); intro gb458 hg w23 hbox hb; have n0_ := Aside0.mk (below_step (bB HB) hb); have n1_ := Aside0.mk (hbox); have n2_ := Aside0.mk ((by rw [hg]; exact (below_size (bB HB)) : w.heap.size ≤ gb458)); have n3_ := n2_; clear HB; have HB := n0_; have BK458 := n1_; have GW458 := n2_; have GE458 := n3_; clear n0_ n1_ n2_ n3_; clear hb hbox hg) | ((with_reducible refine gate_dst (N := 10) rfl ?_); (try (refine gate_guard (by rfl) ?_; dsimp only)); refine box_event ?hg (N := 10) ?hd (cs := #[.int .i64 a2_0, .int .i64 a2_1]) (t := 26) ?hr ?_; (case hd => rfl); (case hg => rfl); (case hr => first | (go_simp; done) | (go_simp; rfl)); intro gb459 hg w24 hbox hb; have n0_ := bbx hb BK458; have n1_ := Aside0.mk (below_step (bB HB) hb); have n2_ := Aside0.mk (hbox); have n3_ := Aside0.mk ((by rw [hg]; exact (below_size (bB HB)) : w.heap.size ≤ gb459)); have n4_ := Aside0.mk ((by rw [hg]; exact (below_size (bB HB)) : w.heap.size ≤ gb459)); have n5_ := Aside0.mk ((by rw [hg]; exact Nat.ne_of_lt (blk_lt (g := gb458) (o := .cells #[.int .i64 a0_0, .int .i64 a0_1] 26 (0, 0)) (bK BK458)) : gb458 ≠ gb459)); have n6_ := Aside0.mk ((by rw [hg]; exact Nat.ne_of_gt (blk_lt (g := gb458) (o := .cells #[.int .i64 a0_0, .int .i64 a0_1] 26 (0, 0)) (bK BK458)) : gb459 ≠ gb458)); clear BK458; clear HB; have BK458 := n0_; have HB := n1_; have BK459 := n2_; have GW459 := n3_; have GE459 := n4_; have NB458_459 := n5_; have NB459_458 := n6_; clear n0_ n1_ n2_ n3_ n4_ n5_ n6_; clear hb hbox hg) | ((with_reducible refine gate_dst (N := 12) rfl ?_); (try (refine gate_guard (by rfl) ?_; dsimp only)); refine box_event ?hg (N := 12) ?hd (cs := #[.int .i64 a4_0, .int .i64 a4_1]) (t := 26) ?hr ?_; (case hd => rfl); (case hg => rfl); (case hr => first | (go_simp; done) | (go_simp; rfl)); intro gb460 hg w25 hbox hb; have n0_ := bbx hb BK458; have n1_ := bbx hb BK459; have n2_ := Aside0.mk (below_step (bB HB) hb); have n3_ := Aside0.mk (hbox); have n4_ := Aside0.mk ((by rw [hg]; exact (below_size (bB HB)) : w.heap.size ≤ gb460)); have n5_ := Aside0.mk ((by rw [hg]; exact (below_size (bB HB)) : w.heap.size ≤ gb460)); have n6_ := Aside0.mk ((by rw [hg]; exact Nat.ne_of_lt (blk_lt (g := gb458) (o := .cells #[.int .i64 a0_0, .int .i64 a0_1] 26 (0, 0)) (bK BK458)) : gb458 ≠ gb460)); have n7_ := Aside0.mk ((by rw [hg]; exact Nat.ne_of_gt (blk_lt (g := gb458) (o := .cells #[.int .i64 a0_0, .int .i64 a0_1] 26 (0, 0)) (bK BK458)) : gb460 ≠ gb458)); have n8_ := Aside0.mk ((by rw [hg]; exact Nat.ne_of_lt (blk_lt (g := gb459) (o := .cells #[.int .i64 a2_0, .int .i64 a2_1] 26 (0, 0)) (bK BK459)) : gb459 ≠ gb460)); have n9_ := Aside0.mk ((by rw [hg]; exact Nat.ne_of_gt (blk_lt (g := gb459) (o := .cells #[.int .i64 a2_0, .int .i64 a2_1] 26 (0, 0)) (bK BK459)) : gb460 ≠ gb459)); clear BK458; clear BK459; clear HB; have BK458 := n0_; have BK459 := n1_; have HB := n2_; have BK460 := n3_; have GW460 := n4_; have GE460 := n5_; have NB458_460 := n6_; have NB460_458 := n7_; have NB459_460 := n8_; have NB460_459 := n9_; clear n0_ n1_ n2_ n3_ n4_ n5_ n6_ n7_ n8_ n9_; clear hb hbox hg) | ((with_reducible refine gate_dst (N := 15) rfl ?_); (try (refine gate_guard (by rfl) ?_; dsimp only)); refine box_event ?hg (N := 15) ?hd (cs := #[.int .i64 a7_0, .int .i64 a7_1]) (t := 26) ?hr ?_; (case hd => rfl); (case hg => rfl); (case hr => first | (go_simp; done) | (go_simp; rfl)); intro gb461 hg w26 hbox hb; have n0_ := bbx hb BK458; have n1_ := bbx hb BK459; have n2_ := bbx hb BK460; have n3_ := Aside0.mk (below_step (bB HB) hb); have n4_ := Aside0.mk (hbox); have n5_ := Aside0.mk ((by rw [hg]; exact (below_size (bB HB)) : w.heap.size ≤ gb461)); have n6_ := Aside0.mk ((by rw [hg]; exact (below_size (bB HB)) : w.heap.size ≤ gb461)); have n7_ := Aside0.mk ((by rw [hg]; exact Nat.ne_of_lt (blk_lt (g := gb458) (o := .cells #[.int .i64 a0_0, .int .i64 a0_1] 26 (0, 0)) (bK BK458)) : gb458 ≠ gb461)); have n8_ := Aside0.mk ((by rw [hg]; exact Nat.ne_of_gt (blk_lt (g := gb458) (o := .cells #[.int .i64 a0_0, .int .i64 a0_1] 26 (0, 0)) (bK BK458)) : gb461 ≠ gb458)); have n9_ := Aside0.mk ((by rw [hg]; exact Nat.ne_of_lt (blk_lt (g := gb459) (o := .cells #[.int .i64 a2_0, .int .i64 a2_1] 26 (0, 0)) (bK BK459)) : gb459 ≠ gb461)); have n10_ := Aside0.mk ((by rw [hg]; exact Nat.ne_of_gt (blk_lt (g := gb459) (o := .cells #[.int .i64 a2_0, .int .i64 a2_1] 26 (0, 0)) (bK BK459)) : gb461 ≠ gb459)); have n11_ := Aside0.mk ((by rw [hg]; exact Nat.ne_of_lt (blk_lt (g := gb460) (o := .cells #[.int .i64 a4_0, .int .i64 a4_1] 26 (0, 0)) (bK BK460)) : gb460 ≠ gb461)); have n12_ := Aside0.mk ((by rw [hg]; exact Nat.ne_of_gt (blk_lt (g := gb460) (o := .cells #[.int .i64 a4_0, .int .i64 a4_1] 26 (0, 0)) (bK BK460)) : gb461 ≠ gb460)); clear BK458; clear BK459; clear BK460; clear HB; have BK458 := n0_; have BK459 := n1_; have BK460 := n2_; have HB := n3_; have BK461 := n4_; have GW461 := n5_; have GE461 := n6_; have NB458_461 := n7_; have NB461_458 := n8_; have NB459_461 := n9_; have NB461_459 := n10_; have NB460_461 := n11_; have NB461_460 := n12_; clear n0_ n1_ n2_ n3_ n4_ n5_ n6_ n7_ n8_ n9_ n10_ n11_ n12_; clear hb hbox hg; have hnb27 := eq_false NB458_459.out; have hnc27 := eq_false NB459_458.out; have hnb28 := eq_false NB458_460.out; have hnc28 := eq_false NB460_458.out; have hnb29 := eq_false NB458_461.out; have hnc29 := eq_false NB461_458.out; have hcz30_0 : w26.cell? ⟨gb458, 0, none⟩ = some (.int .i64 a0_0) := (blk_cell BK458.out 0).trans rfl; have hcz30_1 : w26.cell? ⟨gb458, 1, none⟩ = some (.int .i64 a0_1) := (blk_cell BK458.out 1).trans rfl; have hfz30_0 := blk_frozen BK458.out 0; have hfz30_1 := blk_frozen BK458.out 1) | ((with_reducible refine gate_callee (f := 9) rfl ?_); refine goesL_ (some 88) rfl rfl Try.func9 (by kernel_rfl) rfl #[.agg #[.int .i64 a0_0, .int .i64 a0_1], .int .i64 a1] rfl (by (try simp only [m_1, m_2, m_3]); first | done | rfl | (simp only [m_4, m_5]; rfl)) ?_; (with_reducible refine (impl_RoundCode.calls k a0_0 a0_1 a1 t462 t463 _ A14.out).mono ?_); rintro e w31 ⟨rfl, hb⟩; refine ⟨_, rfl, ?_⟩; have n0_ := bbx hb BK458; have n1_ := bbx hb BK459; have n2_ := bbx hb BK460; have n3_ := bbx hb BK461; have n4_ := Aside0.mk (below_step (bB HB) hb); clear BK458; clear BK459; clear BK460; clear BK461; clear HB; have BK458 := n0_; have BK459 := n1_; have BK460 := n2_; have BK461 := n3_; have HB := n4_; clear n0_ n1_ n2_ n3_ n4_; (try clear hb); (try clear hb2); (try clear hk); (try clear hi); have hcz32_0 : w31.cell? ⟨gb458, 0, none⟩ = some (.int .i64 a0_0) := (blk_cell BK458.out 0).trans rfl; have hcz32_1 : w31.cell? ⟨gb458, 1, none⟩ = some (.int .i64 a0_1) := (blk_cell BK458.out 1).trans rfl; have hfz32_0 := blk_frozen BK458.out 0; have hfz32_1 := blk_frozen BK458.out 1) | ((with_reducible refine gate_callee (f := 10) rfl ?_); refine goesL_ (some 94) rfl rfl Try.func10 (by kernel_rfl) rfl #[.agg #[.int .i64 a0_0, .int .i64 a0_1], .int .i64 a1] rfl (by (try simp only [m_1, m_2, m_3]); first | done | rfl | (simp only [m_4, m_5]; rfl)) ?_; (with_reducible refine (spec_RoundCode.calls k a0_0 a0_1 a1 t464 t465 _ A15.out).mono ?_); rintro e w33 ⟨rfl, hb⟩; refine ⟨_, rfl, ?_⟩; have n0_ := bbx hb BK458; have n1_ := bbx hb BK459; have n2_ := bbx hb BK460; have n3_ := bbx hb BK461; have n4_ := Aside0.mk (below_step (bB HB) hb); clear BK458; clear BK459; clear BK460; clear BK461; clear HB; have BK458 := n0_; have BK459 := n1_; have BK460 := n2_; have BK461 := n3_; have HB := n4_; clear n0_ n1_ n2_ n3_ n4_; (try clear hb); (try clear hb2); (try clear hk); (try clear hi); have hcz34_0 : w33.cell? ⟨gb458, 0, none⟩ = some (.int .i64 a0_0) := (blk_cell BK458.out 0).trans rfl; have hcz34_1 : w33.cell? ⟨gb458, 1, none⟩ = some (.int .i64 a0_1) := (blk_cell BK458.out 1).trans rfl; have hfz34_0 := blk_frozen BK458.out 0; have hfz34_1 := blk_frozen BK458.out 1) | ((with_reducible refine gate_callee (f := 11) rfl ?_); refine goesL_ (some 100) rfl rfl Try.func11 (by kernel_rfl) rfl #[.agg #[.int .i64 a0_0, .int .i64 a0_1], .int .i64 a1] rfl (by (try simp only [m_1, m_2, m_3]); first | done | rfl | (simp only [m_4, m_5]; rfl)) ?_; (with_reducible refine (impl_ForthCode.calls k a0_0 a0_1 a1 t466 t467 _ A16.out).mono ?_); rintro e w35 ⟨rfl, hb⟩; refine ⟨_, rfl, ?_⟩; have n0_ := bbx hb BK458; have n1_ := bbx hb BK459; have n2_ := bbx hb BK460; have n3_ := bbx hb BK461; have n4_ := Aside0.mk (below_step (bB HB) hb); clear BK458; clear BK459; clear BK460; clear BK461; clear HB; have BK458 := n0_; have BK459 := n1_; have BK460 := n2_; have BK461 := n3_; have HB := n4_; clear n0_ n1_ n2_ n3_ n4_; (try clear hb); (try clear hb2); (try clear hk); (try clear hi); have hcz36_0 : w35.cell? ⟨gb458, 0, none⟩ = some (.int .i64 a0_0) := (blk_cell BK458.out 0).trans rfl; have hcz36_1 : w35.cell? ⟨gb458, 1, none⟩ = some (.int .i64 a0_1) := (blk_cell BK458.out 1).trans rfl; have hfz36_0 := blk_frozen BK458.out 0; have hfz36_1 := blk_frozen BK458.out 1) | ((with_reducible refine gate_callee (f := 12) rfl ?_); refine goesL_ (some 106) rfl rfl Try.func12 (by kernel_rfl) rfl #[.agg #[.int .i64 a0_0, .int .i64 a0_1], .int .i64 a1] rfl (by (try simp only [m_1, m_2, m_3]); first | done | rfl | (simp only [m_4, m_5]; rfl)) ?_; (with_reducible refine (spec_ForthCode.calls k a0_0 a0_1 a1 t468 t469 _ A17.out).mono ?_); rintro e w37 ⟨rfl, hb⟩; refine ⟨_, rfl, ?_⟩; have n0_ := bbx hb BK458; have n1_ := bbx hb BK459; have n2_ := bbx hb BK460; have n3_ := bbx hb BK461; have n4_ := Aside0.mk (below_step (bB HB) hb); clear BK458; clear BK459; clear BK460; clear BK461; clear HB; have BK458 := n0_; have BK459 := n1_; have BK460 := n2_; have BK461 := n3_; have HB := n4_; clear n0_ n1_ n2_ n3_ n4_; (try clear hb); (try clear hb2); (try clear hk); (try clear hi); have hcz38_0 : w37.cell? ⟨gb458, 0, none⟩ = some (.int .i64 a0_0) := (blk_cell BK458.out 0).trans rfl; have hcz38_1 : w37.cell? ⟨gb458, 1, none⟩ = some (.int .i64 a0_1) := (blk_cell BK458.out 1).trans rfl; have hfz38_0 := blk_frozen BK458.out 0; have hfz38_1 := blk_frozen BK458.out 1) | ((with_reducible refine gate_callee (f := 13) rfl ?_); refine goesL_ (some 112) rfl rfl Try.func13 (by kernel_rfl) rfl #[.agg #[.int .i64 a0_0, .int .i64 a0_1], .int .i64 a1] rfl (by (try simp only [m_1, m_2, m_3]); first | done | rfl | (simp only [m_4, m_5]; rfl)) ?_; (with_reducible refine (impl_TurnInRound.calls k a0_0 a0_1 a1 t470 t471 t472 _ A18.out).mono ?_); rintro e w39 ⟨rfl, hb⟩; refine ⟨_, rfl, ?_⟩; have n0_ := bbx hb BK458; have n1_ := bbx hb BK459; have n2_ := bbx hb BK460; have n3_ := bbx hb BK461; have n4_ := Aside0.mk (below_step (bB HB) hb); clear BK458; clear BK459; clear BK460; clear BK461; clear HB; have BK458 := n0_; have BK459 := n1_; have BK460 := n2_; have BK461 := n3_; have HB := n4_; clear n0_ n1_ n2_ n3_ n4_; (try clear hb); (try clear hb2); (try clear hk); (try clear hi)) | ((with_reducible refine gate_dst (N := 25) rfl ?_); (try (refine gate_guard (by rfl) ?_; dsimp only)); refine box_event ?hg (N := 25) ?hd (cs := #[.int .i64 0, .int .i64 0]) (t := 32) ?hr ?_; (case hd => rfl); (case hg => rfl); (case hr => first | (go_simp; done) | (go_simp; rfl)); intro gb473 hg w40 hbox hb; have n0_ := bbx hb BK458; have n1_ := bbx hb BK459; have n2_ := bbx hb BK460; have n3_ := bbx hb BK461; have n4_ := Aside0.mk (below_step (bB HB) hb); have n5_ := Aside0.mk (hbox); have n6_ := Aside0.mk ((by rw [hg]; exact (below_size (bB HB)) : w.heap.size ≤ gb473)); have n7_ := Aside0.mk ((by rw [hg]; exact (below_size (bB HB)) : w.heap.size ≤ gb473)); have n8_ := Aside0.mk ((by rw [hg]; exact Nat.ne_of_lt (blk_lt (g := gb458) (o := .cells #[.int .i64 a0_0, .int .i64 a0_1] 26 (0, 0)) (bK BK458)) : gb458 ≠ gb473)); have n9_ := Aside0.mk ((by rw [hg]; exact Nat.ne_of_gt (blk_lt (g := gb458) (o := .cells #[.int .i64 a0_0, .int .i64 a0_1] 26 (0, 0)) (bK BK458)) : gb473 ≠ gb458)); have n10_ := Aside0.mk ((by rw [hg]; exact Nat.ne_of_lt (blk_lt (g := gb459) (o := .cells #[.int .i64 a2_0, .int .i64 a2_1] 26 (0, 0)) (bK BK459)) : gb459 ≠ gb473)); have n11_ := Aside0.mk ((by rw [hg]; exact Nat.ne_of_gt (blk_lt (g := gb459) (o := .cells #[.int .i64 a2_0, .int .i64 a2_1] 26 (0, 0)) (bK BK459)) : gb473 ≠ gb459)); have n12_ := Aside0.mk ((by rw [hg]; exact Nat.ne_of_lt (blk_lt (g := gb460) (o := .cells #[.int .i64 a4_0, .int .i64 a4_1] 26 (0, 0)) (bK BK460)) : gb460 ≠ gb473)); have n13_ := Aside0.mk ((by rw [hg]; exact Nat.ne_of_gt (blk_lt (g := gb460) (o := .cells #[.int .i64 a4_0, .int .i64 a4_1] 26 (0, 0)) (bK BK460)) : gb473 ≠ gb460)); have n14_ := Aside0.mk ((by rw [hg]; exact Nat.ne_of_lt (blk_lt (g := gb461) (o := .cells #[.int .i64 a7_0, .int .i64 a7_1] 26 (0, 0)) (bK BK461)) : gb461 ≠ gb473)); have n15_ := Aside0.mk ((by rw [hg]; exact Nat.ne_of_gt (blk_lt (g := gb461) (o := .cells #[.int .i64 a7_0, .int .i64 a7_1] 26 (0, 0)) (bK BK461)) : gb473 ≠ gb461)); clear BK458; clear BK459; clear BK460; clear BK461; clear HB; have BK458 := n0_; have BK459 := n1_; have BK460 := n2_; have BK461 := n3_; have HB := n4_; have BK473 := n5_; have GW473 := n6_; have GE473 := n7_; have NB458_473 := n8_; have NB473_458 := n9_; have NB459_473 := n10_; have NB473_459 := n11_; have NB460_473 := n12_; have NB473_460 := n13_; have NB461_473 := n14_; have NB473_461 := n15_; clear n0_ n1_ n2_ n3_ n4_ n5_ n6_ n7_ n8_ n9_ n10_ n11_ n12_ n13_ n14_ n15_; clear hb hbox hg; have hnb41 := eq_false NB473_458.out; have hnc41 := eq_false NB458_473.out; have hnb42 := eq_false NB473_459.out; have hnc42 := eq_false NB459_473.out; have hnb43 := eq_false NB473_460.out; have hnc43 := eq_false NB460_473.out; have hnb44 := eq_false NB473_461.out; have hnc44 := eq_false NB461_473.out; have hcz45_0 : w40.cell? ⟨gb473, 0, none⟩ = some (.int .i64 0) := (blk_cell BK473.out 0).trans rfl; have hcz45_1 : w40.cell? ⟨gb473, 1, none⟩ = some (.int .i64 0) := (blk_cell BK473.out 1).trans rfl; have hfz45_0 := blk_frozen BK473.out 0; have hfz45_1 := blk_frozen BK473.out 1; have hcz46_0 : w40.cell? ⟨gb458, 0, none⟩ = some (.int .i64 a0_0) := (blk_cell BK458.out 0).trans rfl; have hcz46_1 : w40.cell? ⟨gb458, 1, none⟩ = some (.int .i64 a0_1) := (blk_cell BK458.out 1).trans rfl; have hfz46_0 := blk_frozen BK458.out 0; have hfz46_1 := blk_frozen BK458.out 1) | ((with_reducible refine gate_callee (f := 14) rfl ?_); refine goesL_ (some 118) rfl rfl Try.func14 (by kernel_rfl) rfl #[.agg #[.int .i64 a0_0, .int .i64 a0_1], .int .i64 a1] rfl (by (try simp only [m_1, m_2, m_3]); first | done | rfl | (simp only [m_4, m_5]; rfl)) ?_; (with_reducible refine (spec_TurnInRound.calls k a0_0 a0_1 a1 t474 t475 t476 _ A19.out).mono ?_); rintro e w47 ⟨rfl, hb⟩; refine ⟨_, rfl, ?_⟩; have n0_ := Aside0.mk (blk_below (g := gb458) (o := .cells #[.int .i64 a0_0, .int .i64 a0_1] 26 (0, 0)) (bF) hb); have n1_ := Aside0.mk (blk_below (g := gb459) (o := .cells #[.int .i64 a2_0, .int .i64 a2_1] 26 (0, 0)) (bF) hb); have n2_ := Aside0.mk (blk_below (g := gb460) (o := .cells #[.int .i64 a4_0, .int .i64 a4_1] 26 (0, 0)) (bF) hb); have n3_ := Aside0.mk (blk_below (g := gb461) (o := .cells #[.int .i64 a7_0, .int .i64 a7_1] 26 (0, 0)) (bF) hb); have n4_ := Aside0.mk (blk_below (g := gb473) (o := .cells #[.int .i64 t470, .int .i64 t471] 32 (0, 0)) (by (with_reducible repeat (first | refine g_d ?_ _ | refine g_e ?_ | refine g_a ?_ _)); refine blk_put (cs := #[.int .i64 t470, .int .i64 0]) ?_ 1 _ rfl; (with_reducible repeat (first | refine g_d ?_ _ | refine g_e ?_ | refine g_a ?_ _)); refine blk_put (cs := #[.int .i64 0, .int .i64 0]) ?_ 0 _ rfl; (with_reducible repeat (first | refine g_d ?_ _ | refine g_e ?_ | refine g_a ?_ _)); exact BK473.out) hb); have n5_ := Aside0.mk (below_step (bB HB) hb); clear BK458; clear BK459; clear BK460; clear BK461; clear BK473; clear HB; have BK458 := n0_; have BK459 := n1_; have BK460 := n2_; have BK461 := n3_; have BK473 := n4_; have HB := n5_; clear n0_ n1_ n2_ n3_ n4_ n5_; (try clear hb); (try clear hb2); (try clear hk); (try clear hi)) | ((with_reducible refine gate_dst (N := 27) rfl ?_); (try (refine gate_guard (by rfl) ?_; dsimp only)); refine box_event ?hg (N := 27) ?hd (cs := #[.int .i64 0, .int .i64 0]) (t := 32) ?hr ?_; (case hd => rfl); (case hg => rfl); (case hr => first | (go_simp; done) | (go_simp; rfl)); intro gb477 hg w48 hbox hb; have n0_ := bbx hb BK458; have n1_ := bbx hb BK459; have n2_ := bbx hb BK460; have n3_ := bbx hb BK461; have n4_ := bbx hb BK473; have n5_ := Aside0.mk (below_step (bB HB) hb); have n6_ := Aside0.mk (hbox); have n7_ := Aside0.mk ((by rw [hg]; exact (below_size (bB HB)) : w.heap.size ≤ gb477)); have n8_ := Aside0.mk ((by rw [hg]; exact (below_size (bB HB)) : w.heap.size ≤ gb477)); have n9_ := Aside0.mk ((by rw [hg]; exact Nat.ne_of_lt (blk_lt (g := gb458) (o := .cells #[.int .i64 a0_0, .int .i64 a0_1] 26 (0, 0)) (bK BK458)) : gb458 ≠ gb477)); have n10_ := Aside0.mk ((by rw [hg]; exact Nat.ne_of_gt (blk_lt (g := gb458) (o := .cells #[.int .i64 a0_0, .int .i64 a0_1] 26 (0, 0)) (bK BK458)) : gb477 ≠ gb458)); have n11_ := Aside0.mk ((by rw [hg]; exact Nat.ne_of_lt (blk_lt (g := gb459) (o := .cells #[.int .i64 a2_0, .int .i64 a2_1] 26 (0, 0)) (bK BK459)) : gb459 ≠ gb477)); have n12_ := Aside0.mk ((by rw [hg]; exact Nat.ne_of_gt (blk_lt (g := gb459) (o := .cells #[.int .i64 a2_0, .int .i64 a2_1] 26 (0, 0)) (bK BK459)) : gb477 ≠ gb459)); have n13_ := Aside0.mk ((by rw [hg]; exact Nat.ne_of_lt (blk_lt (g := gb460) (o := .cells #[.int .i64 a4_0, .int .i64 a4_1] 26 (0, 0)) (bK BK460)) : gb460 ≠ gb477)); have n14_ := Aside0.mk ((by rw [hg]; exact Nat.ne_of_gt (blk_lt (g := gb460) (o := .cells #[.int .i64 a4_0, .int .i64 a4_1] 26 (0, 0)) (bK BK460)) : gb477 ≠ gb460)); have n15_ := Aside0.mk ((by rw [hg]; exact Nat.ne_of_lt (blk_lt (g := gb461) (o := .cells #[.int .i64 a7_0, .int .i64 a7_1] 26 (0, 0)) (bK BK461)) : gb461 ≠ gb477)); have n16_ := Aside0.mk ((by rw [hg]; exact Nat.ne_of_gt (blk_lt (g := gb461) (o := .cells #[.int .i64 a7_0, .int .i64 a7_1] 26 (0, 0)) (bK BK461)) : gb477 ≠ gb461)); have n17_ := Aside0.mk ((by rw [hg]; exact Nat.ne_of_lt (blk_lt (g := gb473) (o := .cells #[.int .i64 t470, .int .i64 t471] 32 (0, 0)) (bK BK473)) : gb473 ≠ gb477)); have n18_ := Aside0.mk ((by rw [hg]; exact Nat.ne_of_gt (blk_lt (g := gb473) (o := .cells #[.int .i64 t470, .int .i64 t471] 32 (0, 0)) (bK BK473)) : gb477 ≠ gb473)); clear BK458; clear BK459; clear BK460; clear BK461; clear BK473; clear HB; have BK458 := n0_; have BK459 := n1_; have BK460 := n2_; have BK461 := n3_; have BK473 := n4_; have HB := n5_; have BK477 := n6_; have GW477 := n7_; have GE477 := n8_; have NB458_477 := n9_; have NB477_458 := n10_; have NB459_477 := n11_; have NB477_459 := n12_; have NB460_477 := n13_; have NB477_460 := n14_; have NB461_477 := n15_; have NB477_461 := n16_; have NB473_477 := n17_; have NB477_473 := n18_; clear n0_ n1_ n2_ n3_ n4_ n5_ n6_ n7_ n8_ n9_ n10_ n11_ n12_ n13_ n14_ n15_ n16_ n17_ n18_; clear hb hbox hg; have hnb49 := eq_false NB477_458.out; have hnc49 := eq_false NB458_477.out; have hnb50 := eq_false NB477_459.out; have hnc50 := eq_false NB459_477.out; have hnb51 := eq_false NB477_460.out; have hnc51 := eq_false NB460_477.out; have hnb52 := eq_false NB477_461.out; have hnc52 := eq_false NB461_477.out; have hnb53 := eq_false NB477_473.out; have hnc53 := eq_false NB473_477.out; have hcz54_0 : w48.cell? ⟨gb477, 0, none⟩ = some (.int .i64 0) := (blk_cell BK477.out 0).trans rfl; have hcz54_1 : w48.cell? ⟨gb477, 1, none⟩ = some (.int .i64 0) := (blk_cell BK477.out 1).trans rfl; have hfz54_0 := blk_frozen BK477.out 0; have hfz54_1 := blk_frozen BK477.out 1; have hcz55_0 : w48.cell? ⟨gb458, 0, none⟩ = some (.int .i64 a0_0) := (blk_cell BK458.out 0).trans rfl; have hcz55_1 : w48.cell? ⟨gb458, 1, none⟩ = some (.int .i64 a0_1) := (blk_cell BK458.out 1).trans rfl; have hfz55_0 := blk_frozen BK458.out 0; have hfz55_1 := blk_frozen BK458.out 1) | ((with_reducible refine gate_callee (f := 15) rfl ?_); refine goesL_ (some 124) rfl rfl Try.func15 (by kernel_rfl) rfl #[.agg #[.int .i64 a0_0, .int .i64 a0_1], .int .i64 a1] rfl (by (try simp only [m_1, m_2, m_3]); first | done | rfl | (simp only [m_4, m_5]; rfl)) ?_; (with_reducible refine (impl_TurnInForth.calls k a0_0 a0_1 a1 t478 t479 t480 _ A20.out).mono ?_); rintro e w56 ⟨rfl, hb⟩; refine ⟨_, rfl, ?_⟩; have n0_ := Aside0.mk (blk_below (g := gb458) (o := .cells #[.int .i64 a0_0, .int .i64 a0_1] 26 (0, 0)) (bF) hb); have n1_ := Aside0.mk (blk_below (g := gb459) (o := .cells #[.int .i64 a2_0, .int .i64 a2_1] 26 (0, 0)) (bF) hb); have n2_ := Aside0.mk (blk_below (g := gb460) (o := .cells #[.int .i64 a4_0, .int .i64 a4_1] 26 (0, 0)) (bF) hb); have n3_ := Aside0.mk (blk_below (g := gb461) (o := .cells #[.int .i64 a7_0, .int .i64 a7_1] 26 (0, 0)) (bF) hb); have n4_ := Aside0.mk (blk_below (g := gb473) (o := .cells #[.int .i64 t470, .int .i64 t471] 32 (0, 0)) (bF) hb); have n5_ := Aside0.mk (blk_below (g := gb477) (o := .cells #[.int .i64 t474, .int .i64 t475] 32 (0, 0)) (by (with_reducible repeat (first | refine g_d ?_ _ | refine g_e ?_ | refine g_a ?_ _)); refine blk_put (cs := #[.int .i64 t474, .int .i64 0]) ?_ 1 _ rfl; (with_reducible repeat (first | refine g_d ?_ _ | refine g_e ?_ | refine g_a ?_ _)); refine blk_put (cs := #[.int .i64 0, .int .i64 0]) ?_ 0 _ rfl; (with_reducible repeat (first | refine g_d ?_ _ | refine g_e ?_ | refine g_a ?_ _)); exact BK477.out) hb); have n6_ := Aside0.mk (below_step (bB HB) hb); clear BK458; clear BK459; clear BK460; clear BK461; clear BK473; clear BK477; clear HB; have BK458 := n0_; have BK459 := n1_; have BK460 := n2_; have BK461 := n3_; have BK473 := n4_; have BK477 := n5_; have HB := n6_; clear n0_ n1_ n2_ n3_ n4_ n5_ n6_; (try clear hb); (try clear hb2); (try clear hk); (try clear hi)) | ((with_reducible refine gate_dst (N := 29) rfl ?_); (try (refine gate_guard (by rfl) ?_; dsimp only)); refine box_event ?hg (N := 29) ?hd (cs := #[.int .i64 0, .int .i64 0]) (t := 32) ?hr ?_; (case hd => rfl); (case hg => rfl); (case hr => first | (go_simp; done) | (go_simp; rfl)); intro gb481 hg w57 hbox hb; have n0_ := bbx hb BK458; have n1_ := bbx hb BK459; have n2_ := bbx hb BK460; have n3_ := bbx hb BK461; have n4_ := bbx hb BK473; have n5_ := bbx hb BK477; have n6_ := Aside0.mk (below_step (bB HB) hb); have n7_ := Aside0.mk (hbox); have n8_ := Aside0.mk ((by rw [hg]; exact (below_size (bB HB)) : w.heap.size ≤ gb481)); have n9_ := Aside0.mk ((by rw [hg]; exact (below_size (bB HB)) : w.heap.size ≤ gb481)); have n10_ := Aside0.mk ((by rw [hg]; exact Nat.ne_of_lt (blk_lt (g := gb458) (o := .cells #[.int .i64 a0_0, .int .i64 a0_1] 26 (0, 0)) (bK BK458)) : gb458 ≠ gb481)); have n11_ := Aside0.mk ((by rw [hg]; exact Nat.ne_of_gt (blk_lt (g := gb458) (o := .cells #[.int .i64 a0_0, .int .i64 a0_1] 26 (0, 0)) (bK BK458)) : gb481 ≠ gb458)); have n12_ := Aside0.mk ((by rw [hg]; exact Nat.ne_of_lt (blk_lt (g := gb459) (o := .cells #[.int .i64 a2_0, .int .i64 a2_1] 26 (0, 0)) (bK BK459)) : gb459 ≠ gb481)); have n13_ := Aside0.mk ((by rw [hg]; exact Nat.ne_of_gt (blk_lt (g := gb459) (o := .cells #[.int .i64 a2_0, .int .i64 a2_1] 26 (0, 0)) (bK BK459)) : gb481 ≠ gb459)); have n14_ := Aside0.mk ((by rw [hg]; exact Nat.ne_of_lt (blk_lt (g := gb460) (o := .cells #[.int .i64 a4_0, .int .i64 a4_1] 26 (0, 0)) (bK BK460)) : gb460 ≠ gb481)); have n15_ := Aside0.mk ((by rw [hg]; exact Nat.ne_of_gt (blk_lt (g := gb460) (o := .cells #[.int .i64 a4_0, .int .i64 a4_1] 26 (0, 0)) (bK BK460)) : gb481 ≠ gb460)); have n16_ := Aside0.mk ((by rw [hg]; exact Nat.ne_of_lt (blk_lt (g := gb461) (o := .cells #[.int .i64 a7_0, .int .i64 a7_1] 26 (0, 0)) (bK BK461)) : gb461 ≠ gb481)); have n17_ := Aside0.mk ((by rw [hg]; exact Nat.ne_of_gt (blk_lt (g := gb461) (o := .cells #[.int .i64 a7_0, .int .i64 a7_1] 26 (0, 0)) (bK BK461)) : gb481 ≠ gb461)); have n18_ := Aside0.mk ((by rw [hg]; exact Nat.ne_of_lt (blk_lt (g := gb473) (o := .cells #[.int .i64 t470, .int .i64 t471] 32 (0, 0)) (bK BK473)) : gb473 ≠ gb481)); have n19_ := Aside0.mk ((by rw [hg]; exact Nat.ne_of_gt (blk_lt (g := gb473) (o := .cells #[.int .i64 t470, .int .i64 t471] 32 (0, 0)) (bK BK473)) : gb481 ≠ gb473)); have n20_ := Aside0.mk ((by rw [hg]; exact Nat.ne_of_lt (blk_lt (g := gb477) (o := .cells #[.int .i64 t474, .int .i64 t475] 32 (0, 0)) (bK BK477)) : gb477 ≠ gb481)); have n21_ := Aside0.mk ((by rw [hg]; exact Nat.ne_of_gt (blk_lt (g := gb477) (o := .cells #[.int .i64 t474, .int .i64 t475] 32 (0, 0)) (bK BK477)) : gb481 ≠ gb477)); clear BK458; clear BK459; clear BK460; clear BK461; clear BK473; clear BK477; clear HB; have BK458 := n0_; have BK459 := n1_; have BK460 := n2_; have BK461 := n3_; have BK473 := n4_; have BK477 := n5_; have HB := n6_; have BK481 := n7_; have GW481 := n8_; have GE481 := n9_; have NB458_481 := n10_; have NB481_458 := n11_; have NB459_481 := n12_; have NB481_459 := n13_; have NB460_481 := n14_; have NB481_460 := n15_; have NB461_481 := n16_; have NB481_461 := n17_; have NB473_481 := n18_; have NB481_473 := n19_; have NB477_481 := n20_; have NB481_477 := n21_; clear n0_ n1_ n2_ n3_ n4_ n5_ n6_ n7_ n8_ n9_ n10_ n11_ n12_ n13_ n14_ n15_ n16_ n17_ n18_ n19_ n20_ n21_; clear hb hbox hg; have hnb58 := eq_false NB481_458.out; have hnc58 := eq_false NB458_481.out; have hnb59 := eq_false NB481_459.out; have hnc59 := eq_false NB459_481.out; have hnb60 := eq_false NB481_460.out; have hnc60 := eq_false NB460_481.out; have hnb61 := eq_false NB481_461.out; have hnc61 := eq_false NB461_481.out; have hnb62 := eq_false NB481_473.out; have hnc62 := eq_false NB473_481.out; have hnb63 := eq_false NB481_477.out; have hnc63 := eq_false NB477_481.out; have hcz64_0 : w57.cell? ⟨gb481, 0, none⟩ = some (.int .i64 0) := (blk_cell BK481.out 0).trans rfl; have hcz64_1 : w57.cell? ⟨gb481, 1, none⟩ = some (.int .i64 0) := (blk_cell BK481.out 1).trans rfl; have hfz64_0 := blk_frozen BK481.out 0; have hfz64_1 := blk_frozen BK481.out 1; have hcz65_0 : w57.cell? ⟨gb458, 0, none⟩ = some (.int .i64 a0_0) := (blk_cell BK458.out 0).trans rfl; have hcz65_1 : w57.cell? ⟨gb458, 1, none⟩ = some (.int .i64 a0_1) := (blk_cell BK458.out 1).trans rfl; have hfz65_0 := blk_frozen BK458.out 0; have hfz65_1 := blk_frozen BK458.out 1) | ((with_reducible refine gate_callee (f := 16) rfl ?_); refine goesL_ (some 130) rfl rfl Try.func16 (by kernel_rfl) rfl #[.agg #[.int .i64 a0_0, .int .i64 a0_1], .int .i64 a1] rfl (by (try simp only [m_1, m_2, m_3]); first | done | rfl | (simp only [m_4, m_5]; rfl)) ?_; (with_reducible refine (spec_TurnInForth.calls k a0_0 a0_1 a1 t482 t483 t484 _ A21.out).mono ?_); rintro e w66 ⟨rfl, hb⟩; refine ⟨_, rfl, ?_⟩; have n0_ := Aside0.mk (blk_below (g := gb458) (o := .cells #[.int .i64 a0_0, .int .i64 a0_1] 26 (0, 0)) (bF) hb); have n1_ := Aside0.mk (blk_below (g := gb459) (o := .cells #[.int .i64 a2_0, .int .i64 a2_1] 26 (0, 0)) (bF) hb); have n2_ := Aside0.mk (blk_below (g := gb460) (o := .cells #[.int .i64 a4_0, .int .i64 a4_1] 26 (0, 0)) (bF) hb); have n3_ := Aside0.mk (blk_below (g := gb461) (o := .cells #[.int .i64 a7_0, .int .i64 a7_1] 26 (0, 0)) (bF) hb); have n4_ := Aside0.mk (blk_below (g := gb473) (o := .cells #[.int .i64 t470, .int .i64 t471] 32 (0, 0)) (bF) hb); have n5_ := Aside0.mk (blk_below (g := gb477) (o := .cells #[.int .i64 t474, .int .i64 t475] 32 (0, 0)) (bF) hb); have n6_ := Aside0.mk (blk_below (g := gb481) (o := .cells #[.int .i64 t478, .int .i64 t479] 32 (0, 0)) (by (with_reducible repeat (first | refine g_d ?_ _ | refine g_e ?_ | refine g_a ?_ _)); refine blk_put (cs := #[.int .i64 t478, .int .i64 0]) ?_ 1 _ rfl; (with_reducible repeat (first | refine g_d ?_ _ | refine g_e ?_ | refine g_a ?_ _)); refine blk_put (cs := #[.int .i64 0, .int .i64 0]) ?_ 0 _ rfl; (with_reducible repeat (first | refine g_d ?_ _ | refine g_e ?_ | refine g_a ?_ _)); exact BK481.out) hb); have n7_ := Aside0.mk (below_step (bB HB) hb); clear BK458; clear BK459; clear BK460; clear BK461; clear BK473; clear BK477; clear BK481; clear HB; have BK458 := n0_; have BK459 := n1_; have BK460 := n2_; have BK461 := n3_; have BK473 := n4_; have BK477 := n5_; have BK481 := n6_; have HB := n7_; clear n0_ n1_ n2_ n3_ n4_ n5_ n6_ n7_; (try clear hb); (try clear hb2); (try clear hk); (try clear hi)) | ((with_reducible refine gate_dst (N := 31) rfl ?_); (try (refine gate_guard (by rfl) ?_; dsimp only)); refine box_event ?hg (N := 31) ?hd (cs := #[.int .i64 0, .int .i64 0]) (t := 32) ?hr ?_; (case hd => rfl); (case hg => rfl); (case hr => first | (go_simp; done) | (go_simp; rfl)); intro gb485 hg w67 hbox hb; have n0_ := bbx hb BK458; have n1_ := bbx hb BK459; have n2_ := bbx hb BK460; have n3_ := bbx hb BK461; have n4_ := bbx hb BK473; have n5_ := bbx hb BK477; have n6_ := bbx hb BK481; have n7_ := Aside0.mk (below_step (bB HB) hb); have n8_ := Aside0.mk (hbox); have n9_ := Aside0.mk ((by rw [hg]; exact (below_size (bB HB)) : w.heap.size ≤ gb485)); have n10_ := Aside0.mk ((by rw [hg]; exact (below_size (bB HB)) : w.heap.size ≤ gb485)); have n11_ := Aside0.mk ((by rw [hg]; exact Nat.ne_of_lt (blk_lt (g := gb458) (o := .cells #[.int .i64 a0_0, .int .i64 a0_1] 26 (0, 0)) (bK BK458)) : gb458 ≠ gb485)); have n12_ := Aside0.mk ((by rw [hg]; exact Nat.ne_of_gt (blk_lt (g := gb458) (o := .cells #[.int .i64 a0_0, .int .i64 a0_1] 26 (0, 0)) (bK BK458)) : gb485 ≠ gb458)); have n13_ := Aside0.mk ((by rw [hg]; exact Nat.ne_of_lt (blk_lt (g := gb459) (o := .cells #[.int .i64 a2_0, .int .i64 a2_1] 26 (0, 0)) (bK BK459)) : gb459 ≠ gb485)); have n14_ := Aside0.mk ((by rw [hg]; exact Nat.ne_of_gt (blk_lt (g := gb459) (o := .cells #[.int .i64 a2_0, .int .i64 a2_1] 26 (0, 0)) (bK BK459)) : gb485 ≠ gb459)); have n15_ := Aside0.mk ((by rw [hg]; exact Nat.ne_of_lt (blk_lt (g := gb460) (o := .cells #[.int .i64 a4_0, .int .i64 a4_1] 26 (0, 0)) (bK BK460)) : gb460 ≠ gb485)); have n16_ := Aside0.mk ((by rw [hg]; exact Nat.ne_of_gt (blk_lt (g := gb460) (o := .cells #[.int .i64 a4_0, .int .i64 a4_1] 26 (0, 0)) (bK BK460)) : gb485 ≠ gb460)); have n17_ := Aside0.mk ((by rw [hg]; exact Nat.ne_of_lt (blk_lt (g := gb461) (o := .cells #[.int .i64 a7_0, .int .i64 a7_1] 26 (0, 0)) (bK BK461)) : gb461 ≠ gb485)); have n18_ := Aside0.mk ((by rw [hg]; exact Nat.ne_of_gt (blk_lt (g := gb461) (o := .cells #[.int .i64 a7_0, .int .i64 a7_1] 26 (0, 0)) (bK BK461)) : gb485 ≠ gb461)); have n19_ := Aside0.mk ((by rw [hg]; exact Nat.ne_of_lt (blk_lt (g := gb473) (o := .cells #[.int .i64 t470, .int .i64 t471] 32 (0, 0)) (bK BK473)) : gb473 ≠ gb485)); have n20_ := Aside0.mk ((by rw [hg]; exact Nat.ne_of_gt (blk_lt (g := gb473) (o := .cells #[.int .i64 t470, .int .i64 t471] 32 (0, 0)) (bK BK473)) : gb485 ≠ gb473)); have n21_ := Aside0.mk ((by rw [hg]; exact Nat.ne_of_lt (blk_lt (g := gb477) (o := .cells #[.int .i64 t474, .int .i64 t475] 32 (0, 0)) (bK BK477)) : gb477 ≠ gb485)); have n22_ := Aside0.mk ((by rw [hg]; exact Nat.ne_of_gt (blk_lt (g := gb477) (o := .cells #[.int .i64 t474, .int .i64 t475] 32 (0, 0)) (bK BK477)) : gb485 ≠ gb477)); have n23_ := Aside0.mk ((by rw [hg]; exact Nat.ne_of_lt (blk_lt (g := gb481) (o := .cells #[.int .i64 t478, .int .i64 t479] 32 (0, 0)) (bK BK481)) : gb481 ≠ gb485)); have n24_ := Aside0.mk ((by rw [hg]; exact Nat.ne_of_gt (blk_lt (g := gb481) (o := .cells #[.int .i64 t478, .int .i64 t479] 32 (0, 0)) (bK BK481)) : gb485 ≠ gb481)); clear BK458; clear BK459; clear BK460; clear BK461; clear BK473; clear BK477; clear BK481; clear HB; have BK458 := n0_; have BK459 := n1_; have BK460 := n2_; have BK461 := n3_; have BK473 := n4_; have BK477 := n5_; have BK481 := n6_; have HB := n7_; have BK485 := n8_; have GW485 := n9_; have GE485 := n10_; have NB458_485 := n11_; have NB485_458 := n12_; have NB459_485 := n13_; have NB485_459 := n14_; have NB460_485 := n15_; have NB485_460 := n16_; have NB461_485 := n17_; have NB485_461 := n18_; have NB473_485 := n19_; have NB485_473 := n20_; have NB477_485 := n21_; have NB485_477 := n22_; have NB481_485 := n23_; have NB485_481 := n24_; clear n0_ n1_ n2_ n3_ n4_ n5_ n6_ n7_ n8_ n9_ n10_ n11_ n12_ n13_ n14_ n15_ n16_ n17_ n18_ n19_ n20_ n21_ n22_ n23_ n24_; clear hb hbox hg; have hnb68 := eq_false NB485_458.out; have hnc68 := eq_false NB458_485.out; have hnb69 := eq_false NB485_459.out; have hnc69 := eq_false NB459_485.out; have hnb70 := eq_false NB485_460.out; have hnc70 := eq_false NB460_485.out; have hnb71 := eq_false NB485_461.out; have hnc71 := eq_false NB461_485.out; have hnb72 := eq_false NB485_473.out; have hnc72 := eq_false NB473_485.out; have hnb73 := eq_false NB485_477.out; have hnc73 := eq_false NB477_485.out; have hnb74 := eq_false NB485_481.out; have hnc74 := eq_false NB481_485.out; have hcz75_0 : w67.cell? ⟨gb485, 0, none⟩ = some (.int .i64 0) := (blk_cell BK485.out 0).trans rfl; have hcz75_1 : w67.cell? ⟨gb485, 1, none⟩ = some (.int .i64 0) := (blk_cell BK485.out 1).trans rfl; have hfz75_0 := blk_frozen BK485.out 0; have hfz75_1 := blk_frozen BK485.out 1))
  (try simp only [Act.put, s_1, s_2, s_3])
  go_cut [187] from 1 to 0 (fun v187 wc => ∃ (kq : Nat) (x187_21 : Bool), v187 = .bool x187_21 ∧ Aside0 (laws_FnOrdersTurnOfAll.j0 kq a1 a3 a5 a6 t462 t463 t466 t480 x187_21 a0_0 a0_1 a2_0 a2_1 a4_0 a4_1 a7_0 a7_1 t470 t471 t478 t479 = some r) ∧ Aside0 (kq ≤ k) ∧ Aside0 (wc.heap[gb458]? = some (.cells #[.int .i64 a0_0, .int .i64 a0_1] 26 (0, 0))) ∧ Aside0 (wc.heap[gb459]? = some (.cells #[.int .i64 a2_0, .int .i64 a2_1] 26 (0, 0))) ∧ Aside0 (wc.heap[gb460]? = some (.cells #[.int .i64 a4_0, .int .i64 a4_1] 26 (0, 0))) ∧ Aside0 (wc.heap[gb461]? = some (.cells #[.int .i64 a7_0, .int .i64 a7_1] 26 (0, 0))) ∧ Aside0 (wc.heap[gb473]? = some (.cells #[.int .i64 t470, .int .i64 t471] 32 (0, 0))) ∧ Aside0 (wc.heap[gb477]? = some (.cells #[.int .i64 t474, .int .i64 t475] 32 (0, 0))) ∧ Aside0 (wc.heap[gb481]? = some (.cells #[.int .i64 t478, .int .i64 t479] 32 (0, 0))) ∧ Aside0 (wc.heap[gb485]? = some (.cells #[.int .i64 t482, .int .i64 t483] 32 (0, 0))) ∧ Aside0 (Below w.heap.size w wc))
  case first => as_aux_lemma =>
    have H := HC22.out
    clear HC22
    by_cases c76 : (t463 != t465) = true
    · rw [if_pos c76] at H
      have c76b0 : (t463 != t465) = true := c76
      (try (have c76b1 : decide (t463 = t465) = false := by simpa using c76))
      (try (have c76b2 : (t463 == t465) = false := by simpa using c76))
      (try (have c76b3 : ¬ (t463 = t465) := by simpa using c76))
      clear c76
      (first | rw [c76b0] | (simp only [i64_w, i32_w]; rw [c76b0]) | skip)
      rw [HRT.out] at H
      exact absurd H (by generalize k = q_; cases q_ <;> simp [laws_FnOrdersTurnOfAll.j0])
    rw [if_neg c76] at H
    have c76b0 : (t463 != t465) = false := by simpa using c76
    (try (have c76b1 : decide (t463 = t465) = true := by simpa using c76))
    (try (have c76b2 : (t463 == t465) = true := by simpa using c76))
    clear c76
    (first | rw [c76b0] | (simp only [i64_w, i32_w]; rw [c76b0]) | skip)
    by_cases c77 : t462.toList = t464.toList
    rotate_left
    · rw [if_neg c77] at H
      have c77b0 : (t462.toList == t464.toList) = false := beq_eq_false_iff_ne.mpr c77
      have c77b1 : (t462.toList != t464.toList) = true := bne_iff_ne.mpr c77
      rw [HRT.out] at H
      exact absurd H (by generalize k = q_; cases q_ <;> simp [laws_FnOrdersTurnOfAll.j0])
    rw [if_pos c77] at H
    have c77b0 : (t462.toList == t464.toList) = true := beq_iff_eq.mpr c77
    have c77b1 : (t462.toList != t464.toList) = false := bne_eq_false_iff_eq.mpr c77
    clear c77
    by_cases c78 : (t467 != t469) = true
    · rw [if_pos c78] at H
      have c78b0 : (t467 != t469) = true := c78
      (try (have c78b1 : decide (t467 = t469) = false := by simpa using c78))
      (try (have c78b2 : (t467 == t469) = false := by simpa using c78))
      (try (have c78b3 : ¬ (t467 = t469) := by simpa using c78))
      clear c78
      rw [HRT.out] at H
      exact absurd H (by generalize k = q_; cases q_ <;> simp [laws_FnOrdersTurnOfAll.j0])
    rw [if_neg c78] at H
    have c78b0 : (t467 != t469) = false := by simpa using c78
    (try (have c78b1 : decide (t467 = t469) = true := by simpa using c78))
    (try (have c78b2 : (t467 == t469) = true := by simpa using c78))
    clear c78
    by_cases c79 : t466.toList = t468.toList
    rotate_left
    · rw [if_neg c79] at H
      have c79b0 : (t466.toList == t468.toList) = false := beq_eq_false_iff_ne.mpr c79
      have c79b1 : (t466.toList != t468.toList) = true := bne_iff_ne.mpr c79
      rw [HRT.out] at H
      exact absurd H (by generalize k = q_; cases q_ <;> simp [laws_FnOrdersTurnOfAll.j0])
    rw [if_pos c79] at H
    have c79b0 : (t466.toList == t468.toList) = true := beq_iff_eq.mpr c79
    have c79b1 : (t466.toList != t468.toList) = false := bne_eq_false_iff_eq.mpr c79
    clear c79
    by_cases c80 : (t472 != t476) = true
    · rw [if_pos c80] at H
      have c80b0 : (t472 != t476) = true := c80
      (try (have c80b1 : decide (t472 = t476) = false := by simpa using c80))
      (try (have c80b2 : (t472 == t476) = false := by simpa using c80))
      (try (have c80b3 : ¬ (t472 = t476) := by simpa using c80))
      clear c80
      rw [HRT.out] at H
      exact absurd H (by generalize k = q_; cases q_ <;> simp [laws_FnOrdersTurnOfAll.j0])
    rw [if_neg c80] at H
    have c80b0 : (t472 != t476) = false := by simpa using c80
    (try (have c80b1 : decide (t472 = t476) = true := by simpa using c80))
    (try (have c80b2 : (t472 == t476) = true := by simpa using c80))
    clear c80
    by_cases c81 : (!(t470 == t474) || (!(t471 == t475))) = true
    · rw [if_pos c81] at H
      have c81b0 : (!(t470 == t474) || (!(t471 == t475))) = true := c81
      clear c81
      rw [HRT.out] at H
      exact absurd H (by generalize k = q_; cases q_ <;> simp [laws_FnOrdersTurnOfAll.j0])
    rw [if_neg c81] at H
    have c81b0 : (!(t470 == t474) || (!(t471 == t475))) = false := by simpa using c81
    clear c81
    by_cases c82 : (t480 != t484) = true
    · rw [if_pos c82] at H
      have c82b0 : (t480 != t484) = true := c82
      (try (have c82b1 : decide (t480 = t484) = false := by simpa using c82))
      (try (have c82b2 : (t480 == t484) = false := by simpa using c82))
      (try (have c82b3 : ¬ (t480 = t484) := by simpa using c82))
      clear c82
      rw [HRT.out] at H
      exact absurd H (by generalize k = q_; cases q_ <;> simp [laws_FnOrdersTurnOfAll.j0])
    rw [if_neg c82] at H
    have c82b0 : (t480 != t484) = false := by simpa using c82
    (try (have c82b1 : decide (t480 = t484) = true := by simpa using c82))
    (try (have c82b2 : (t480 == t484) = true := by simpa using c82))
    clear c82
    by_cases c83 : (!(t478 == t482) || (!(t479 == t483))) = true
    · rw [if_pos c83] at H
      have c83b0 : (!(t478 == t482) || (!(t479 == t483))) = true := c83
      clear c83
      rw [HRT.out] at H
      exact absurd H (by generalize k = q_; cases q_ <;> simp [laws_FnOrdersTurnOfAll.j0])
    rw [if_neg c83] at H
    have c83b0 : (!(t478 == t482) || (!(t479 == t483))) = false := by simpa using c83
    clear c83
    by_cases c84 : (t467 != t463) = true
    · rw [if_pos c84] at H
      have c84b0 : (t467 != t463) = true := c84
      (try (have c84b1 : decide (t467 = t463) = false := by simpa using c84))
      (try (have c84b2 : (t467 == t463) = false := by simpa using c84))
      (try (have c84b3 : ¬ (t467 = t463) := by simpa using c84))
      clear c84
      rw [HRT.out] at H
      exact absurd H (by generalize k = q_; cases q_ <;> simp [laws_FnOrdersTurnOfAll.j0])
    rw [if_neg c84] at H
    have c84b0 : (t467 != t463) = false := by simpa using c84
    (try (have c84b1 : decide (t467 = t463) = true := by simpa using c84))
    (try (have c84b2 : (t467 == t463) = true := by simpa using c84))
    clear c84
    by_cases c85 : (t472 != t463) = true
    · rw [if_pos c85] at H
      have c85b0 : (t472 != t463) = true := c85
      (try (have c85b1 : decide (t472 = t463) = false := by simpa using c85))
      (try (have c85b2 : (t472 == t463) = false := by simpa using c85))
      (try (have c85b3 : ¬ (t472 = t463) := by simpa using c85))
      clear c85
      rw [HRT.out] at H
      exact absurd H (by generalize k = q_; cases q_ <;> simp [laws_FnOrdersTurnOfAll.j0])
    rw [if_neg c85] at H
    have c85b0 : (t472 != t463) = false := by simpa using c85
    (try (have c85b1 : decide (t472 = t463) = true := by simpa using c85))
    (try (have c85b2 : (t472 == t463) = true := by simpa using c85))
    clear c85
    by_cases c86 : t480 = true
    · subst c86
      rw [if_pos rfl] at H
      have H' := Aside0.mk H
      clear H
      have hnb87 := eq_false NB473_458.out
      have hnc87 := eq_false NB458_473.out
      have hnb88 := eq_false NB473_459.out
      have hnc88 := eq_false NB459_473.out
      have hnb89 := eq_false NB473_460.out
      have hnc89 := eq_false NB460_473.out
      have hnb90 := eq_false NB473_461.out
      have hnc90 := eq_false NB461_473.out
      have hnb91 := eq_false NB473_477.out
      have hnc91 := eq_false NB477_473.out
      have hnb92 := eq_false NB473_481.out
      have hnc92 := eq_false NB481_473.out
      have hnb93 := eq_false NB473_485.out
      have hnc93 := eq_false NB485_473.out
      have hcz94_0 : w67.cell? ⟨gb473, 0, none⟩ = some (.int .i64 t470) := (blk_cell BK473.out 0).trans rfl
      have hcz94_1 : w67.cell? ⟨gb473, 1, none⟩ = some (.int .i64 t471) := (blk_cell BK473.out 1).trans rfl
      have hfz94_0 := blk_frozen BK473.out 0
      have hfz94_1 := blk_frozen BK473.out 1
      have hnb95 := eq_false NB477_458.out
      have hnc95 := eq_false NB458_477.out
      have hnb96 := eq_false NB477_459.out
      have hnc96 := eq_false NB459_477.out
      have hnb97 := eq_false NB477_460.out
      have hnc97 := eq_false NB460_477.out
      have hnb98 := eq_false NB477_461.out
      have hnc98 := eq_false NB461_477.out
      have hnb99 := eq_false NB477_481.out
      have hnc99 := eq_false NB481_477.out
      have hnb100 := eq_false NB477_485.out
      have hnc100 := eq_false NB485_477.out
      have hcz101_0 : w67.cell? ⟨gb477, 0, none⟩ = some (.int .i64 t474) := (blk_cell BK477.out 0).trans rfl
      have hcz101_1 : w67.cell? ⟨gb477, 1, none⟩ = some (.int .i64 t475) := (blk_cell BK477.out 1).trans rfl
      have hfz101_0 := blk_frozen BK477.out 0
      have hfz101_1 := blk_frozen BK477.out 1
      have hnb102 := eq_false NB481_458.out
      have hnc102 := eq_false NB458_481.out
      have hnb103 := eq_false NB481_459.out
      have hnc103 := eq_false NB459_481.out
      have hnb104 := eq_false NB481_460.out
      have hnc104 := eq_false NB460_481.out
      have hnb105 := eq_false NB481_461.out
      have hnc105 := eq_false NB461_481.out
      have hnb106 := eq_false NB481_485.out
      have hnc106 := eq_false NB485_481.out
      have hcz107_0 : w67.cell? ⟨gb481, 0, none⟩ = some (.int .i64 t478) := (blk_cell BK481.out 0).trans rfl
      have hcz107_1 : w67.cell? ⟨gb481, 1, none⟩ = some (.int .i64 t479) := (blk_cell BK481.out 1).trans rfl
      have hfz107_0 := blk_frozen BK481.out 0
      have hfz107_1 := blk_frozen BK481.out 1
      have hnb108 := eq_false NB485_458.out
      have hnc108 := eq_false NB458_485.out
      have hnb109 := eq_false NB485_459.out
      have hnc109 := eq_false NB459_485.out
      have hnb110 := eq_false NB485_460.out
      have hnc110 := eq_false NB460_485.out
      have hnb111 := eq_false NB485_461.out
      have hnc111 := eq_false NB461_485.out
      have hcz112_0 : w67.cell? ⟨gb485, 0, none⟩ = some (.int .i64 0) := (blk_cell BK485.out 0).trans rfl
      have hcz112_1 : w67.cell? ⟨gb485, 1, none⟩ = some (.int .i64 0) := (blk_cell BK485.out 1).trans rfl
      have hfz112_0 := blk_frozen BK485.out 0
      have hfz112_1 := blk_frozen BK485.out 1
      go_wp2
      go_meet
      case rel => exact ⟨_, (!t463), (by first | rfl | (simp; done) | (simp [*]; done)), H', ⟨by first | omega | exact Nat.le_refl _⟩, ⟨bF⟩, ⟨bF⟩, ⟨bF⟩, ⟨bF⟩, ⟨bF⟩, ⟨bF⟩, ⟨bF⟩, ⟨by (with_reducible repeat (first | refine g_d ?_ _ | refine g_e ?_ | refine g_a ?_ _)); refine blk_put (cs := #[.int .i64 t482, .int .i64 0]) ?_ 1 _ rfl; (with_reducible repeat (first | refine g_d ?_ _ | refine g_e ?_ | refine g_a ?_ _)); refine blk_put (cs := #[.int .i64 0, .int .i64 0]) ?_ 0 _ rfl; (with_reducible repeat (first | refine g_d ?_ _ | refine g_e ?_ | refine g_a ?_ _)); exact BK485.out⟩, ⟨bB HB⟩⟩
    replace c86 := Bool.eq_false_iff.mpr c86
    subst c86
    rw [if_neg (show ¬ (false = true) by decide)] at H
    have H' := Aside0.mk H
    clear H
    have hnb113 := eq_false NB473_458.out
    have hnc113 := eq_false NB458_473.out
    have hnb114 := eq_false NB473_459.out
    have hnc114 := eq_false NB459_473.out
    have hnb115 := eq_false NB473_460.out
    have hnc115 := eq_false NB460_473.out
    have hnb116 := eq_false NB473_461.out
    have hnc116 := eq_false NB461_473.out
    have hnb117 := eq_false NB473_477.out
    have hnc117 := eq_false NB477_473.out
    have hnb118 := eq_false NB473_481.out
    have hnc118 := eq_false NB481_473.out
    have hnb119 := eq_false NB473_485.out
    have hnc119 := eq_false NB485_473.out
    have hcz120_0 : w67.cell? ⟨gb473, 0, none⟩ = some (.int .i64 t470) := (blk_cell BK473.out 0).trans rfl
    have hcz120_1 : w67.cell? ⟨gb473, 1, none⟩ = some (.int .i64 t471) := (blk_cell BK473.out 1).trans rfl
    have hfz120_0 := blk_frozen BK473.out 0
    have hfz120_1 := blk_frozen BK473.out 1
    have hnb121 := eq_false NB477_458.out
    have hnc121 := eq_false NB458_477.out
    have hnb122 := eq_false NB477_459.out
    have hnc122 := eq_false NB459_477.out
    have hnb123 := eq_false NB477_460.out
    have hnc123 := eq_false NB460_477.out
    have hnb124 := eq_false NB477_461.out
    have hnc124 := eq_false NB461_477.out
    have hnb125 := eq_false NB477_481.out
    have hnc125 := eq_false NB481_477.out
    have hnb126 := eq_false NB477_485.out
    have hnc126 := eq_false NB485_477.out
    have hcz127_0 : w67.cell? ⟨gb477, 0, none⟩ = some (.int .i64 t474) := (blk_cell BK477.out 0).trans rfl
    have hcz127_1 : w67.cell? ⟨gb477, 1, none⟩ = some (.int .i64 t475) := (blk_cell BK477.out 1).trans rfl
    have hfz127_0 := blk_frozen BK477.out 0
    have hfz127_1 := blk_frozen BK477.out 1
    have hnb128 := eq_false NB481_458.out
    have hnc128 := eq_false NB458_481.out
    have hnb129 := eq_false NB481_459.out
    have hnc129 := eq_false NB459_481.out
    have hnb130 := eq_false NB481_460.out
    have hnc130 := eq_false NB460_481.out
    have hnb131 := eq_false NB481_461.out
    have hnc131 := eq_false NB461_481.out
    have hnb132 := eq_false NB481_485.out
    have hnc132 := eq_false NB485_481.out
    have hcz133_0 : w67.cell? ⟨gb481, 0, none⟩ = some (.int .i64 t478) := (blk_cell BK481.out 0).trans rfl
    have hcz133_1 : w67.cell? ⟨gb481, 1, none⟩ = some (.int .i64 t479) := (blk_cell BK481.out 1).trans rfl
    have hfz133_0 := blk_frozen BK481.out 0
    have hfz133_1 := blk_frozen BK481.out 1
    have hnb134 := eq_false NB485_458.out
    have hnc134 := eq_false NB458_485.out
    have hnb135 := eq_false NB485_459.out
    have hnc135 := eq_false NB459_485.out
    have hnb136 := eq_false NB485_460.out
    have hnc136 := eq_false NB460_485.out
    have hnb137 := eq_false NB485_461.out
    have hnc137 := eq_false NB461_485.out
    have hcz138_0 : w67.cell? ⟨gb485, 0, none⟩ = some (.int .i64 0) := (blk_cell BK485.out 0).trans rfl
    have hcz138_1 : w67.cell? ⟨gb485, 1, none⟩ = some (.int .i64 0) := (blk_cell BK485.out 1).trans rfl
    have hfz138_0 := blk_frozen BK485.out 0
    have hfz138_1 := blk_frozen BK485.out 1
    go_wp2
    go_meet
    case rel => exact ⟨_, (false), (by first | rfl | (simp; done) | (simp [*]; done)), H', ⟨by first | omega | exact Nat.le_refl _⟩, ⟨bF⟩, ⟨bF⟩, ⟨bF⟩, ⟨bF⟩, ⟨bF⟩, ⟨bF⟩, ⟨bF⟩, ⟨by (with_reducible repeat (first | refine g_d ?_ _ | refine g_e ?_ | refine g_a ?_ _)); refine blk_put (cs := #[.int .i64 t482, .int .i64 0]) ?_ 1 _ rfl; (with_reducible repeat (first | refine g_d ?_ _ | refine g_e ?_ | refine g_a ?_ _)); refine blk_put (cs := #[.int .i64 0, .int .i64 0]) ?_ 0 _ rfl; (with_reducible repeat (first | refine g_d ?_ _ | refine g_e ?_ | refine g_a ?_ _)); exact BK485.out⟩, ⟨bB HB⟩⟩
  clear HC22
  try clear c9
  try clear c9b0
  try clear c9b1
  try clear hcz30_0
  try clear hcz30_1
  try clear hcz32_0
  try clear hcz32_1
  try clear hcz34_0
  try clear hcz34_1
  try clear hcz36_0
  try clear hcz36_1
  try clear hcz38_0
  try clear hcz38_1
  try clear hcz45_0
  try clear hcz45_1
  try clear hcz46_0
  try clear hcz46_1
  try clear hcz54_0
  try clear hcz54_1
  try clear hcz55_0
  try clear hcz55_1
  try clear hcz64_0
  try clear hcz64_1
  try clear hcz65_0
  try clear hcz65_1
  try clear hcz75_0
  try clear hcz75_1
  try clear hfz30_0
  try clear hfz30_1
  try clear hfz32_0
  try clear hfz32_1
  try clear hfz34_0
  try clear hfz34_1
  try clear hfz36_0
  try clear hfz36_1
  try clear hfz38_0
  try clear hfz38_1
  try clear hfz45_0
  try clear hfz45_1
  try clear hfz46_0
  try clear hfz46_1
  try clear hfz54_0
  try clear hfz54_1
  try clear hfz55_0
  try clear hfz55_1
  try clear hfz64_0
  try clear hfz64_1
  try clear hfz65_0
  try clear hfz65_1
  try clear hfz75_0
  try clear hfz75_1
  obtain ⟨kq, x187_21, rfl, HA, HJ21, BK458, BK459, BK460, BK461, BK473, BK477, BK481, BK485, HB⟩ := hcut
  rcases kq with _ | kj21
  · exact absurd HA.out (by simp [laws_FnOrdersTurnOfAll.j0])
  have H := HA.out
  clear HA
  simp only [laws_FnOrdersTurnOfAll.j0] at H
  by_cases c139 : x187_21 = true
  · subst c139
    rw [if_pos rfl] at H
    rw [HRT.out] at H
    exact absurd H (by simp)
  replace c139 := Bool.eq_false_iff.mpr c139
  subst c139
  rw [if_neg (show ¬ (false = true) by decide)] at H
  have HC140 := Aside0.mk H
  clear H
  go_upto_if 188 with (fail)
  go_cut [] from 1 to 0 (fun wc => ∃ (kq : Nat), Aside0 (laws_FnOrdersTurnOfAll.j2 kq a3 a5 a6 a2_0 a2_1 a4_0 a4_1 a7_0 a7_1 = some r) ∧ Aside0 (kq ≤ kj21) ∧ Aside0 (wc.heap[gb458]? = some (.cells #[.int .i64 a0_0, .int .i64 a0_1] 26 (0, 0))) ∧ Aside0 (wc.heap[gb459]? = some (.cells #[.int .i64 a2_0, .int .i64 a2_1] 26 (0, 0))) ∧ Aside0 (wc.heap[gb460]? = some (.cells #[.int .i64 a4_0, .int .i64 a4_1] 26 (0, 0))) ∧ Aside0 (wc.heap[gb461]? = some (.cells #[.int .i64 a7_0, .int .i64 a7_1] 26 (0, 0))) ∧ Aside0 (wc.heap[gb473]? = some (.cells #[.int .i64 t470, .int .i64 t471] 32 (0, 0))) ∧ Aside0 (wc.heap[gb477]? = some (.cells #[.int .i64 t474, .int .i64 t475] 32 (0, 0))) ∧ Aside0 (wc.heap[gb481]? = some (.cells #[.int .i64 t478, .int .i64 t479] 32 (0, 0))) ∧ Aside0 (wc.heap[gb485]? = some (.cells #[.int .i64 t482, .int .i64 t483] 32 (0, 0))) ∧ Aside0 (Below w.heap.size w wc))
  case first => as_aux_lemma =>
    have H := HC140.out
    clear HC140
    by_cases c141 : t463 = true
    rotate_left
    · replace c141 := Bool.eq_false_iff.mpr c141
      subst c141
      rw [if_neg (show ¬ (false = true) by decide)] at H
      have H' := Aside0.mk H
      clear H
      go_wp2
      go_meet
      case rel => refine ⟨_, H', ⟨by have := HJ21.out; first | omega | exact Nat.le_refl _⟩, ⟨?_⟩, ⟨?_⟩, ⟨?_⟩, ⟨?_⟩, ⟨?_⟩, ⟨?_⟩, ⟨?_⟩, ⟨?_⟩, ⟨bB HB⟩⟩ <;> (with_reducible repeat (first | refine g_d ?_ _ | refine g_e ?_ | refine g_a ?_ _)) <;> first | exact BK458.out | exact BK459.out | exact BK460.out | exact BK461.out | exact BK473.out | exact BK477.out | exact BK481.out | exact BK485.out
    subst c141
    rw [if_pos rfl] at H
    replace H := Option.bind_eq_some_iff.mp H
    obtain ⟨⟨t486, t487⟩, A1420, H⟩ := H
    try dsimp only at H
    have A142 := Aside0.mk A1420
    clear A1420
    replace H := Option.bind_eq_some_iff.mp H
    obtain ⟨⟨t488, t489⟩, A1430, H⟩ := H
    try dsimp only at H
    have A143 := Aside0.mk A1430
    clear A1430
    replace H := Option.bind_eq_some_iff.mp H
    obtain ⟨⟨t490, t491⟩, A1440, H⟩ := H
    try dsimp only at H
    have A144 := Aside0.mk A1440
    clear A1440
    replace H := Option.bind_eq_some_iff.mp H
    obtain ⟨⟨t492, t493⟩, A1450, H⟩ := H
    try dsimp only at H
    have A145 := Aside0.mk A1450
    clear A1450
    by_cases c146 : t486 = 0
    · rw [if_pos c146] at H
      exact absurd H (by simp)
    rw [if_neg c146] at H
    have c146b0 : (t486 == 0) = false := beq_eq_false_iff_ne.mpr c146
    have c146b1 : (t486 != 0) = true := bne_iff_ne.mpr c146
    (first | rw [c146b0] | (simp only [i64_w, i32_w]; rw [c146b0]) | skip)
    replace H := Option.bind_eq_some_iff.mp H
    obtain ⟨⟨t494, t495⟩, A1470, H⟩ := H
    try dsimp only at H
    have A147 := Aside0.mk A1470
    clear A1470
    have HC148 := Aside0.mk H
    clear H
    have hnb149 := eq_false NB458_459.out
    have hnc149 := eq_false NB459_458.out
    have hnb150 := eq_false NB458_460.out
    have hnc150 := eq_false NB460_458.out
    have hnb151 := eq_false NB458_461.out
    have hnc151 := eq_false NB461_458.out
    have hnb152 := eq_false NB458_473.out
    have hnc152 := eq_false NB473_458.out
    have hnb153 := eq_false NB458_477.out
    have hnc153 := eq_false NB477_458.out
    have hnb154 := eq_false NB458_481.out
    have hnc154 := eq_false NB481_458.out
    have hnb155 := eq_false NB458_485.out
    have hnc155 := eq_false NB485_458.out
    have hcz156_0 : wc.cell? ⟨gb458, 0, none⟩ = some (.int .i64 a0_0) := (blk_cell BK458.out 0).trans rfl
    have hcz156_1 : wc.cell? ⟨gb458, 1, none⟩ = some (.int .i64 a0_1) := (blk_cell BK458.out 1).trans rfl
    have hfz156_0 := blk_frozen BK458.out 0
    have hfz156_1 := blk_frozen BK458.out 1
    try go_wp2_with (first | ((with_reducible refine gate_callee (f := 17) rfl ?_); refine goesL_ (some 191) rfl rfl Try.func17 (by kernel_rfl) rfl #[.agg #[.int .i64 a0_0, .int .i64 a0_1]] rfl (by (try simp only [m_1, m_2, m_3]); first | done | rfl | (simp only [m_4, m_5]; rfl)) ?_; (with_reducible refine (impl_CountCodes.calls kj21 a0_0 a0_1 t486 t487 _ A142.out).mono ?_); rintro e w157 ⟨rfl, hb⟩; refine ⟨_, rfl, ?_⟩; have n0_ := bbx hb BK458; have n1_ := bbx hb BK459; have n2_ := bbx hb BK460; have n3_ := bbx hb BK461; have n4_ := bbx hb BK473; have n5_ := bbx hb BK477; have n6_ := bbx hb BK481; have n7_ := bbx hb BK485; have n8_ := Aside0.mk (below_step (bB HB) hb); clear BK458; clear BK459; clear BK460; clear BK461; clear BK473; clear BK477; clear BK481; clear BK485; clear HB; have BK458 := n0_; have BK459 := n1_; have BK460 := n2_; have BK461 := n3_; have BK473 := n4_; have BK477 := n5_; have BK481 := n6_; have BK485 := n7_; have HB := n8_; clear n0_ n1_ n2_ n3_ n4_ n5_ n6_ n7_ n8_; (try clear hb); (try clear hb2); (try clear hk); (try clear hi); have hcz158_0 : w157.cell? ⟨gb458, 0, none⟩ = some (.int .i64 a0_0) := (blk_cell BK458.out 0).trans rfl; have hcz158_1 : w157.cell? ⟨gb458, 1, none⟩ = some (.int .i64 a0_1) := (blk_cell BK458.out 1).trans rfl; have hfz158_0 := blk_frozen BK458.out 0; have hfz158_1 := blk_frozen BK458.out 1) | ((with_reducible refine gate_callee (f := 18) rfl ?_); refine goesL_ (some 197) rfl rfl Try.func18 (by kernel_rfl) rfl #[.agg #[.int .i64 a0_0, .int .i64 a0_1], .string t462] rfl (by (try simp only [m_1, m_2, m_3]); first | done | rfl | (simp only [m_4, m_5]; rfl)) ?_; (with_reducible refine (impl_RoundRank.calls kj21 a0_0 a0_1 t462 t488 t489 _ A143.out).mono ?_); rintro e w159 ⟨rfl, hb⟩; refine ⟨_, rfl, ?_⟩; have n0_ := bbx hb BK458; have n1_ := bbx hb BK459; have n2_ := bbx hb BK460; have n3_ := bbx hb BK461; have n4_ := bbx hb BK473; have n5_ := bbx hb BK477; have n6_ := bbx hb BK481; have n7_ := bbx hb BK485; have n8_ := Aside0.mk (below_step (bB HB) hb); clear BK458; clear BK459; clear BK460; clear BK461; clear BK473; clear BK477; clear BK481; clear BK485; clear HB; have BK458 := n0_; have BK459 := n1_; have BK460 := n2_; have BK461 := n3_; have BK473 := n4_; have BK477 := n5_; have BK481 := n6_; have BK485 := n7_; have HB := n8_; clear n0_ n1_ n2_ n3_ n4_ n5_ n6_ n7_ n8_; (try clear hb); (try clear hb2); (try clear hk); (try clear hi); have hcz160_0 : w159.cell? ⟨gb458, 0, none⟩ = some (.int .i64 a0_0) := (blk_cell BK458.out 0).trans rfl; have hcz160_1 : w159.cell? ⟨gb458, 1, none⟩ = some (.int .i64 a0_1) := (blk_cell BK458.out 1).trans rfl; have hfz160_0 := blk_frozen BK458.out 0; have hfz160_1 := blk_frozen BK458.out 1) | ((with_reducible refine gate_callee (f := 8) rfl ?_); refine goesL_ (some 203) rfl rfl Try.func8 (by kernel_rfl) rfl #[.agg #[.int .i64 a0_0, .int .i64 a0_1], .string t466] rfl (by (try simp only [m_1, m_2, m_3]); first | done | rfl | (simp only [m_4, m_5]; rfl)) ?_; (with_reducible refine (impl_ForthRank.calls kj21 a0_0 a0_1 t466 t490 t491 _ A144.out).mono ?_); rintro e w161 ⟨rfl, hb⟩; refine ⟨_, rfl, ?_⟩; have n0_ := bbx hb BK458; have n1_ := bbx hb BK459; have n2_ := bbx hb BK460; have n3_ := bbx hb BK461; have n4_ := bbx hb BK473; have n5_ := bbx hb BK477; have n6_ := bbx hb BK481; have n7_ := bbx hb BK485; have n8_ := Aside0.mk (below_step (bB HB) hb); clear BK458; clear BK459; clear BK460; clear BK461; clear BK473; clear BK477; clear BK481; clear BK485; clear HB; have BK458 := n0_; have BK459 := n1_; have BK460 := n2_; have BK461 := n3_; have BK473 := n4_; have BK477 := n5_; have BK481 := n6_; have BK485 := n7_; have HB := n8_; clear n0_ n1_ n2_ n3_ n4_ n5_ n6_ n7_ n8_; (try clear hb); (try clear hb2); (try clear hk); (try clear hi); have hcz162_0 : w161.cell? ⟨gb458, 0, none⟩ = some (.int .i64 a0_0) := (blk_cell BK458.out 0).trans rfl; have hcz162_1 : w161.cell? ⟨gb458, 1, none⟩ = some (.int .i64 a0_1) := (blk_cell BK458.out 1).trans rfl; have hfz162_0 := blk_frozen BK458.out 0; have hfz162_1 := blk_frozen BK458.out 1; have hnb163 := eq_false NB473_459.out; have hnc163 := eq_false NB459_473.out; have hnb164 := eq_false NB473_460.out; have hnc164 := eq_false NB460_473.out; have hnb165 := eq_false NB473_461.out; have hnc165 := eq_false NB461_473.out; have hnb166 := eq_false NB473_477.out; have hnc166 := eq_false NB477_473.out; have hnb167 := eq_false NB473_481.out; have hnc167 := eq_false NB481_473.out; have hnb168 := eq_false NB473_485.out; have hnc168 := eq_false NB485_473.out; have hcz169_0 : w161.cell? ⟨gb473, 0, none⟩ = some (.int .i64 t470) := (blk_cell BK473.out 0).trans rfl; have hcz169_1 : w161.cell? ⟨gb473, 1, none⟩ = some (.int .i64 t471) := (blk_cell BK473.out 1).trans rfl; have hfz169_0 := blk_frozen BK473.out 0; have hfz169_1 := blk_frozen BK473.out 1) | ((with_reducible refine gate_callee (f := 19) rfl ?_); refine goesL_ (some 210) rfl rfl Try.func19 (by kernel_rfl) rfl #[.agg #[.int .i64 a0_0, .int .i64 a0_1], .string t462, .agg #[.int .i64 t470, .int .i64 t471]] rfl (by (try simp only [m_1, m_2, m_3]); first | done | rfl | (simp only [m_4, m_5]; rfl)) ?_; (with_reducible refine (impl_TurnWheel.calls kj21 a0_0 a0_1 t462 t470 t471 t492 t493 _ A145.out).mono ?_); rintro e w170 ⟨rfl, hb⟩; refine ⟨_, rfl, ?_⟩; have n0_ := bbx hb BK458; have n1_ := bbx hb BK459; have n2_ := bbx hb BK460; have n3_ := bbx hb BK461; have n4_ := bbx hb BK473; have n5_ := bbx hb BK477; have n6_ := bbx hb BK481; have n7_ := bbx hb BK485; have n8_ := Aside0.mk (below_step (bB HB) hb); clear BK458; clear BK459; clear BK460; clear BK461; clear BK473; clear BK477; clear BK481; clear BK485; clear HB; have BK458 := n0_; have BK459 := n1_; have BK460 := n2_; have BK461 := n3_; have BK473 := n4_; have BK477 := n5_; have BK481 := n6_; have BK485 := n7_; have HB := n8_; clear n0_ n1_ n2_ n3_ n4_ n5_ n6_ n7_ n8_; (try clear hb); (try clear hb2); (try clear hk); (try clear hi)))
    have n0_ := Aside0.mk (g_e BK458.out)
    have n1_ := Aside0.mk (g_e BK459.out)
    have n2_ := Aside0.mk (g_e BK460.out)
    have n3_ := Aside0.mk (g_e BK461.out)
    have n4_ := Aside0.mk (g_e BK473.out)
    have n5_ := Aside0.mk (g_e BK477.out)
    have n6_ := Aside0.mk (g_e BK481.out)
    have n7_ := Aside0.mk (g_e BK485.out)
    have n8_ := Aside0.mk (b_e HB.out)
    clear BK458
    clear BK459
    clear BK460
    clear BK461
    clear BK473
    clear BK477
    clear BK481
    clear BK485
    clear HB
    have BK458 := n0_
    have BK459 := n1_
    have BK460 := n2_
    have BK461 := n3_
    have BK473 := n4_
    have BK477 := n5_
    have BK481 := n6_
    have BK485 := n7_
    have HB := n8_
    clear n0_ n1_ n2_ n3_ n4_ n5_ n6_ n7_ n8_
    refine start_ (n := 11) (S := fun w' => w'.cell? ⟨gb458, 0, none⟩ = some (.int .i64 a0_0) ∧ w'.cell? ⟨gb458, 1, none⟩ = some (.int .i64 a0_1)) (ds := []) (bs_ 11 0) (by kernel_rfl) rfl rfl ⟨(blk_cell BK458.out 0).trans rfl, (blk_cell BK458.out 1).trans rfl⟩ (fun hHeld => ?_); refine with_tabW laws_FnOrdersTurnOfAll.tab18 laws_FnOrdersTurnOfAll.bits18 (fun HT_ HW_ => ?_)
    generalize w170.drew = w171 at BK458 BK459 BK460 BK461 BK473 BK477 BK481 BK485 HB hHeld ⊢
    refine pu_ 1 215 (bs_ 11 2) rfl rfl HT_ (by kernel_rfl) (fun _ _ _ h => h) (by rfl) (by intro w'; go_simp; with_reducible rfl) (by simp only [Act.put, s_1, s_2, s_3, i64_w, i32_w]; rfl) ?_
    refine pu_ 2 216 (bs_ 11 6) rfl rfl HT_ (by kernel_rfl) (fun _ _ _ h => h) (by rfl) (by intro w'; go_simp; with_reducible rfl) (by simp only [Act.put, s_1, s_2, s_3, i64_w, i32_w]; rfl) ?_
    refine pu_ 3 217 (bs_ 11 14) rfl rfl HT_ (by kernel_rfl) (fun _ _ _ h => h) (by rfl) (by intro w'; go_simp; with_reducible rfl) (by simp only [Act.put, s_1, s_2, s_3, i64_w, i32_w]; rfl) ?_
    refine pu_ 4 218 (bs_ 11 30) rfl rfl HT_ (by kernel_rfl) (fun _ _ _ h => h) (by rfl) (by intro w'; go_simp; with_reducible rfl) (by simp only [Act.put, s_1, s_2, s_3, i64_w, i32_w]; rfl) ?_
    refine tk_ 0 214 (bs_ 11 31) rfl rfl HT_ HW_ (by kernel_rfl) (fun _ _ _ h => h) (by rfl) hHeld (by rintro w' ⟨s0, s1⟩; go_simp; with_reducible rfl) (by simp only [Act.put, s_1, s_2, s_3, i64_w, i32_w]; rfl) ?_
    refine one_ (i := 5) (N := some 219) (bs_ 11 63) rfl rfl (one_of HT_.out (by kernel_rfl)) (by decide) (fun K hK => ?_)
    refine goes_ Try.func9 (by kernel_rfl) rfl #[.agg #[.int .i64 a0_0, .int .i64 a0_1], .int .i64 (Int.tmod (wrap64 (a1 + 1)) t486)] (by rfl) rfl rfl (by (try simp only [m_1, m_2, m_3]); first | done | rfl | (simp only [m_4, m_5]; rfl)) ?_
    with_reducible refine (impl_RoundCode.calls kj21 a0_0 a0_1 (Int.tmod (wrap64 (a1 + 1)) t486) t494 t495 _ A147.out).mono ?_
    rintro e w172 ⟨rfl, hb⟩
    refine ⟨_, rfl, ?_⟩
    have n0_ := bbx hb BK458
    have n1_ := bbx hb BK459
    have n2_ := bbx hb BK460
    have n3_ := bbx hb BK461
    have n4_ := bbx hb BK473
    have n5_ := bbx hb BK477
    have n6_ := bbx hb BK481
    have n7_ := bbx hb BK485
    have n8_ := Aside0.mk (below_step (bB HB) hb)
    clear BK458
    clear BK459
    clear BK460
    clear BK461
    clear BK473
    clear BK477
    clear BK481
    clear BK485
    clear HB
    have BK458 := n0_
    have BK459 := n1_
    have BK460 := n2_
    have BK461 := n3_
    have BK473 := n4_
    have BK477 := n5_
    have BK481 := n6_
    have BK485 := n7_
    have HB := n8_
    clear n0_ n1_ n2_ n3_ n4_ n5_ n6_ n7_ n8_
    (try clear hb)
    (try clear hb2)
    (try clear hk)
    (try clear hi)
    refine hK.out _ _ ⟨(blk_cell BK458.out 0).trans rfl, (blk_cell BK458.out 1).trans rfl⟩ (fun hHeld => ?_)
    clear hK K
    refine norm_ (a' := ?_) ?_ ?_
    rotate_left
    · show Act.put _ (some 219) _ = _
      simp only [Act.put, s_1, s_2, s_3, i64_w, i32_w]
      rfl
    refine pu_ 6 213 (bs_ 11 127) rfl rfl HT_ (by kernel_rfl) (fun _ _ _ h => h) (by rfl) (by intro w'; go_simp; with_reducible rfl) (by simp only [Act.put, s_1, s_2, s_3, i64_w, i32_w]; rfl) ?_
    refine pu_ 7 220 (bs_ 11 255) rfl rfl HT_ (by kernel_rfl) (fun _ _ _ h => h) (by rfl) (by intro w'; go_simp; with_reducible rfl) (by simp only [Act.put, s_1, s_2, s_3, i64_w, i32_w]; rfl) ?_
    refine pu_ 8 221 (bs_ 11 511) rfl rfl HT_ (by kernel_rfl) (fun _ _ _ h => h) (by rfl) (by intro w'; go_simp; with_reducible rfl) (by simp only [Act.put, s_1, s_2, s_3, i64_w, i32_w]; rfl) ?_
    refine pu_ 9 41 (bs_ 11 1023) rfl rfl HT_ (by kernel_rfl) (fun _ _ _ h => h) (by rfl) (by intro w'; go_simp; with_reducible rfl) (by simp only [Act.put, s_1, s_2, s_3, i64_w, i32_w]; rfl) ?_
    refine pu_ 10 42 (bs_ 11 2047) rfl rfl HT_ (by kernel_rfl) (fun _ _ _ h => h) (by rfl) (by intro w'; go_simp; with_reducible rfl) (by simp only [Act.put, s_1, s_2, s_3, i64_w, i32_w]; rfl) ?_
    refine done_ (done_of HT_.out (by kernel_rfl)) ?_
    go_upto_region 19 with (fail)
    go_cut [267] from 1 to 0 (fun v267 wc => ∃ (kq : Nat) (x267_147 : Bool), v267 = .bool x267_147 ∧ Aside0 (laws_FnOrdersTurnOfAll.j1 kq a1 a3 a5 a6 t466 t480 x267_147 a0_0 a0_1 a2_0 a2_1 a4_0 a4_1 a7_0 a7_1 t478 t479 = some r) ∧ Aside0 (kq ≤ kj21) ∧ Aside0 (wc.heap[gb458]? = some (.cells #[.int .i64 a0_0, .int .i64 a0_1] 26 (0, 0))) ∧ Aside0 (wc.heap[gb459]? = some (.cells #[.int .i64 a2_0, .int .i64 a2_1] 26 (0, 0))) ∧ Aside0 (wc.heap[gb460]? = some (.cells #[.int .i64 a4_0, .int .i64 a4_1] 26 (0, 0))) ∧ Aside0 (wc.heap[gb461]? = some (.cells #[.int .i64 a7_0, .int .i64 a7_1] 26 (0, 0))) ∧ Aside0 (wc.heap[gb473]? = some (.cells #[.int .i64 t470, .int .i64 t471] 32 (0, 0))) ∧ Aside0 (wc.heap[gb477]? = some (.cells #[.int .i64 t474, .int .i64 t475] 32 (0, 0))) ∧ Aside0 (wc.heap[gb481]? = some (.cells #[.int .i64 t478, .int .i64 t479] 32 (0, 0))) ∧ Aside0 (wc.heap[gb485]? = some (.cells #[.int .i64 t482, .int .i64 t483] 32 (0, 0))) ∧ Aside0 (Below w.heap.size w wc))
    case first => as_aux_lemma =>
      have H := HC148.out
      clear HC148
      by_cases c173 : t487 = true
      rotate_left
      · replace c173 := Bool.eq_false_iff.mpr c173
        subst c173
        rw [if_neg (show ¬ (false = true) by decide)] at H
        rw [HRT.out] at H
        exact absurd H (by generalize kj21 = q_; cases q_ <;> simp [laws_FnOrdersTurnOfAll.j1])
      subst c173
      rw [if_pos rfl] at H
      by_cases c174 : t489 = true
      rotate_left
      · replace c174 := Bool.eq_false_iff.mpr c174
        subst c174
        rw [if_neg (show ¬ (false = true) by decide)] at H
        rw [HRT.out] at H
        exact absurd H (by generalize kj21 = q_; cases q_ <;> simp [laws_FnOrdersTurnOfAll.j1])
      subst c174
      rw [if_pos rfl] at H
      by_cases c175 : t488 = a1
      rotate_left
      · rw [if_neg c175] at H
        have c175b0 : (t488 == a1) = false := beq_eq_false_iff_ne.mpr c175
        have c175b1 : (t488 != a1) = true := bne_iff_ne.mpr c175
        (first | rw [c175b0] | (simp only [i64_w, i32_w]; rw [c175b0]) | skip)
        rw [HRT.out] at H
        exact absurd H (by generalize kj21 = q_; cases q_ <;> simp [laws_FnOrdersTurnOfAll.j1])
      rw [if_pos c175] at H
      have c175b0 : (t488 == a1) = true := beq_iff_eq.mpr c175
      have c175b1 : (t488 != a1) = false := bne_eq_false_iff_eq.mpr c175
      clear c175
      (first | rw [c175b0] | (simp only [i64_w, i32_w]; rw [c175b0]) | skip)
      by_cases c176 : t491 = true
      rotate_left
      · replace c176 := Bool.eq_false_iff.mpr c176
        subst c176
        rw [if_neg (show ¬ (false = true) by decide)] at H
        rw [HRT.out] at H
        exact absurd H (by generalize kj21 = q_; cases q_ <;> simp [laws_FnOrdersTurnOfAll.j1])
      subst c176
      rw [if_pos rfl] at H
      by_cases c177 : t490 = a1
      rotate_left
      · rw [if_neg c177] at H
        have c177b0 : (t490 == a1) = false := beq_eq_false_iff_ne.mpr c177
        have c177b1 : (t490 != a1) = true := bne_iff_ne.mpr c177
        rw [HRT.out] at H
        exact absurd H (by generalize kj21 = q_; cases q_ <;> simp [laws_FnOrdersTurnOfAll.j1])
      rw [if_pos c177] at H
      have c177b0 : (t490 == a1) = true := beq_iff_eq.mpr c177
      have c177b1 : (t490 != a1) = false := bne_eq_false_iff_eq.mpr c177
      clear c177
      by_cases c178 : t493 = true
      rotate_left
      · replace c178 := Bool.eq_false_iff.mpr c178
        subst c178
        rw [if_neg (show ¬ (false = true) by decide)] at H
        rw [HRT.out] at H
        exact absurd H (by generalize kj21 = q_; cases q_ <;> simp [laws_FnOrdersTurnOfAll.j1])
      subst c178
      rw [if_pos rfl] at H
      by_cases c179 : t495 = true
      rotate_left
      · replace c179 := Bool.eq_false_iff.mpr c179
        subst c179
        rw [if_neg (show ¬ (false = true) by decide)] at H
        rw [HRT.out] at H
        exact absurd H (by generalize kj21 = q_; cases q_ <;> simp [laws_FnOrdersTurnOfAll.j1])
      subst c179
      rw [if_pos rfl] at H
      by_cases c180 : t492.toList = t494.toList
      rotate_left
      · rw [if_neg c180] at H
        have c180b0 : (t492.toList == t494.toList) = false := beq_eq_false_iff_ne.mpr c180
        have c180b1 : (t492.toList != t494.toList) = true := bne_iff_ne.mpr c180
        rw [HRT.out] at H
        exact absurd H (by generalize kj21 = q_; cases q_ <;> simp [laws_FnOrdersTurnOfAll.j1])
      rw [if_pos c180] at H
      have c180b0 : (t492.toList == t494.toList) = true := beq_iff_eq.mpr c180
      have c180b1 : (t492.toList != t494.toList) = false := bne_eq_false_iff_eq.mpr c180
      clear c180
      by_cases c181 : t471 = 1
      rotate_left
      · rw [if_neg c181] at H
        have c181b0 : (t471 == 1) = false := beq_eq_false_iff_ne.mpr c181
        have c181b1 : (t471 != 1) = true := bne_iff_ne.mpr c181
        rw [HRT.out] at H
        exact absurd H (by generalize kj21 = q_; cases q_ <;> simp [laws_FnOrdersTurnOfAll.j1])
      rw [if_pos c181] at H
      have c181b0 : (t471 == 1) = true := beq_iff_eq.mpr c181
      have c181b1 : (t471 != 1) = false := bne_eq_false_iff_eq.mpr c181
      clear c181
      have H' := Aside0.mk H
      clear H
      have hnb182 := eq_false NB473_458.out
      have hnc182 := eq_false NB458_473.out
      have hnb183 := eq_false NB473_459.out
      have hnc183 := eq_false NB459_473.out
      have hnb184 := eq_false NB473_460.out
      have hnc184 := eq_false NB460_473.out
      have hnb185 := eq_false NB473_461.out
      have hnc185 := eq_false NB461_473.out
      have hnb186 := eq_false NB473_477.out
      have hnc186 := eq_false NB477_473.out
      have hnb187 := eq_false NB473_481.out
      have hnc187 := eq_false NB481_473.out
      have hnb188 := eq_false NB473_485.out
      have hnc188 := eq_false NB485_473.out
      have hcz189_0 : w172.cell? ⟨gb473, 0, none⟩ = some (.int .i64 t470) := (blk_cell BK473.out 0).trans rfl
      have hcz189_1 : w172.cell? ⟨gb473, 1, none⟩ = some (.int .i64 t471) := (blk_cell BK473.out 1).trans rfl
      have hfz189_0 := blk_frozen BK473.out 0
      have hfz189_1 := blk_frozen BK473.out 1
      go_wp2
      go_meet
      case rel => refine ⟨_, ((t480 != (decide (a1 < (wrap64 (t486 - 1)))))), (by first | rfl | (simp; done) | (simp [*]; done)), H', ⟨by have := HJ21.out; first | omega | exact Nat.le_refl _⟩, ⟨?_⟩, ⟨?_⟩, ⟨?_⟩, ⟨?_⟩, ⟨?_⟩, ⟨?_⟩, ⟨?_⟩, ⟨?_⟩, ⟨bB HB⟩⟩ <;> (with_reducible repeat (first | refine g_d ?_ _ | refine g_e ?_ | refine g_a ?_ _)) <;> first | exact BK458.out | exact BK459.out | exact BK460.out | exact BK461.out | exact BK473.out | exact BK477.out | exact BK481.out | exact BK485.out
    clear HC148
    try clear c139
    try clear c141
    try clear c146
    try clear c146b0
    try clear c146b1
    try clear hcz156_0
    try clear hcz156_1
    try clear hcz158_0
    try clear hcz158_1
    try clear hcz160_0
    try clear hcz160_1
    try clear hcz162_0
    try clear hcz162_1
    try clear hcz169_0
    try clear hcz169_1
    try clear hfz156_0
    try clear hfz156_1
    try clear hfz158_0
    try clear hfz158_1
    try clear hfz160_0
    try clear hfz160_1
    try clear hfz162_0
    try clear hfz162_1
    try clear hfz169_0
    try clear hfz169_1
    obtain ⟨kq, x267_147, rfl, HA, HJ147, BK458, BK459, BK460, BK461, BK473, BK477, BK481, BK485, HB⟩ := hcut
    rcases kq with _ | kj147
    · exact absurd HA.out (by simp [laws_FnOrdersTurnOfAll.j1])
    have H := HA.out
    clear HA
    simp only [laws_FnOrdersTurnOfAll.j1] at H
    by_cases c190 : x267_147 = true
    · subst c190
      rw [if_pos rfl] at H
      rw [HRT.out] at H
      exact absurd H (by simp)
    replace c190 := Bool.eq_false_iff.mpr c190
    subst c190
    rw [if_neg (show ¬ (false = true) by decide)] at H
    by_cases c191 : t480 = true
    rotate_left
    · replace c191 := Bool.eq_false_iff.mpr c191
      subst c191
      rw [if_neg (show ¬ (false = true) by decide)] at H
      have H' := Aside0.mk H
      clear H
      go_wp2
      go_meet
      case rel => refine ⟨_, H', ⟨by have := HJ21.out; have := HJ147.out; first | omega | exact Nat.le_refl _⟩, ⟨?_⟩, ⟨?_⟩, ⟨?_⟩, ⟨?_⟩, ⟨?_⟩, ⟨?_⟩, ⟨?_⟩, ⟨?_⟩, ⟨bB HB⟩⟩ <;> (with_reducible repeat (first | refine g_d ?_ _ | refine g_e ?_ | refine g_a ?_ _)) <;> first | exact BK458.out | exact BK459.out | exact BK460.out | exact BK461.out | exact BK473.out | exact BK477.out | exact BK481.out | exact BK485.out
    subst c191
    rw [if_pos rfl] at H
    replace H := Option.bind_eq_some_iff.mp H
    obtain ⟨⟨t496, t497⟩, A1920, H⟩ := H
    try dsimp only at H
    have A192 := Aside0.mk A1920
    clear A1920
    replace H := Option.bind_eq_some_iff.mp H
    obtain ⟨⟨t498, t499⟩, A1930, H⟩ := H
    try dsimp only at H
    have A193 := Aside0.mk A1930
    clear A1930
    by_cases c194 : t497 = true
    rotate_left
    · replace c194 := Bool.eq_false_iff.mpr c194
      subst c194
      rw [if_neg (show ¬ (false = true) by decide)] at H
      rw [HRT.out] at H
      exact absurd H (by simp)
    subst c194
    rw [if_pos rfl] at H
    by_cases c195 : t499 = true
    rotate_left
    · replace c195 := Bool.eq_false_iff.mpr c195
      subst c195
      rw [if_neg (show ¬ (false = true) by decide)] at H
      rw [HRT.out] at H
      exact absurd H (by simp)
    subst c195
    rw [if_pos rfl] at H
    by_cases c196 : t496.toList = t498.toList
    rotate_left
    · rw [if_neg c196] at H
      have c196b0 : (t496.toList == t498.toList) = false := beq_eq_false_iff_ne.mpr c196
      have c196b1 : (t496.toList != t498.toList) = true := bne_iff_ne.mpr c196
      rw [HRT.out] at H
      exact absurd H (by simp)
    rw [if_pos c196] at H
    have c196b0 : (t496.toList == t498.toList) = true := beq_iff_eq.mpr c196
    have c196b1 : (t496.toList != t498.toList) = false := bne_eq_false_iff_eq.mpr c196
    clear c196
    have H' := Aside0.mk H
    clear H
    have hnb197 := eq_false NB458_459.out
    have hnc197 := eq_false NB459_458.out
    have hnb198 := eq_false NB458_460.out
    have hnc198 := eq_false NB460_458.out
    have hnb199 := eq_false NB458_461.out
    have hnc199 := eq_false NB461_458.out
    have hnb200 := eq_false NB458_473.out
    have hnc200 := eq_false NB473_458.out
    have hnb201 := eq_false NB458_477.out
    have hnc201 := eq_false NB477_458.out
    have hnb202 := eq_false NB458_481.out
    have hnc202 := eq_false NB481_458.out
    have hnb203 := eq_false NB458_485.out
    have hnc203 := eq_false NB485_458.out
    have hcz204_0 : wc.cell? ⟨gb458, 0, none⟩ = some (.int .i64 a0_0) := (blk_cell BK458.out 0).trans rfl
    have hcz204_1 : wc.cell? ⟨gb458, 1, none⟩ = some (.int .i64 a0_1) := (blk_cell BK458.out 1).trans rfl
    have hfz204_0 := blk_frozen BK458.out 0
    have hfz204_1 := blk_frozen BK458.out 1
    have hnb205 := eq_false NB481_459.out
    have hnc205 := eq_false NB459_481.out
    have hnb206 := eq_false NB481_460.out
    have hnc206 := eq_false NB460_481.out
    have hnb207 := eq_false NB481_461.out
    have hnc207 := eq_false NB461_481.out
    have hnb208 := eq_false NB481_473.out
    have hnc208 := eq_false NB473_481.out
    have hnb209 := eq_false NB481_477.out
    have hnc209 := eq_false NB477_481.out
    have hnb210 := eq_false NB481_485.out
    have hnc210 := eq_false NB485_481.out
    have hcz211_0 : wc.cell? ⟨gb481, 0, none⟩ = some (.int .i64 t478) := (blk_cell BK481.out 0).trans rfl
    have hcz211_1 : wc.cell? ⟨gb481, 1, none⟩ = some (.int .i64 t479) := (blk_cell BK481.out 1).trans rfl
    have hfz211_0 := blk_frozen BK481.out 0
    have hfz211_1 := blk_frozen BK481.out 1
    go_wp2_with (first | ((with_reducible refine gate_callee (f := 19) rfl ?_); refine goesL_ (some 273) rfl rfl Try.func19 (by kernel_rfl) rfl #[.agg #[.int .i64 a0_0, .int .i64 a0_1], .string t466, .agg #[.int .i64 t478, .int .i64 t479]] rfl (by (try simp only [m_1, m_2, m_3]); first | done | rfl | (simp only [m_4, m_5]; rfl)) ?_; (with_reducible refine (impl_TurnWheel.calls kj147 a0_0 a0_1 t466 t478 t479 t496 true _ A192.out).mono ?_); rintro e w212 ⟨rfl, hb⟩; refine ⟨_, rfl, ?_⟩; have n0_ := bbx hb BK458; have n1_ := bbx hb BK459; have n2_ := bbx hb BK460; have n3_ := bbx hb BK461; have n4_ := bbx hb BK473; have n5_ := bbx hb BK477; have n6_ := bbx hb BK481; have n7_ := bbx hb BK485; have n8_ := Aside0.mk (below_step (bB HB) hb); clear BK458; clear BK459; clear BK460; clear BK461; clear BK473; clear BK477; clear BK481; clear BK485; clear HB; have BK458 := n0_; have BK459 := n1_; have BK460 := n2_; have BK461 := n3_; have BK473 := n4_; have BK477 := n5_; have BK481 := n6_; have BK485 := n7_; have HB := n8_; clear n0_ n1_ n2_ n3_ n4_ n5_ n6_ n7_ n8_; (try clear hb); (try clear hb2); (try clear hk); (try clear hi); have hcz213_0 : w212.cell? ⟨gb458, 0, none⟩ = some (.int .i64 a0_0) := (blk_cell BK458.out 0).trans rfl; have hcz213_1 : w212.cell? ⟨gb458, 1, none⟩ = some (.int .i64 a0_1) := (blk_cell BK458.out 1).trans rfl; have hfz213_0 := blk_frozen BK458.out 0; have hfz213_1 := blk_frozen BK458.out 1) | ((with_reducible refine gate_callee (f := 11) rfl ?_); refine goesL_ (some 280) rfl rfl Try.func11 (by kernel_rfl) rfl #[.agg #[.int .i64 a0_0, .int .i64 a0_1], .int .i64 (wrap64 (a1 + 1))] rfl (by (try simp only [m_1, m_2, m_3]); first | done | rfl | (simp only [m_4, m_5]; rfl)) ?_; (with_reducible refine (impl_ForthCode.calls kj147 a0_0 a0_1 (wrap64 (a1 + 1)) t498 true _ A193.out).mono ?_); rintro e w214 ⟨rfl, hb⟩; refine ⟨_, rfl, ?_⟩; have n0_ := bbx hb BK458; have n1_ := bbx hb BK459; have n2_ := bbx hb BK460; have n3_ := bbx hb BK461; have n4_ := bbx hb BK473; have n5_ := bbx hb BK477; have n6_ := bbx hb BK481; have n7_ := bbx hb BK485; have n8_ := Aside0.mk (below_step (bB HB) hb); clear BK458; clear BK459; clear BK460; clear BK461; clear BK473; clear BK477; clear BK481; clear BK485; clear HB; have BK458 := n0_; have BK459 := n1_; have BK460 := n2_; have BK461 := n3_; have BK473 := n4_; have BK477 := n5_; have BK481 := n6_; have BK485 := n7_; have HB := n8_; clear n0_ n1_ n2_ n3_ n4_ n5_ n6_ n7_ n8_; (try clear hb); (try clear hb2); (try clear hk); (try clear hi)))
    go_meet
    case rel => refine ⟨_, H', ⟨by have := HJ21.out; have := HJ147.out; first | omega | exact Nat.le_refl _⟩, ⟨?_⟩, ⟨?_⟩, ⟨?_⟩, ⟨?_⟩, ⟨?_⟩, ⟨?_⟩, ⟨?_⟩, ⟨?_⟩, ⟨bB HB⟩⟩ <;> (with_reducible repeat (first | refine g_d ?_ _ | refine g_e ?_ | refine g_a ?_ _)) <;> first | exact BK458.out | exact BK459.out | exact BK460.out | exact BK461.out | exact BK473.out | exact BK477.out | exact BK481.out | exact BK485.out
  clear HC140
  obtain ⟨kq, HA, HJ139, BK458, BK459, BK460, BK461, BK473, BK477, BK481, BK485, HB⟩ := hcut
  rcases kq with _ | kj139
  · exact absurd HA.out (by simp [laws_FnOrdersTurnOfAll.j2])
  have H := HA.out
  clear HA
  simp only [laws_FnOrdersTurnOfAll.j2] at H
  replace H := Option.bind_eq_some_iff.mp H
  obtain ⟨⟨t500, t501⟩, A2150, H⟩ := H
  try dsimp only at H
  have A215 := Aside0.mk A2150
  clear A2150
  replace H := Option.bind_eq_some_iff.mp H
  obtain ⟨⟨t502, t503⟩, A2160, H⟩ := H
  try dsimp only at H
  have A216 := Aside0.mk A2160
  clear A2160
  replace H := Option.bind_eq_some_iff.mp H
  obtain ⟨⟨t504, t505⟩, A2170, H⟩ := H
  try dsimp only at H
  have A217 := Aside0.mk A2170
  clear A2170
  replace H := Option.bind_eq_some_iff.mp H
  obtain ⟨⟨t506, t507⟩, A2180, H⟩ := H
  try dsimp only at H
  have A218 := Aside0.mk A2180
  clear A2180
  replace H := Option.bind_eq_some_iff.mp H
  obtain ⟨⟨t508, t511⟩, A2190, H⟩ := H
  try dsimp only at H
  have A219 := Aside0.mk A2190
  clear A2190
  replace H := Option.bind_eq_some_iff.mp H
  obtain ⟨⟨t512, t515⟩, A2200, H⟩ := H
  try dsimp only at H
  have A220 := Aside0.mk A2200
  clear A2200
  replace H := Option.bind_eq_some_iff.mp H
  obtain ⟨⟨t516, t519⟩, A2210, H⟩ := H
  try dsimp only at H
  have A221 := Aside0.mk A2210
  clear A2210
  replace H := Option.bind_eq_some_iff.mp H
  obtain ⟨⟨t520, t523⟩, A2220, H⟩ := H
  try dsimp only at H
  have A222 := Aside0.mk A2220
  clear A2220
  replace H := Option.bind_eq_some_iff.mp H
  obtain ⟨⟨t524, t527⟩, A2230, H⟩ := H
  try dsimp only at H
  have A223 := Aside0.mk A2230
  clear A2230
  replace H := Option.bind_eq_some_iff.mp H
  obtain ⟨⟨t528, t531⟩, A2240, H⟩ := H
  try dsimp only at H
  have A224 := Aside0.mk A2240
  clear A2240
  have HC225 := Aside0.mk H
  clear H
  have hnb226 := eq_false NB459_458.out
  have hnc226 := eq_false NB458_459.out
  have hnb227 := eq_false NB459_460.out
  have hnc227 := eq_false NB460_459.out
  have hnb228 := eq_false NB459_461.out
  have hnc228 := eq_false NB461_459.out
  have hnb229 := eq_false NB459_473.out
  have hnc229 := eq_false NB473_459.out
  have hnb230 := eq_false NB459_477.out
  have hnc230 := eq_false NB477_459.out
  have hnb231 := eq_false NB459_481.out
  have hnc231 := eq_false NB481_459.out
  have hnb232 := eq_false NB459_485.out
  have hnc232 := eq_false NB485_459.out
  have hcz233_0 : wc.cell? ⟨gb459, 0, none⟩ = some (.int .i64 a2_0) := (blk_cell BK459.out 0).trans rfl
  have hcz233_1 : wc.cell? ⟨gb459, 1, none⟩ = some (.int .i64 a2_1) := (blk_cell BK459.out 1).trans rfl
  have hfz233_0 := blk_frozen BK459.out 0
  have hfz233_1 := blk_frozen BK459.out 1
  go_upto_region 36 with (first | ((with_reducible refine gate_callee (f := 8) rfl ?_); refine goesL_ (some 297) rfl rfl Try.func8 (by kernel_rfl) rfl #[.agg #[.int .i64 a2_0, .int .i64 a2_1], .string a3] rfl (by (try simp only [m_1, m_2, m_3]); first | done | rfl | (simp only [m_4, m_5]; rfl)) ?_; (with_reducible refine (impl_ForthRank.calls kj139 a2_0 a2_1 a3 t500 t501 _ A215.out).mono ?_); rintro e w234 ⟨rfl, hb⟩; refine ⟨_, rfl, ?_⟩; have n0_ := bbx hb BK458; have n1_ := bbx hb BK459; have n2_ := bbx hb BK460; have n3_ := bbx hb BK461; have n4_ := bbx hb BK473; have n5_ := bbx hb BK477; have n6_ := bbx hb BK481; have n7_ := bbx hb BK485; have n8_ := Aside0.mk (below_step (bB HB) hb); clear BK458; clear BK459; clear BK460; clear BK461; clear BK473; clear BK477; clear BK481; clear BK485; clear HB; have BK458 := n0_; have BK459 := n1_; have BK460 := n2_; have BK461 := n3_; have BK473 := n4_; have BK477 := n5_; have BK481 := n6_; have BK485 := n7_; have HB := n8_; clear n0_ n1_ n2_ n3_ n4_ n5_ n6_ n7_ n8_; (try clear hb); (try clear hb2); (try clear hk); (try clear hi); have hcz235_0 : w234.cell? ⟨gb459, 0, none⟩ = some (.int .i64 a2_0) := (blk_cell BK459.out 0).trans rfl; have hcz235_1 : w234.cell? ⟨gb459, 1, none⟩ = some (.int .i64 a2_1) := (blk_cell BK459.out 1).trans rfl; have hfz235_0 := blk_frozen BK459.out 0; have hfz235_1 := blk_frozen BK459.out 1) | ((with_reducible refine gate_callee (f := 6) rfl ?_); refine goesL_ (some 303) rfl rfl Try.func6 (by kernel_rfl) rfl #[.agg #[.int .i64 a2_0, .int .i64 a2_1], .string a3] rfl (by (try simp only [m_1, m_2, m_3]); first | done | rfl | (simp only [m_4, m_5]; rfl)) ?_; (with_reducible refine (spec_ForthRank.calls kj139 a2_0 a2_1 a3 t502 t503 _ A216.out).mono ?_); rintro e w236 ⟨rfl, hb⟩; refine ⟨_, rfl, ?_⟩; have n0_ := bbx hb BK458; have n1_ := bbx hb BK459; have n2_ := bbx hb BK460; have n3_ := bbx hb BK461; have n4_ := bbx hb BK473; have n5_ := bbx hb BK477; have n6_ := bbx hb BK481; have n7_ := bbx hb BK485; have n8_ := Aside0.mk (below_step (bB HB) hb); clear BK458; clear BK459; clear BK460; clear BK461; clear BK473; clear BK477; clear BK481; clear BK485; clear HB; have BK458 := n0_; have BK459 := n1_; have BK460 := n2_; have BK461 := n3_; have BK473 := n4_; have BK477 := n5_; have BK481 := n6_; have BK485 := n7_; have HB := n8_; clear n0_ n1_ n2_ n3_ n4_ n5_ n6_ n7_ n8_; (try clear hb); (try clear hb2); (try clear hk); (try clear hi); have hcz237_0 : w236.cell? ⟨gb459, 0, none⟩ = some (.int .i64 a2_0) := (blk_cell BK459.out 0).trans rfl; have hcz237_1 : w236.cell? ⟨gb459, 1, none⟩ = some (.int .i64 a2_1) := (blk_cell BK459.out 1).trans rfl; have hfz237_0 := blk_frozen BK459.out 0; have hfz237_1 := blk_frozen BK459.out 1) | ((with_reducible refine gate_callee (f := 18) rfl ?_); refine goesL_ (some 309) rfl rfl Try.func18 (by kernel_rfl) rfl #[.agg #[.int .i64 a2_0, .int .i64 a2_1], .string a3] rfl (by (try simp only [m_1, m_2, m_3]); first | done | rfl | (simp only [m_4, m_5]; rfl)) ?_; (with_reducible refine (impl_RoundRank.calls kj139 a2_0 a2_1 a3 t504 t505 _ A217.out).mono ?_); rintro e w238 ⟨rfl, hb⟩; refine ⟨_, rfl, ?_⟩; have n0_ := bbx hb BK458; have n1_ := bbx hb BK459; have n2_ := bbx hb BK460; have n3_ := bbx hb BK461; have n4_ := bbx hb BK473; have n5_ := bbx hb BK477; have n6_ := bbx hb BK481; have n7_ := bbx hb BK485; have n8_ := Aside0.mk (below_step (bB HB) hb); clear BK458; clear BK459; clear BK460; clear BK461; clear BK473; clear BK477; clear BK481; clear BK485; clear HB; have BK458 := n0_; have BK459 := n1_; have BK460 := n2_; have BK461 := n3_; have BK473 := n4_; have BK477 := n5_; have BK481 := n6_; have BK485 := n7_; have HB := n8_; clear n0_ n1_ n2_ n3_ n4_ n5_ n6_ n7_ n8_; (try clear hb); (try clear hb2); (try clear hk); (try clear hi); have hcz239_0 : w238.cell? ⟨gb459, 0, none⟩ = some (.int .i64 a2_0) := (blk_cell BK459.out 0).trans rfl; have hcz239_1 : w238.cell? ⟨gb459, 1, none⟩ = some (.int .i64 a2_1) := (blk_cell BK459.out 1).trans rfl; have hfz239_0 := blk_frozen BK459.out 0; have hfz239_1 := blk_frozen BK459.out 1) | ((with_reducible refine gate_callee (f := 20) rfl ?_); refine goesL_ (some 315) rfl rfl Try.func20 (by kernel_rfl) rfl #[.agg #[.int .i64 a2_0, .int .i64 a2_1], .string a3] rfl (by (try simp only [m_1, m_2, m_3]); first | done | rfl | (simp only [m_4, m_5]; rfl)) ?_; (with_reducible refine (spec_RoundRank.calls kj139 a2_0 a2_1 a3 t506 t507 _ A218.out).mono ?_); rintro e w240 ⟨rfl, hb⟩; refine ⟨_, rfl, ?_⟩; have n0_ := bbx hb BK458; have n1_ := bbx hb BK459; have n2_ := bbx hb BK460; have n3_ := bbx hb BK461; have n4_ := bbx hb BK473; have n5_ := bbx hb BK477; have n6_ := bbx hb BK481; have n7_ := bbx hb BK485; have n8_ := Aside0.mk (below_step (bB HB) hb); clear BK458; clear BK459; clear BK460; clear BK461; clear BK473; clear BK477; clear BK481; clear BK485; clear HB; have BK458 := n0_; have BK459 := n1_; have BK460 := n2_; have BK461 := n3_; have BK473 := n4_; have BK477 := n5_; have BK481 := n6_; have BK485 := n7_; have HB := n8_; clear n0_ n1_ n2_ n3_ n4_ n5_ n6_ n7_ n8_; (try clear hb); (try clear hb2); (try clear hk); (try clear hi); have hnb241 := eq_false NB460_458.out; have hnc241 := eq_false NB458_460.out; have hnb242 := eq_false NB460_461.out; have hnc242 := eq_false NB461_460.out; have hnb243 := eq_false NB460_473.out; have hnc243 := eq_false NB473_460.out; have hnb244 := eq_false NB460_477.out; have hnc244 := eq_false NB477_460.out; have hnb245 := eq_false NB460_481.out; have hnc245 := eq_false NB481_460.out; have hnb246 := eq_false NB460_485.out; have hnc246 := eq_false NB485_460.out; have hcz247_0 : w240.cell? ⟨gb460, 0, none⟩ = some (.int .i64 a4_0) := (blk_cell BK460.out 0).trans rfl; have hcz247_1 : w240.cell? ⟨gb460, 1, none⟩ = some (.int .i64 a4_1) := (blk_cell BK460.out 1).trans rfl; have hfz247_0 := blk_frozen BK460.out 0; have hfz247_1 := blk_frozen BK460.out 1) | ((with_reducible refine gate_callee (f := 21) rfl ?_); refine goesL_ (some 322) rfl rfl Try.func21 (by kernel_rfl) rfl #[.agg #[.int .i64 a4_0, .int .i64 a4_1], .int .i64 a5, .int .i64 a6] rfl (by (try simp only [m_1, m_2, m_3]); first | done | rfl | (simp only [m_4, m_5]; rfl)) ?_; (with_reducible refine (impl_ForthPart.calls kj139 a4_0 a4_1 a5 a6 t508 t511 _ A219.out).mono ?_); rintro e w248 ⟨v509, rfl, ho0, hb⟩; refine ⟨_, rfl, ?_⟩; have n0_ := Aside0.mk (Kd.R_lower ho0 (below_size (bB HB))); have n1_ := bbx hb BK458; have n2_ := bbx hb BK459; have n3_ := bbx hb BK460; have n4_ := bbx hb BK461; have n5_ := bbx hb BK473; have n6_ := bbx hb BK477; have n7_ := bbx hb BK481; have n8_ := bbx hb BK485; have n9_ := Aside0.mk (below_step (bB HB) hb); clear BK458; clear BK459; clear BK460; clear BK461; clear BK473; clear BK477; clear BK481; clear BK485; clear HB; have HO510 := n0_; have BK458 := n1_; have BK459 := n2_; have BK460 := n3_; have BK461 := n4_; have BK473 := n5_; have BK477 := n6_; have BK481 := n7_; have BK485 := n8_; have HB := n9_; clear n0_ n1_ n2_ n3_ n4_ n5_ n6_ n7_ n8_ n9_; (try clear hb); (try clear hb2); (try clear hk); (try clear hi); (try clear ho0); have hcz249_0 : w248.cell? ⟨gb460, 0, none⟩ = some (.int .i64 a4_0) := (blk_cell BK460.out 0).trans rfl; have hcz249_1 : w248.cell? ⟨gb460, 1, none⟩ = some (.int .i64 a4_1) := (blk_cell BK460.out 1).trans rfl; have hfz249_0 := blk_frozen BK460.out 0; have hfz249_1 := blk_frozen BK460.out 1) | ((with_reducible refine gate_callee (f := 22) rfl ?_); refine goesL_ (some 329) rfl rfl Try.func22 (by kernel_rfl) rfl #[.agg #[.int .i64 a4_0, .int .i64 a4_1], .int .i64 a5, .int .i64 a6] rfl (by (try simp only [m_1, m_2, m_3]); first | done | rfl | (simp only [m_4, m_5]; rfl)) ?_; (with_reducible refine (spec_ForthPart.calls kj139 a4_0 a4_1 a5 a6 t512 t515 _ A220.out).mono ?_); rintro e w250 ⟨v513, rfl, ho0, hb⟩; refine ⟨_, rfl, ?_⟩; have n0_ := Aside0.mk (Kd.R_elder' (by (with_reducible repeat (first | apply r_a | apply r_d | apply r_e)); exact HO510.out) (Kd.R_base ho0) hb); have n1_ := Aside0.mk (Kd.R_lower (Kd.R_new' ho0 (Kd.R_lt (by (with_reducible repeat (first | apply r_a | apply r_d | apply r_e)); exact HO510.out))) (below_size (bB HB))); have n2_ := bbx hb BK458; have n3_ := bbx hb BK459; have n4_ := bbx hb BK460; have n5_ := bbx hb BK461; have n6_ := bbx hb BK473; have n7_ := bbx hb BK477; have n8_ := bbx hb BK481; have n9_ := bbx hb BK485; have n10_ := Aside0.mk (below_step (bB HB) hb); clear HO510; clear BK458; clear BK459; clear BK460; clear BK461; clear BK473; clear BK477; clear BK481; clear BK485; clear HB; have HO510 := n0_; have HO514 := n1_; have BK458 := n2_; have BK459 := n3_; have BK460 := n4_; have BK461 := n5_; have BK473 := n6_; have BK477 := n7_; have BK481 := n8_; have BK485 := n9_; have HB := n10_; clear n0_ n1_ n2_ n3_ n4_ n5_ n6_ n7_ n8_ n9_ n10_; (try clear hb); (try clear hb2); (try clear hk); (try clear hi); (try clear ho0); have hcz251_0 : w250.cell? ⟨gb460, 0, none⟩ = some (.int .i64 a4_0) := (blk_cell BK460.out 0).trans rfl; have hcz251_1 : w250.cell? ⟨gb460, 1, none⟩ = some (.int .i64 a4_1) := (blk_cell BK460.out 1).trans rfl; have hfz251_0 := blk_frozen BK460.out 0; have hfz251_1 := blk_frozen BK460.out 1) | ((with_reducible refine gate_callee (f := 23) rfl ?_); refine goesL_ (some 336) rfl rfl Try.func23 (by kernel_rfl) rfl #[.agg #[.int .i64 a4_0, .int .i64 a4_1], .int .i64 a5, .int .i64 a6] rfl (by (try simp only [m_1, m_2, m_3]); first | done | rfl | (simp only [m_4, m_5]; rfl)) ?_; (with_reducible refine (impl_RoundPart.calls kj139 a4_0 a4_1 a5 a6 t516 t519 _ A221.out).mono ?_); rintro e w252 ⟨v517, rfl, ho0, hb⟩; refine ⟨_, rfl, ?_⟩; have n0_ := Aside0.mk (Kd.R_elder' (by (with_reducible repeat (first | apply r_a | apply r_d | apply r_e)); exact HO510.out) (Kd.R_base ho0) hb); have n1_ := Aside0.mk (Kd.R_elder' (by (with_reducible repeat (first | apply r_a | apply r_d | apply r_e)); exact HO514.out) (Kd.R_base ho0) hb); have n2_ := Aside0.mk (Kd.R_lower (Kd.R_new' (Kd.R_new' ho0 (Kd.R_lt (by (with_reducible repeat (first | apply r_a | apply r_d | apply r_e)); exact HO510.out))) (Kd.R_lt (by (with_reducible repeat (first | apply r_a | apply r_d | apply r_e)); exact HO514.out))) (below_size (bB HB))); have n3_ := bbx hb BK458; have n4_ := bbx hb BK459; have n5_ := bbx hb BK460; have n6_ := bbx hb BK461; have n7_ := bbx hb BK473; have n8_ := bbx hb BK477; have n9_ := bbx hb BK481; have n10_ := bbx hb BK485; have n11_ := Aside0.mk (below_step (bB HB) hb); clear HO510; clear HO514; clear BK458; clear BK459; clear BK460; clear BK461; clear BK473; clear BK477; clear BK481; clear BK485; clear HB; have HO510 := n0_; have HO514 := n1_; have HO518 := n2_; have BK458 := n3_; have BK459 := n4_; have BK460 := n5_; have BK461 := n6_; have BK473 := n7_; have BK477 := n8_; have BK481 := n9_; have BK485 := n10_; have HB := n11_; clear n0_ n1_ n2_ n3_ n4_ n5_ n6_ n7_ n8_ n9_ n10_ n11_; (try clear hb); (try clear hb2); (try clear hk); (try clear hi); (try clear ho0); have hcz253_0 : w252.cell? ⟨gb460, 0, none⟩ = some (.int .i64 a4_0) := (blk_cell BK460.out 0).trans rfl; have hcz253_1 : w252.cell? ⟨gb460, 1, none⟩ = some (.int .i64 a4_1) := (blk_cell BK460.out 1).trans rfl; have hfz253_0 := blk_frozen BK460.out 0; have hfz253_1 := blk_frozen BK460.out 1) | ((with_reducible refine gate_callee (f := 24) rfl ?_); refine goesL_ (some 343) rfl rfl Try.func24 (by kernel_rfl) rfl #[.agg #[.int .i64 a4_0, .int .i64 a4_1], .int .i64 a5, .int .i64 a6] rfl (by (try simp only [m_1, m_2, m_3]); first | done | rfl | (simp only [m_4, m_5]; rfl)) ?_; (with_reducible refine (spec_RoundPart.calls kj139 a4_0 a4_1 a5 a6 t520 t523 _ A222.out).mono ?_); rintro e w254 ⟨v521, rfl, ho0, hb⟩; refine ⟨_, rfl, ?_⟩; have n0_ := Aside0.mk (Kd.R_elder' (by (with_reducible repeat (first | apply r_a | apply r_d | apply r_e)); exact HO510.out) (Kd.R_base ho0) hb); have n1_ := Aside0.mk (Kd.R_elder' (by (with_reducible repeat (first | apply r_a | apply r_d | apply r_e)); exact HO514.out) (Kd.R_base ho0) hb); have n2_ := Aside0.mk (Kd.R_elder' (by (with_reducible repeat (first | apply r_a | apply r_d | apply r_e)); exact HO518.out) (Kd.R_base ho0) hb); have n3_ := Aside0.mk (Kd.R_lower (Kd.R_new' (Kd.R_new' (Kd.R_new' ho0 (Kd.R_lt (by (with_reducible repeat (first | apply r_a | apply r_d | apply r_e)); exact HO510.out))) (Kd.R_lt (by (with_reducible repeat (first | apply r_a | apply r_d | apply r_e)); exact HO514.out))) (Kd.R_lt (by (with_reducible repeat (first | apply r_a | apply r_d | apply r_e)); exact HO518.out))) (below_size (bB HB))); have n4_ := bbx hb BK458; have n5_ := bbx hb BK459; have n6_ := bbx hb BK460; have n7_ := bbx hb BK461; have n8_ := bbx hb BK473; have n9_ := bbx hb BK477; have n10_ := bbx hb BK481; have n11_ := bbx hb BK485; have n12_ := Aside0.mk (below_step (bB HB) hb); clear HO510; clear HO514; clear HO518; clear BK458; clear BK459; clear BK460; clear BK461; clear BK473; clear BK477; clear BK481; clear BK485; clear HB; have HO510 := n0_; have HO514 := n1_; have HO518 := n2_; have HO522 := n3_; have BK458 := n4_; have BK459 := n5_; have BK460 := n6_; have BK461 := n7_; have BK473 := n8_; have BK477 := n9_; have BK481 := n10_; have BK485 := n11_; have HB := n12_; clear n0_ n1_ n2_ n3_ n4_ n5_ n6_ n7_ n8_ n9_ n10_ n11_ n12_; (try clear hb); (try clear hb2); (try clear hk); (try clear hi); (try clear ho0); have hnb255 := eq_false NB461_458.out; have hnc255 := eq_false NB458_461.out; have hnb256 := eq_false NB461_473.out; have hnc256 := eq_false NB473_461.out; have hnb257 := eq_false NB461_477.out; have hnc257 := eq_false NB477_461.out; have hnb258 := eq_false NB461_481.out; have hnc258 := eq_false NB481_461.out; have hnb259 := eq_false NB461_485.out; have hnc259 := eq_false NB485_461.out; have hcz260_0 : w254.cell? ⟨gb461, 0, none⟩ = some (.int .i64 a7_0) := (blk_cell BK461.out 0).trans rfl; have hcz260_1 : w254.cell? ⟨gb461, 1, none⟩ = some (.int .i64 a7_1) := (blk_cell BK461.out 1).trans rfl; have hfz260_0 := blk_frozen BK461.out 0; have hfz260_1 := blk_frozen BK461.out 1) | ((with_reducible refine gate_callee (f := 25) rfl ?_); refine goesL_ (some 348) rfl rfl Try.func25 (by kernel_rfl) rfl #[.agg #[.int .i64 a7_0, .int .i64 a7_1]] rfl (by (try simp only [m_1, m_2, m_3]); first | done | rfl | (simp only [m_4, m_5]; rfl)) ?_; (with_reducible refine (impl_WheelTurns.calls kj139 a7_0 a7_1 t524 t527 _ A223.out).mono ?_); rintro e w261 ⟨v525, rfl, ho0, hb⟩; refine ⟨_, rfl, ?_⟩; have n0_ := Aside0.mk (Kd.R_below (by (with_reducible repeat (first | apply r_a | apply r_d | apply r_e)); exact HO510.out) hb); have n1_ := Aside0.mk (Kd.R_below (by (with_reducible repeat (first | apply r_a | apply r_d | apply r_e)); exact HO514.out) hb); have n2_ := Aside0.mk (Kd.R_below (by (with_reducible repeat (first | apply r_a | apply r_d | apply r_e)); exact HO518.out) hb); have n3_ := Aside0.mk (Kd.R_below (by (with_reducible repeat (first | apply r_a | apply r_d | apply r_e)); exact HO522.out) hb); have n4_ := Aside0.mk (Kd.R_lower ho0 (below_size (bB HB))); have n5_ := bbx hb BK458; have n6_ := bbx hb BK459; have n7_ := bbx hb BK460; have n8_ := bbx hb BK461; have n9_ := bbx hb BK473; have n10_ := bbx hb BK477; have n11_ := bbx hb BK481; have n12_ := bbx hb BK485; have n13_ := Aside0.mk (below_step (bB HB) hb); clear HO510; clear HO514; clear HO518; clear HO522; clear BK458; clear BK459; clear BK460; clear BK461; clear BK473; clear BK477; clear BK481; clear BK485; clear HB; have HO510 := n0_; have HO514 := n1_; have HO518 := n2_; have HO522 := n3_; have HO526 := n4_; have BK458 := n5_; have BK459 := n6_; have BK460 := n7_; have BK461 := n8_; have BK473 := n9_; have BK477 := n10_; have BK481 := n11_; have BK485 := n12_; have HB := n13_; clear n0_ n1_ n2_ n3_ n4_ n5_ n6_ n7_ n8_ n9_ n10_ n11_ n12_ n13_; (try clear hb); (try clear hb2); (try clear hk); (try clear hi); (try clear ho0); have hcz262_0 : w261.cell? ⟨gb461, 0, none⟩ = some (.int .i64 a7_0) := (blk_cell BK461.out 0).trans rfl; have hcz262_1 : w261.cell? ⟨gb461, 1, none⟩ = some (.int .i64 a7_1) := (blk_cell BK461.out 1).trans rfl; have hfz262_0 := blk_frozen BK461.out 0; have hfz262_1 := blk_frozen BK461.out 1) | ((with_reducible refine gate_callee (f := 26) rfl ?_); refine goesL_ (some 353) rfl rfl Try.func26 (by kernel_rfl) rfl #[.agg #[.int .i64 a7_0, .int .i64 a7_1]] rfl (by (try simp only [m_1, m_2, m_3]); first | done | rfl | (simp only [m_4, m_5]; rfl)) ?_; (with_reducible refine (spec_WheelTurns.calls kj139 a7_0 a7_1 t528 t531 _ A224.out).mono ?_); rintro e w263 ⟨v529, rfl, ho0, hb⟩; refine ⟨_, rfl, ?_⟩; have n0_ := Aside0.mk (Kd.R_below (by (with_reducible repeat (first | apply r_a | apply r_d | apply r_e)); exact HO510.out) hb); have n1_ := Aside0.mk (Kd.R_below (by (with_reducible repeat (first | apply r_a | apply r_d | apply r_e)); exact HO514.out) hb); have n2_ := Aside0.mk (Kd.R_below (by (with_reducible repeat (first | apply r_a | apply r_d | apply r_e)); exact HO518.out) hb); have n3_ := Aside0.mk (Kd.R_below (by (with_reducible repeat (first | apply r_a | apply r_d | apply r_e)); exact HO522.out) hb); have n4_ := Aside0.mk (Kd.R_elder' (by (with_reducible repeat (first | apply r_a | apply r_d | apply r_e)); exact HO526.out) (Kd.R_base ho0) hb); have n5_ := Aside0.mk (Kd.R_lower (Kd.R_new' ho0 (Kd.R_lt (by (with_reducible repeat (first | apply r_a | apply r_d | apply r_e)); exact HO526.out))) (below_size (bB HB))); have n6_ := bbx hb BK458; have n7_ := bbx hb BK459; have n8_ := bbx hb BK460; have n9_ := bbx hb BK461; have n10_ := bbx hb BK473; have n11_ := bbx hb BK477; have n12_ := bbx hb BK481; have n13_ := bbx hb BK485; have n14_ := Aside0.mk (below_step (bB HB) hb); clear HO510; clear HO514; clear HO518; clear HO522; clear HO526; clear BK458; clear BK459; clear BK460; clear BK461; clear BK473; clear BK477; clear BK481; clear BK485; clear HB; have HO510 := n0_; have HO514 := n1_; have HO518 := n2_; have HO522 := n3_; have HO526 := n4_; have HO530 := n5_; have BK458 := n6_; have BK459 := n7_; have BK460 := n8_; have BK461 := n9_; have BK473 := n10_; have BK477 := n11_; have BK481 := n12_; have BK485 := n13_; have HB := n14_; clear n0_ n1_ n2_ n3_ n4_ n5_ n6_ n7_ n8_ n9_ n10_ n11_ n12_ n13_ n14_; (try clear hb); (try clear hb2); (try clear hk); (try clear hi); (try clear ho0)))
  (try simp only [Act.put, s_1, s_2, s_3])
  go_cut [418] from 1 to 0 (fun v418 wc => ∃ (kq : Nat) (x418_224 : Bool), v418 = .bool x418_224 ∧ Aside0 (laws_FnOrdersTurnOfAll.j3 kq a3 a6 t500 t501 t504 t508 t511 t516 t519 t524 t527 x418_224 a2_0 a2_1 a4_0 a4_1 a7_0 a7_1 = some r) ∧ Aside0 (kq ≤ kj139) ∧ Aside0 (Kd.R Kd.string 9 wc w.heap.size (fun k_ => some k_ ≠ (v517 : Value).ownBlock) v509 t508) ∧ Aside0 (Kd.R Kd.string 9 wc w.heap.size (fun k_ => some k_ ≠ (v509 : Value).ownBlock) v517 t516) ∧ Aside0 (Kd.R (Kd.int .i64) 3 wc w.heap.size (fun _ => True) v525 t524) ∧ Aside0 (wc.heap[gb458]? = some (.cells #[.int .i64 a0_0, .int .i64 a0_1] 26 (0, 0))) ∧ Aside0 (wc.heap[gb459]? = some (.cells #[.int .i64 a2_0, .int .i64 a2_1] 26 (0, 0))) ∧ Aside0 (wc.heap[gb460]? = some (.cells #[.int .i64 a4_0, .int .i64 a4_1] 26 (0, 0))) ∧ Aside0 (wc.heap[gb461]? = some (.cells #[.int .i64 a7_0, .int .i64 a7_1] 26 (0, 0))) ∧ Aside0 (wc.heap[gb473]? = some (.cells #[.int .i64 t470, .int .i64 t471] 32 (0, 0))) ∧ Aside0 (wc.heap[gb477]? = some (.cells #[.int .i64 t474, .int .i64 t475] 32 (0, 0))) ∧ Aside0 (wc.heap[gb481]? = some (.cells #[.int .i64 t478, .int .i64 t479] 32 (0, 0))) ∧ Aside0 (wc.heap[gb485]? = some (.cells #[.int .i64 t482, .int .i64 t483] 32 (0, 0))) ∧ Aside0 (Below w.heap.size w wc))
  case first => as_aux_lemma =>
    have H := HC225.out
    clear HC225
    by_cases c264 : (t501 != t503) = true
    · rw [if_pos c264] at H
      have c264b0 : (t501 != t503) = true := c264
      (try (have c264b1 : decide (t501 = t503) = false := by simpa using c264))
      (try (have c264b2 : (t501 == t503) = false := by simpa using c264))
      (try (have c264b3 : ¬ (t501 = t503) := by simpa using c264))
      clear c264
      (first | rw [c264b0] | (simp only [i64_w, i32_w]; rw [c264b0]) | skip)
      rw [HRT.out] at H
      exact absurd H (by generalize kj139 = q_; cases q_ <;> simp [laws_FnOrdersTurnOfAll.j3])
    rw [if_neg c264] at H
    have c264b0 : (t501 != t503) = false := by simpa using c264
    (try (have c264b1 : decide (t501 = t503) = true := by simpa using c264))
    (try (have c264b2 : (t501 == t503) = true := by simpa using c264))
    clear c264
    (first | rw [c264b0] | (simp only [i64_w, i32_w]; rw [c264b0]) | skip)
    by_cases c265 : t500 = t502
    rotate_left
    · rw [if_neg c265] at H
      have c265b0 : (t500 == t502) = false := beq_eq_false_iff_ne.mpr c265
      have c265b1 : (t500 != t502) = true := bne_iff_ne.mpr c265
      rw [HRT.out] at H
      exact absurd H (by generalize kj139 = q_; cases q_ <;> simp [laws_FnOrdersTurnOfAll.j3])
    rw [if_pos c265] at H
    have c265b0 : (t500 == t502) = true := beq_iff_eq.mpr c265
    have c265b1 : (t500 != t502) = false := bne_eq_false_iff_eq.mpr c265
    clear c265
    by_cases c266 : (t505 != t507) = true
    · rw [if_pos c266] at H
      have c266b0 : (t505 != t507) = true := c266
      (try (have c266b1 : decide (t505 = t507) = false := by simpa using c266))
      (try (have c266b2 : (t505 == t507) = false := by simpa using c266))
      (try (have c266b3 : ¬ (t505 = t507) := by simpa using c266))
      clear c266
      rw [HRT.out] at H
      exact absurd H (by generalize kj139 = q_; cases q_ <;> simp [laws_FnOrdersTurnOfAll.j3])
    rw [if_neg c266] at H
    have c266b0 : (t505 != t507) = false := by simpa using c266
    (try (have c266b1 : decide (t505 = t507) = true := by simpa using c266))
    (try (have c266b2 : (t505 == t507) = true := by simpa using c266))
    clear c266
    by_cases c267 : t504 = t506
    rotate_left
    · rw [if_neg c267] at H
      have c267b0 : (t504 == t506) = false := beq_eq_false_iff_ne.mpr c267
      have c267b1 : (t504 != t506) = true := bne_iff_ne.mpr c267
      rw [HRT.out] at H
      exact absurd H (by generalize kj139 = q_; cases q_ <;> simp [laws_FnOrdersTurnOfAll.j3])
    rw [if_pos c267] at H
    have c267b0 : (t504 == t506) = true := beq_iff_eq.mpr c267
    have c267b1 : (t504 != t506) = false := bne_eq_false_iff_eq.mpr c267
    clear c267
    by_cases c268 : (t505 != t501) = true
    · rw [if_pos c268] at H
      have c268b0 : (t505 != t501) = true := c268
      (try (have c268b1 : decide (t505 = t501) = false := by simpa using c268))
      (try (have c268b2 : (t505 == t501) = false := by simpa using c268))
      (try (have c268b3 : ¬ (t505 = t501) := by simpa using c268))
      clear c268
      rw [HRT.out] at H
      exact absurd H (by generalize kj139 = q_; cases q_ <;> simp [laws_FnOrdersTurnOfAll.j3])
    rw [if_neg c268] at H
    have c268b0 : (t505 != t501) = false := by simpa using c268
    (try (have c268b1 : decide (t505 = t501) = true := by simpa using c268))
    (try (have c268b2 : (t505 == t501) = true := by simpa using c268))
    clear c268
    by_cases c269 : (t511 != t515) = true
    · rw [if_pos c269] at H
      have c269b0 : (t511 != t515) = true := c269
      (try (have c269b1 : decide (t511 = t515) = false := by simpa using c269))
      (try (have c269b2 : (t511 == t515) = false := by simpa using c269))
      (try (have c269b3 : ¬ (t511 = t515) := by simpa using c269))
      clear c269
      rw [HRT.out] at H
      exact absurd H (by generalize kj139 = q_; cases q_ <;> simp [laws_FnOrdersTurnOfAll.j3])
    rw [if_neg c269] at H
    have c269b0 : (t511 != t515) = false := by simpa using c269
    (try (have c269b1 : decide (t511 = t515) = true := by simpa using c269))
    (try (have c269b2 : (t511 == t515) = true := by simpa using c269))
    clear c269
    replace H := Option.bind_eq_some_iff.mp H
    obtain ⟨t532, A2700, H⟩ := H
    try dsimp only at H
    have A270 := Aside0.mk A2700
    clear A2700
    by_cases c271 : t532 = true
    rotate_left
    · replace c271 := Bool.eq_false_iff.mpr c271
      subst c271
      rw [if_neg (show ¬ (false = true) by decide)] at H
      rw [HRT.out] at H
      exact absurd H (by generalize kj139 = q_; cases q_ <;> simp [laws_FnOrdersTurnOfAll.j3])
    subst c271
    rw [if_pos rfl] at H
    by_cases c272 : (t519 != t523) = true
    · rw [if_pos c272] at H
      have c272b0 : (t519 != t523) = true := c272
      (try (have c272b1 : decide (t519 = t523) = false := by simpa using c272))
      (try (have c272b2 : (t519 == t523) = false := by simpa using c272))
      (try (have c272b3 : ¬ (t519 = t523) := by simpa using c272))
      clear c272
      rw [HRT.out] at H
      exact absurd H (by generalize kj139 = q_; cases q_ <;> simp [laws_FnOrdersTurnOfAll.j3])
    rw [if_neg c272] at H
    have c272b0 : (t519 != t523) = false := by simpa using c272
    (try (have c272b1 : decide (t519 = t523) = true := by simpa using c272))
    (try (have c272b2 : (t519 == t523) = true := by simpa using c272))
    clear c272
    replace H := Option.bind_eq_some_iff.mp H
    obtain ⟨t533, A2730, H⟩ := H
    try dsimp only at H
    have A273 := Aside0.mk A2730
    clear A2730
    by_cases c274 : t533 = true
    rotate_left
    · replace c274 := Bool.eq_false_iff.mpr c274
      subst c274
      rw [if_neg (show ¬ (false = true) by decide)] at H
      rw [HRT.out] at H
      exact absurd H (by generalize kj139 = q_; cases q_ <;> simp [laws_FnOrdersTurnOfAll.j3])
    subst c274
    rw [if_pos rfl] at H
    by_cases c275 : t511 = true
    rotate_left
    · replace c275 := Bool.eq_false_iff.mpr c275
      subst c275
      rw [if_neg (show ¬ (false = true) by decide)] at H
      by_cases c285 : (t527 != t531) = true
      · rw [if_pos c285] at H
        have c285b0 : (t527 != t531) = true := c285
        (try (have c285b1 : decide (t527 = t531) = false := by simpa using c285))
        (try (have c285b2 : (t527 == t531) = false := by simpa using c285))
        (try (have c285b3 : ¬ (t527 = t531) := by simpa using c285))
        clear c285
        rw [HRT.out] at H
        exact absurd H (by generalize kj139 = q_; cases q_ <;> simp [laws_FnOrdersTurnOfAll.j3])
      rw [if_neg c285] at H
      have c285b0 : (t527 != t531) = false := by simpa using c285
      (try (have c285b1 : decide (t527 = t531) = true := by simpa using c285))
      (try (have c285b2 : (t527 == t531) = true := by simpa using c285))
      clear c285
      replace H := Option.bind_eq_some_iff.mp H
      obtain ⟨t535, A2860, H⟩ := H
      try dsimp only at H
      have A286 := Aside0.mk A2860
      clear A2860
      have H' := Aside0.mk H
      clear H
      obtain ⟨Ao287, co287, eo287⟩ := Kd.R_slice HO510.out
      subst eo287
      obtain ⟨Ao288, co288, eo288⟩ := Kd.R_slice HO514.out
      subst eo288
      go_wp2_with (first | (go_at_call 27; (with_reducible refine (laws_aTexts.calls kj139 _ _ t508 _ _ t512 true _ ?side1 ?side2 ?side3 ?side4 A270.out).mono ?_); (case side1 => repeat (first | exact (Kd.R_reads' HO510.out).2.2 | (with_reducible refine Kd.C_alloc ?_ _) | (with_reducible refine Kd.C_drewN ?_ _) | (with_reducible refine Kd.C_drew ?_))); (case side2 => exact (Kd.R_reads' HO510.out).2.1); (case side3 => repeat (first | exact (Kd.R_reads' HO514.out).2.2 | (with_reducible refine Kd.C_alloc ?_ _) | (with_reducible refine Kd.C_drewN ?_ _) | (with_reducible refine Kd.C_drew ?_))); (case side4 => exact (Kd.R_reads' HO514.out).2.1); rintro e w' ⟨rfl, ⟨nd, rfl⟩⟩; obtain ⟨Ao289, co289, eo289⟩ := Kd.R_slice HO518.out; subst eo289; obtain ⟨Ao290, co290, eo290⟩ := Kd.R_slice HO522.out; subst eo290) | (go_at_call 27; (with_reducible refine (laws_aTexts.calls kj139 _ _ t516 _ _ t520 true _ ?side1 ?side2 ?side3 ?side4 A273.out).mono ?_); (case side1 => repeat (first | exact (Kd.R_reads' HO518.out).2.2 | (with_reducible refine Kd.C_alloc ?_ _) | (with_reducible refine Kd.C_drewN ?_ _) | (with_reducible refine Kd.C_drew ?_))); (case side2 => exact (Kd.R_reads' HO518.out).2.1); (case side3 => repeat (first | exact (Kd.R_reads' HO522.out).2.2 | (with_reducible refine Kd.C_alloc ?_ _) | (with_reducible refine Kd.C_drewN ?_ _) | (with_reducible refine Kd.C_drew ?_))); (case side4 => exact (Kd.R_reads' HO522.out).2.1); rintro e w' ⟨rfl, ⟨nd, rfl⟩⟩; obtain ⟨Ao291, co291, eo291⟩ := Kd.R_slice HO526.out; subst eo291; obtain ⟨Ao292, co292, eo292⟩ := Kd.R_slice HO530.out; subst eo292) | (go_at_call 28; (with_reducible refine (laws_aSame.calls kj139 _ _ t524 _ _ t528 t535 _ ?side1 ?side2 ?side3 ?side4 A286.out).mono ?_); (case side1 => repeat (first | exact (Kd.R_reads' HO526.out).2.2 | (with_reducible refine Kd.C_alloc ?_ _) | (with_reducible refine Kd.C_drewN ?_ _) | (with_reducible refine Kd.C_drew ?_))); (case side2 => exact (Kd.R_reads' HO526.out).2.1); (case side3 => repeat (first | exact (Kd.R_reads' HO530.out).2.2 | (with_reducible refine Kd.C_alloc ?_ _) | (with_reducible refine Kd.C_drewN ?_ _) | (with_reducible refine Kd.C_drew ?_))); (case side4 => exact (Kd.R_reads' HO530.out).2.1); rintro e w' ⟨rfl, ⟨nd, rfl⟩⟩))
      go_meet
      case rel => refine ⟨_, (!t535), (by first | rfl | (simp; done) | (simp [*]; done)), H', ⟨by have := HJ21.out; have := HJ139.out; first | omega | exact Nat.le_refl _⟩, ⟨by (with_reducible repeat (first | apply r_a | apply r_d | apply r_e)); exact Kd.R_mono HO510.out (fun _ hk => hk.1.2)⟩, ⟨by (with_reducible repeat (first | apply r_a | apply r_d | apply r_e)); exact Kd.R_mono HO518.out (fun _ hk => hk.1.1.2)⟩, ⟨by (with_reducible repeat (first | apply r_a | apply r_d | apply r_e)); exact Kd.R_mono HO526.out (fun _ hk => trivial)⟩, ⟨?_⟩, ⟨?_⟩, ⟨?_⟩, ⟨?_⟩, ⟨?_⟩, ⟨?_⟩, ⟨?_⟩, ⟨?_⟩, ⟨bB HB⟩⟩ <;> (with_reducible repeat (first | refine g_d ?_ _ | refine g_e ?_ | refine g_a ?_ _)) <;> first | exact BK458.out | exact BK459.out | exact BK460.out | exact BK461.out | exact BK473.out | exact BK477.out | exact BK481.out | exact BK485.out
    subst c275
    rw [if_pos rfl] at H
    by_cases c276 : t519 = true
    rotate_left
    · replace c276 := Bool.eq_false_iff.mpr c276
      subst c276
      rw [if_neg (show ¬ (false = true) by decide)] at H
      rw [HRT.out] at H
      exact absurd H (by generalize kj139 = q_; cases q_ <;> simp [laws_FnOrdersTurnOfAll.j3])
    subst c276
    rw [if_pos rfl] at H
    by_cases c277 : (t527 != t531) = true
    · rw [if_pos c277] at H
      have c277b0 : (t527 != t531) = true := c277
      (try (have c277b1 : decide (t527 = t531) = false := by simpa using c277))
      (try (have c277b2 : (t527 == t531) = false := by simpa using c277))
      (try (have c277b3 : ¬ (t527 = t531) := by simpa using c277))
      clear c277
      rw [HRT.out] at H
      exact absurd H (by generalize kj139 = q_; cases q_ <;> simp [laws_FnOrdersTurnOfAll.j3])
    rw [if_neg c277] at H
    have c277b0 : (t527 != t531) = false := by simpa using c277
    (try (have c277b1 : decide (t527 = t531) = true := by simpa using c277))
    (try (have c277b2 : (t527 == t531) = true := by simpa using c277))
    clear c277
    replace H := Option.bind_eq_some_iff.mp H
    obtain ⟨t534, A2780, H⟩ := H
    try dsimp only at H
    have A278 := Aside0.mk A2780
    clear A2780
    have H' := Aside0.mk H
    clear H
    obtain ⟨Ao279, co279, eo279⟩ := Kd.R_slice HO510.out
    subst eo279
    obtain ⟨Ao280, co280, eo280⟩ := Kd.R_slice HO514.out
    subst eo280
    go_wp2_with (first | (go_at_call 27; (with_reducible refine (laws_aTexts.calls kj139 _ _ t508 _ _ t512 true _ ?side1 ?side2 ?side3 ?side4 A270.out).mono ?_); (case side1 => repeat (first | exact (Kd.R_reads' HO510.out).2.2 | (with_reducible refine Kd.C_alloc ?_ _) | (with_reducible refine Kd.C_drewN ?_ _) | (with_reducible refine Kd.C_drew ?_))); (case side2 => exact (Kd.R_reads' HO510.out).2.1); (case side3 => repeat (first | exact (Kd.R_reads' HO514.out).2.2 | (with_reducible refine Kd.C_alloc ?_ _) | (with_reducible refine Kd.C_drewN ?_ _) | (with_reducible refine Kd.C_drew ?_))); (case side4 => exact (Kd.R_reads' HO514.out).2.1); rintro e w' ⟨rfl, ⟨nd, rfl⟩⟩; obtain ⟨Ao281, co281, eo281⟩ := Kd.R_slice HO518.out; subst eo281; obtain ⟨Ao282, co282, eo282⟩ := Kd.R_slice HO522.out; subst eo282) | (go_at_call 27; (with_reducible refine (laws_aTexts.calls kj139 _ _ t516 _ _ t520 true _ ?side1 ?side2 ?side3 ?side4 A273.out).mono ?_); (case side1 => repeat (first | exact (Kd.R_reads' HO518.out).2.2 | (with_reducible refine Kd.C_alloc ?_ _) | (with_reducible refine Kd.C_drewN ?_ _) | (with_reducible refine Kd.C_drew ?_))); (case side2 => exact (Kd.R_reads' HO518.out).2.1); (case side3 => repeat (first | exact (Kd.R_reads' HO522.out).2.2 | (with_reducible refine Kd.C_alloc ?_ _) | (with_reducible refine Kd.C_drewN ?_ _) | (with_reducible refine Kd.C_drew ?_))); (case side4 => exact (Kd.R_reads' HO522.out).2.1); rintro e w' ⟨rfl, ⟨nd, rfl⟩⟩; obtain ⟨Ao283, co283, eo283⟩ := Kd.R_slice HO526.out; subst eo283; obtain ⟨Ao284, co284, eo284⟩ := Kd.R_slice HO530.out; subst eo284) | (go_at_call 28; (with_reducible refine (laws_aSame.calls kj139 _ _ t524 _ _ t528 t534 _ ?side1 ?side2 ?side3 ?side4 A278.out).mono ?_); (case side1 => repeat (first | exact (Kd.R_reads' HO526.out).2.2 | (with_reducible refine Kd.C_alloc ?_ _) | (with_reducible refine Kd.C_drewN ?_ _) | (with_reducible refine Kd.C_drew ?_))); (case side2 => exact (Kd.R_reads' HO526.out).2.1); (case side3 => repeat (first | exact (Kd.R_reads' HO530.out).2.2 | (with_reducible refine Kd.C_alloc ?_ _) | (with_reducible refine Kd.C_drewN ?_ _) | (with_reducible refine Kd.C_drew ?_))); (case side4 => exact (Kd.R_reads' HO530.out).2.1); rintro e w' ⟨rfl, ⟨nd, rfl⟩⟩))
    go_meet
    case rel => refine ⟨_, (!t534), (by first | rfl | (simp; done) | (simp [*]; done)), H', ⟨by have := HJ21.out; have := HJ139.out; first | omega | exact Nat.le_refl _⟩, ⟨by (with_reducible repeat (first | apply r_a | apply r_d | apply r_e)); exact Kd.R_mono HO510.out (fun _ hk => hk.1.2)⟩, ⟨by (with_reducible repeat (first | apply r_a | apply r_d | apply r_e)); exact Kd.R_mono HO518.out (fun _ hk => hk.1.1.2)⟩, ⟨by (with_reducible repeat (first | apply r_a | apply r_d | apply r_e)); exact Kd.R_mono HO526.out (fun _ hk => trivial)⟩, ⟨?_⟩, ⟨?_⟩, ⟨?_⟩, ⟨?_⟩, ⟨?_⟩, ⟨?_⟩, ⟨?_⟩, ⟨?_⟩, ⟨bB HB⟩⟩ <;> (with_reducible repeat (first | refine g_d ?_ _ | refine g_e ?_ | refine g_a ?_ _)) <;> first | exact BK458.out | exact BK459.out | exact BK460.out | exact BK461.out | exact BK473.out | exact BK477.out | exact BK481.out | exact BK485.out
  clear HC225
  try clear hcz233_0
  try clear hcz233_1
  try clear hcz235_0
  try clear hcz235_1
  try clear hcz237_0
  try clear hcz237_1
  try clear hcz239_0
  try clear hcz239_1
  try clear hcz247_0
  try clear hcz247_1
  try clear hcz249_0
  try clear hcz249_1
  try clear hcz251_0
  try clear hcz251_1
  try clear hcz253_0
  try clear hcz253_1
  try clear hcz260_0
  try clear hcz260_1
  try clear hcz262_0
  try clear hcz262_1
  try clear hfz233_0
  try clear hfz233_1
  try clear hfz235_0
  try clear hfz235_1
  try clear hfz237_0
  try clear hfz237_1
  try clear hfz239_0
  try clear hfz239_1
  try clear hfz247_0
  try clear hfz247_1
  try clear hfz249_0
  try clear hfz249_1
  try clear hfz251_0
  try clear hfz251_1
  try clear hfz253_0
  try clear hfz253_1
  try clear hfz260_0
  try clear hfz260_1
  try clear hfz262_0
  try clear hfz262_1
  obtain ⟨kq, x418_224, rfl, HA, HJ224, HO_55, HO_59, HO_63, BK458, BK459, BK460, BK461, BK473, BK477, BK481, BK485, HB⟩ := hcut
  rcases kq with _ | kj224
  · exact absurd HA.out (by simp [laws_FnOrdersTurnOfAll.j3])
  have H := HA.out
  clear HA
  simp only [laws_FnOrdersTurnOfAll.j3] at H
  by_cases c293 : x418_224 = true
  · subst c293
    rw [if_pos rfl] at H
    rw [HRT.out] at H
    exact absurd H (by simp)
  replace c293 := Bool.eq_false_iff.mpr c293
  subst c293
  rw [if_neg (show ¬ (false = true) by decide)] at H
  have HC294 := Aside0.mk H
  clear H
  go_upto_if 419 with (fail)
  go_cut [] from 1 to 0 (fun wc => ∃ (kq : Nat), Aside0 (laws_FnOrdersTurnOfAll.j4 kq a6 t508 t511 t516 t519 t524 t527 a4_0 a4_1 a7_0 a7_1 = some r) ∧ Aside0 (kq ≤ kj224) ∧ Aside0 (Kd.R Kd.string 9 wc w.heap.size (fun k_ => some k_ ≠ (v517 : Value).ownBlock) v509 t508) ∧ Aside0 (Kd.R Kd.string 9 wc w.heap.size (fun k_ => some k_ ≠ (v509 : Value).ownBlock) v517 t516) ∧ Aside0 (Kd.R (Kd.int .i64) 3 wc w.heap.size (fun _ => True) v525 t524) ∧ Aside0 (wc.heap[gb458]? = some (.cells #[.int .i64 a0_0, .int .i64 a0_1] 26 (0, 0))) ∧ Aside0 (wc.heap[gb459]? = some (.cells #[.int .i64 a2_0, .int .i64 a2_1] 26 (0, 0))) ∧ Aside0 (wc.heap[gb460]? = some (.cells #[.int .i64 a4_0, .int .i64 a4_1] 26 (0, 0))) ∧ Aside0 (wc.heap[gb461]? = some (.cells #[.int .i64 a7_0, .int .i64 a7_1] 26 (0, 0))) ∧ Aside0 (wc.heap[gb473]? = some (.cells #[.int .i64 t470, .int .i64 t471] 32 (0, 0))) ∧ Aside0 (wc.heap[gb477]? = some (.cells #[.int .i64 t474, .int .i64 t475] 32 (0, 0))) ∧ Aside0 (wc.heap[gb481]? = some (.cells #[.int .i64 t478, .int .i64 t479] 32 (0, 0))) ∧ Aside0 (wc.heap[gb485]? = some (.cells #[.int .i64 t482, .int .i64 t483] 32 (0, 0))) ∧ Aside0 (Below w.heap.size w wc))
  case first => as_aux_lemma =>
    have H := HC294.out
    clear HC294
    by_cases c295 : t501 = true
    rotate_left
    · replace c295 := Bool.eq_false_iff.mpr c295
      subst c295
      rw [if_neg (show ¬ (false = true) by decide)] at H
      have H' := Aside0.mk H
      clear H
      go_wp2
      go_meet
      case rel => refine ⟨_, H', ⟨by have := HJ21.out; have := HJ139.out; have := HJ224.out; first | omega | exact Nat.le_refl _⟩, ⟨?_⟩, ⟨?_⟩, ⟨?_⟩, ⟨?_⟩, ⟨?_⟩, ⟨?_⟩, ⟨?_⟩, ⟨?_⟩, ⟨?_⟩, ⟨?_⟩, ⟨?_⟩, ⟨bB HB⟩⟩ <;> (with_reducible repeat (first | refine g_d ?_ _ | refine g_e ?_ | refine g_a ?_ _ | apply r_a | apply r_d | apply r_e)) <;> first | exact BK458.out | exact BK459.out | exact BK460.out | exact BK461.out | exact BK473.out | exact BK477.out | exact BK481.out | exact BK485.out | exact HO_55.out | exact HO_59.out | exact HO_63.out
    subst c295
    rw [if_pos rfl] at H
    replace H := Option.bind_eq_some_iff.mp H
    obtain ⟨⟨t536, t537⟩, A2960, H⟩ := H
    try dsimp only at H
    have A296 := Aside0.mk A2960
    clear A2960
    replace H := Option.bind_eq_some_iff.mp H
    obtain ⟨⟨t538, t539⟩, A2970, H⟩ := H
    try dsimp only at H
    have A297 := Aside0.mk A2970
    clear A2970
    by_cases c298 : t537 = true
    rotate_left
    · replace c298 := Bool.eq_false_iff.mpr c298
      subst c298
      rw [if_neg (show ¬ (false = true) by decide)] at H
      rw [HRT.out] at H
      exact absurd H (by simp)
    subst c298
    rw [if_pos rfl] at H
    by_cases c299 : t536.toList = a3.toList
    rotate_left
    · rw [if_neg c299] at H
      have c299b0 : (t536.toList == a3.toList) = false := beq_eq_false_iff_ne.mpr c299
      have c299b1 : (t536.toList != a3.toList) = true := bne_iff_ne.mpr c299
      (first | rw [c299b0] | (simp only [i64_w, i32_w]; rw [c299b0]) | skip)
      rw [HRT.out] at H
      exact absurd H (by simp)
    rw [if_pos c299] at H
    have c299b0 : (t536.toList == a3.toList) = true := beq_iff_eq.mpr c299
    have c299b1 : (t536.toList != a3.toList) = false := bne_eq_false_iff_eq.mpr c299
    clear c299
    (first | rw [c299b0] | (simp only [i64_w, i32_w]; rw [c299b0]) | skip)
    by_cases c300 : t539 = true
    rotate_left
    · replace c300 := Bool.eq_false_iff.mpr c300
      subst c300
      rw [if_neg (show ¬ (false = true) by decide)] at H
      rw [HRT.out] at H
      exact absurd H (by simp)
    subst c300
    rw [if_pos rfl] at H
    by_cases c301 : t538.toList = a3.toList
    rotate_left
    · rw [if_neg c301] at H
      have c301b0 : (t538.toList == a3.toList) = false := beq_eq_false_iff_ne.mpr c301
      have c301b1 : (t538.toList != a3.toList) = true := bne_iff_ne.mpr c301
      rw [HRT.out] at H
      exact absurd H (by simp)
    rw [if_pos c301] at H
    have c301b0 : (t538.toList == a3.toList) = true := beq_iff_eq.mpr c301
    have c301b1 : (t538.toList != a3.toList) = false := bne_eq_false_iff_eq.mpr c301
    clear c301
    have H' := Aside0.mk H
    clear H
    have hnb302 := eq_false NB459_458.out
    have hnc302 := eq_false NB458_459.out
    have hnb303 := eq_false NB459_460.out
    have hnc303 := eq_false NB460_459.out
    have hnb304 := eq_false NB459_461.out
    have hnc304 := eq_false NB461_459.out
    have hnb305 := eq_false NB459_473.out
    have hnc305 := eq_false NB473_459.out
    have hnb306 := eq_false NB459_477.out
    have hnc306 := eq_false NB477_459.out
    have hnb307 := eq_false NB459_481.out
    have hnc307 := eq_false NB481_459.out
    have hnb308 := eq_false NB459_485.out
    have hnc308 := eq_false NB485_459.out
    have hcz309_0 : wc.cell? ⟨gb459, 0, none⟩ = some (.int .i64 a2_0) := (blk_cell BK459.out 0).trans rfl
    have hcz309_1 : wc.cell? ⟨gb459, 1, none⟩ = some (.int .i64 a2_1) := (blk_cell BK459.out 1).trans rfl
    have hfz309_0 := blk_frozen BK459.out 0
    have hfz309_1 := blk_frozen BK459.out 1
    go_wp2_with (first | ((with_reducible refine gate_callee (f := 11) rfl ?_); refine goesL_ (some 423) rfl rfl Try.func11 (by kernel_rfl) rfl #[.agg #[.int .i64 a2_0, .int .i64 a2_1], .int .i64 t500] rfl (by (try simp only [m_1, m_2, m_3]); first | done | rfl | (simp only [m_4, m_5]; rfl)) ?_; (with_reducible refine (impl_ForthCode.calls kj224 a2_0 a2_1 t500 t536 true _ A296.out).mono ?_); rintro e w310 ⟨rfl, hb⟩; refine ⟨_, rfl, ?_⟩; have n0_ := Aside0.mk (Kd.R_below (by (with_reducible repeat (first | apply r_a | apply r_d | apply r_e)); exact HO_55.out) hb); have n1_ := Aside0.mk (Kd.R_below (by (with_reducible repeat (first | apply r_a | apply r_d | apply r_e)); exact HO_59.out) hb); have n2_ := Aside0.mk (Kd.R_below (by (with_reducible repeat (first | apply r_a | apply r_d | apply r_e)); exact HO_63.out) hb); have n3_ := bbx hb BK458; have n4_ := bbx hb BK459; have n5_ := bbx hb BK460; have n6_ := bbx hb BK461; have n7_ := bbx hb BK473; have n8_ := bbx hb BK477; have n9_ := bbx hb BK481; have n10_ := bbx hb BK485; have n11_ := Aside0.mk (below_step (bB HB) hb); clear HO_55; clear HO_59; clear HO_63; clear BK458; clear BK459; clear BK460; clear BK461; clear BK473; clear BK477; clear BK481; clear BK485; clear HB; have HO_55 := n0_; have HO_59 := n1_; have HO_63 := n2_; have BK458 := n3_; have BK459 := n4_; have BK460 := n5_; have BK461 := n6_; have BK473 := n7_; have BK477 := n8_; have BK481 := n9_; have BK485 := n10_; have HB := n11_; clear n0_ n1_ n2_ n3_ n4_ n5_ n6_ n7_ n8_ n9_ n10_ n11_; (try clear hb); (try clear hb2); (try clear hk); (try clear hi); have hcz311_0 : w310.cell? ⟨gb459, 0, none⟩ = some (.int .i64 a2_0) := (blk_cell BK459.out 0).trans rfl; have hcz311_1 : w310.cell? ⟨gb459, 1, none⟩ = some (.int .i64 a2_1) := (blk_cell BK459.out 1).trans rfl; have hfz311_0 := blk_frozen BK459.out 0; have hfz311_1 := blk_frozen BK459.out 1) | ((with_reducible refine gate_callee (f := 9) rfl ?_); refine goesL_ (some 429) rfl rfl Try.func9 (by kernel_rfl) rfl #[.agg #[.int .i64 a2_0, .int .i64 a2_1], .int .i64 t504] rfl (by (try simp only [m_1, m_2, m_3]); first | done | rfl | (simp only [m_4, m_5]; rfl)) ?_; (with_reducible refine (impl_RoundCode.calls kj224 a2_0 a2_1 t504 t538 true _ A297.out).mono ?_); rintro e w312 ⟨rfl, hb⟩; refine ⟨_, rfl, ?_⟩; have n0_ := Aside0.mk (Kd.R_below (by (with_reducible repeat (first | apply r_a | apply r_d | apply r_e)); exact HO_55.out) hb); have n1_ := Aside0.mk (Kd.R_below (by (with_reducible repeat (first | apply r_a | apply r_d | apply r_e)); exact HO_59.out) hb); have n2_ := Aside0.mk (Kd.R_below (by (with_reducible repeat (first | apply r_a | apply r_d | apply r_e)); exact HO_63.out) hb); have n3_ := bbx hb BK458; have n4_ := bbx hb BK459; have n5_ := bbx hb BK460; have n6_ := bbx hb BK461; have n7_ := bbx hb BK473; have n8_ := bbx hb BK477; have n9_ := bbx hb BK481; have n10_ := bbx hb BK485; have n11_ := Aside0.mk (below_step (bB HB) hb); clear HO_55; clear HO_59; clear HO_63; clear BK458; clear BK459; clear BK460; clear BK461; clear BK473; clear BK477; clear BK481; clear BK485; clear HB; have HO_55 := n0_; have HO_59 := n1_; have HO_63 := n2_; have BK458 := n3_; have BK459 := n4_; have BK460 := n5_; have BK461 := n6_; have BK473 := n7_; have BK477 := n8_; have BK481 := n9_; have BK485 := n10_; have HB := n11_; clear n0_ n1_ n2_ n3_ n4_ n5_ n6_ n7_ n8_ n9_ n10_ n11_; (try clear hb); (try clear hb2); (try clear hk); (try clear hi)))
    go_meet
    case rel => refine ⟨_, H', ⟨by have := HJ21.out; have := HJ139.out; have := HJ224.out; first | omega | exact Nat.le_refl _⟩, ⟨?_⟩, ⟨?_⟩, ⟨?_⟩, ⟨?_⟩, ⟨?_⟩, ⟨?_⟩, ⟨?_⟩, ⟨?_⟩, ⟨?_⟩, ⟨?_⟩, ⟨?_⟩, ⟨bB HB⟩⟩ <;> (with_reducible repeat (first | refine g_d ?_ _ | refine g_e ?_ | refine g_a ?_ _ | apply r_a | apply r_d | apply r_e)) <;> first | exact BK458.out | exact BK459.out | exact BK460.out | exact BK461.out | exact BK473.out | exact BK477.out | exact BK481.out | exact BK485.out | exact HO_55.out | exact HO_59.out | exact HO_63.out
  clear HC294
  try clear c293
  obtain ⟨kq, HA, HJ293, HO_55, HO_59, HO_63, BK458, BK459, BK460, BK461, BK473, BK477, BK481, BK485, HB⟩ := hcut
  rcases kq with _ | kj293
  · exact absurd HA.out (by simp [laws_FnOrdersTurnOfAll.j4])
  have H := HA.out
  clear HA
  simp only [laws_FnOrdersTurnOfAll.j4] at H
  have HC313 := Aside0.mk H
  clear H
  go_upto_if 448 with (fail)
  go_cut [] from 1 to 0 (fun wc => ∃ (kq : Nat), Aside0 (laws_FnOrdersTurnOfAll.j5 kq a6 t516 t519 t524 t527 a4_0 a4_1 a7_0 a7_1 = some r) ∧ Aside0 (kq ≤ kj293) ∧ Aside0 (Kd.R Kd.string 9 wc w.heap.size (fun _ => True) v517 t516) ∧ Aside0 (Kd.R (Kd.int .i64) 3 wc w.heap.size (fun _ => True) v525 t524) ∧ Aside0 (wc.heap[gb458]? = some (.cells #[.int .i64 a0_0, .int .i64 a0_1] 26 (0, 0))) ∧ Aside0 (wc.heap[gb459]? = some (.cells #[.int .i64 a2_0, .int .i64 a2_1] 26 (0, 0))) ∧ Aside0 (wc.heap[gb460]? = some (.cells #[.int .i64 a4_0, .int .i64 a4_1] 26 (0, 0))) ∧ Aside0 (wc.heap[gb461]? = some (.cells #[.int .i64 a7_0, .int .i64 a7_1] 26 (0, 0))) ∧ Aside0 (wc.heap[gb473]? = some (.cells #[.int .i64 t470, .int .i64 t471] 32 (0, 0))) ∧ Aside0 (wc.heap[gb477]? = some (.cells #[.int .i64 t474, .int .i64 t475] 32 (0, 0))) ∧ Aside0 (wc.heap[gb481]? = some (.cells #[.int .i64 t478, .int .i64 t479] 32 (0, 0))) ∧ Aside0 (wc.heap[gb485]? = some (.cells #[.int .i64 t482, .int .i64 t483] 32 (0, 0))) ∧ Aside0 (Below w.heap.size w wc))
  case first => as_aux_lemma =>
    have H := HC313.out
    clear HC313
    by_cases c314 : t511 = true
    rotate_left
    · replace c314 := Bool.eq_false_iff.mpr c314
      subst c314
      rw [if_neg (show ¬ (false = true) by decide)] at H
      have H' := Aside0.mk H
      clear H
      go_wp2
      go_meet
      case rel => refine ⟨_, H', ⟨by have := HJ21.out; have := HJ139.out; have := HJ224.out; have := HJ293.out; first | omega | exact Nat.le_refl _⟩, ⟨by (with_reducible repeat (first | apply r_a | apply r_d | apply r_e)); exact Kd.R_mono HO_59.out (fun _ hk => trivial)⟩, ⟨?_⟩, ⟨?_⟩, ⟨?_⟩, ⟨?_⟩, ⟨?_⟩, ⟨?_⟩, ⟨?_⟩, ⟨?_⟩, ⟨?_⟩, ⟨bB HB⟩⟩ <;> (with_reducible repeat (first | refine g_d ?_ _ | refine g_e ?_ | refine g_a ?_ _ | apply r_a | apply r_d | apply r_e)) <;> first | exact BK458.out | exact BK459.out | exact BK460.out | exact BK461.out | exact BK473.out | exact BK477.out | exact BK481.out | exact BK485.out | exact HO_63.out
    subst c314
    rw [if_pos rfl] at H
    replace H := Option.bind_eq_some_iff.mp H
    obtain ⟨⟨t540, t541⟩, A3150, H⟩ := H
    try dsimp only at H
    have A315 := Aside0.mk A3150
    clear A3150
    by_cases c316 : (t508.length : Int) = a6
    rotate_left
    · rw [if_neg c316] at H
      have c316b0 : ((t508.length : Int) == a6) = false := beq_eq_false_iff_ne.mpr c316
      have c316b1 : ((t508.length : Int) != a6) = true := bne_iff_ne.mpr c316
      (first | rw [c316b0] | (simp only [i64_w, i32_w]; rw [c316b0]) | skip)
      rw [HRT.out] at H
      exact absurd H (by simp)
    rw [if_pos c316] at H
    have c316b0 : ((t508.length : Int) == a6) = true := beq_iff_eq.mpr c316
    have c316b1 : ((t508.length : Int) != a6) = false := bne_eq_false_iff_eq.mpr c316
    clear c316
    (first | rw [c316b0] | (simp only [i64_w, i32_w]; rw [c316b0]) | skip)
    by_cases c317 : t541 = true
    rotate_left
    · replace c317 := Bool.eq_false_iff.mpr c317
      subst c317
      rw [if_neg (show ¬ (false = true) by decide)] at H
      rw [HRT.out] at H
      exact absurd H (by simp)
    subst c317
    rw [if_pos rfl] at H
    by_cases c318 : t540 = true
    rotate_left
    · replace c318 := Bool.eq_false_iff.mpr c318
      subst c318
      rw [if_neg (show ¬ (false = true) by decide)] at H
      rw [HRT.out] at H
      exact absurd H (by simp)
    subst c318
    rw [if_pos rfl] at H
    have H' := Aside0.mk H
    clear H
    have hnb319 := eq_false NB460_458.out
    have hnc319 := eq_false NB458_460.out
    have hnb320 := eq_false NB460_459.out
    have hnc320 := eq_false NB459_460.out
    have hnb321 := eq_false NB460_461.out
    have hnc321 := eq_false NB461_460.out
    have hnb322 := eq_false NB460_473.out
    have hnc322 := eq_false NB473_460.out
    have hnb323 := eq_false NB460_477.out
    have hnc323 := eq_false NB477_460.out
    have hnb324 := eq_false NB460_481.out
    have hnc324 := eq_false NB481_460.out
    have hnb325 := eq_false NB460_485.out
    have hnc325 := eq_false NB485_460.out
    have hcz326_0 : wc.cell? ⟨gb460, 0, none⟩ = some (.int .i64 a4_0) := (blk_cell BK460.out 0).trans rfl
    have hcz326_1 : wc.cell? ⟨gb460, 1, none⟩ = some (.int .i64 a4_1) := (blk_cell BK460.out 1).trans rfl
    have hfz326_0 := blk_frozen BK460.out 0
    have hfz326_1 := blk_frozen BK460.out 1
    obtain ⟨Ao327, co327, eo327⟩ := Kd.R_slice HO_55.out
    subst eo327
    go_wp2_with (first | ((with_reducible refine gate_callee (f := 29) rfl ?_); refine goesL_ (some 452) rfl rfl Try.func29 (by kernel_rfl) rfl #[.agg #[.int .i64 a4_0, .int .i64 a4_1], .slice Ao327 t508.length co327] rfl (by (try simp only [m_1, m_2, m_3]); first | done | rfl | (simp only [m_4, m_5]; rfl)) ?_; (with_reducible refine (impl_IsTurnOrder.calls kj293 a4_0 a4_1 _ _ t508 true true _ ?side1 ?side2 A315.out).mono ?_); (case side1 => repeat (first | exact (Kd.R_reads' HO_55.out).2.2 | (with_reducible refine Kd.C_alloc ?_ _) | (with_reducible refine Kd.C_drewN ?_ _) | (with_reducible refine Kd.C_drew ?_))); (case side2 => exact (Kd.R_reads' HO_55.out).2.1); rintro e w328 ⟨rfl, hb⟩; refine ⟨_, rfl, ?_⟩; have n0_ := Aside0.mk (Kd.R_below (by (with_reducible repeat (first | apply r_a | apply r_d | apply r_e)); exact HO_55.out) hb); have n1_ := Aside0.mk (Kd.R_below (by (with_reducible repeat (first | apply r_a | apply r_d | apply r_e)); exact HO_59.out) hb); have n2_ := Aside0.mk (Kd.R_below (by (with_reducible repeat (first | apply r_a | apply r_d | apply r_e)); exact HO_63.out) hb); have n3_ := bbx hb BK458; have n4_ := bbx hb BK459; have n5_ := bbx hb BK460; have n6_ := bbx hb BK461; have n7_ := bbx hb BK473; have n8_ := bbx hb BK477; have n9_ := bbx hb BK481; have n10_ := bbx hb BK485; have n11_ := Aside0.mk (below_step (bB HB) hb); clear HO_55; clear HO_59; clear HO_63; clear BK458; clear BK459; clear BK460; clear BK461; clear BK473; clear BK477; clear BK481; clear BK485; clear HB; have HO_55 := n0_; have HO_59 := n1_; have HO_63 := n2_; have BK458 := n3_; have BK459 := n4_; have BK460 := n5_; have BK461 := n6_; have BK473 := n7_; have BK477 := n8_; have BK481 := n9_; have BK485 := n10_; have HB := n11_; clear n0_ n1_ n2_ n3_ n4_ n5_ n6_ n7_ n8_ n9_ n10_ n11_; (try clear hb); (try clear hb2); (try clear hk); (try clear hi)))
    go_meet
    case rel => refine ⟨_, H', ⟨by have := HJ21.out; have := HJ139.out; have := HJ224.out; have := HJ293.out; first | omega | exact Nat.le_refl _⟩, ⟨by (with_reducible repeat (first | apply r_a | apply r_d | apply r_e)); exact Kd.R_mono HO_59.out (fun _ hk => trivial)⟩, ⟨?_⟩, ⟨?_⟩, ⟨?_⟩, ⟨?_⟩, ⟨?_⟩, ⟨?_⟩, ⟨?_⟩, ⟨?_⟩, ⟨?_⟩, ⟨bB HB⟩⟩ <;> (with_reducible repeat (first | refine g_d ?_ _ | refine g_e ?_ | refine g_a ?_ _ | apply r_a | apply r_d | apply r_e)) <;> first | exact BK458.out | exact BK459.out | exact BK460.out | exact BK461.out | exact BK473.out | exact BK477.out | exact BK481.out | exact BK485.out | exact HO_63.out
  clear HC313
  obtain ⟨kq, HA, HJ312, HO_59, HO_63, BK458, BK459, BK460, BK461, BK473, BK477, BK481, BK485, HB⟩ := hcut
  rcases kq with _ | kj312
  · exact absurd HA.out (by simp [laws_FnOrdersTurnOfAll.j5])
  have H := HA.out
  clear HA
  simp only [laws_FnOrdersTurnOfAll.j5] at H
  have HC329 := Aside0.mk H
  clear H
  go_upto_if 467 with (fail)
  go_cut [] from 1 to 0 (fun wc => ∃ (kq : Nat), Aside0 (laws_FnOrdersTurnOfAll.j6 kq t524 t527 a7_0 a7_1 = some r) ∧ Aside0 (kq ≤ kj312) ∧ Aside0 (Kd.R (Kd.int .i64) 3 wc w.heap.size (fun _ => True) v525 t524) ∧ Aside0 (wc.heap[gb458]? = some (.cells #[.int .i64 a0_0, .int .i64 a0_1] 26 (0, 0))) ∧ Aside0 (wc.heap[gb459]? = some (.cells #[.int .i64 a2_0, .int .i64 a2_1] 26 (0, 0))) ∧ Aside0 (wc.heap[gb460]? = some (.cells #[.int .i64 a4_0, .int .i64 a4_1] 26 (0, 0))) ∧ Aside0 (wc.heap[gb461]? = some (.cells #[.int .i64 a7_0, .int .i64 a7_1] 26 (0, 0))) ∧ Aside0 (wc.heap[gb473]? = some (.cells #[.int .i64 t470, .int .i64 t471] 32 (0, 0))) ∧ Aside0 (wc.heap[gb477]? = some (.cells #[.int .i64 t474, .int .i64 t475] 32 (0, 0))) ∧ Aside0 (wc.heap[gb481]? = some (.cells #[.int .i64 t478, .int .i64 t479] 32 (0, 0))) ∧ Aside0 (wc.heap[gb485]? = some (.cells #[.int .i64 t482, .int .i64 t483] 32 (0, 0))) ∧ Aside0 (Below w.heap.size w wc))
  case first => as_aux_lemma =>
    have H := HC329.out
    clear HC329
    by_cases c330 : t519 = true
    rotate_left
    · replace c330 := Bool.eq_false_iff.mpr c330
      subst c330
      rw [if_neg (show ¬ (false = true) by decide)] at H
      have H' := Aside0.mk H
      clear H
      go_wp2
      go_meet
      case rel => refine ⟨_, H', ⟨by have := HJ21.out; have := HJ139.out; have := HJ224.out; have := HJ293.out; have := HJ312.out; first | omega | exact Nat.le_refl _⟩, ⟨?_⟩, ⟨?_⟩, ⟨?_⟩, ⟨?_⟩, ⟨?_⟩, ⟨?_⟩, ⟨?_⟩, ⟨?_⟩, ⟨?_⟩, ⟨bB HB⟩⟩ <;> (with_reducible repeat (first | refine g_d ?_ _ | refine g_e ?_ | refine g_a ?_ _ | apply r_a | apply r_d | apply r_e)) <;> first | exact BK458.out | exact BK459.out | exact BK460.out | exact BK461.out | exact BK473.out | exact BK477.out | exact BK481.out | exact BK485.out | exact HO_63.out
    subst c330
    rw [if_pos rfl] at H
    replace H := Option.bind_eq_some_iff.mp H
    obtain ⟨⟨t542, t543⟩, A3310, H⟩ := H
    try dsimp only at H
    have A331 := Aside0.mk A3310
    clear A3310
    replace H := Option.bind_eq_some_iff.mp H
    obtain ⟨⟨t544, t545⟩, A3320, H⟩ := H
    try dsimp only at H
    have A332 := Aside0.mk A3320
    clear A3320
    by_cases c333 : (t516.length : Int) = a6
    rotate_left
    · rw [if_neg c333] at H
      have c333b0 : ((t516.length : Int) == a6) = false := beq_eq_false_iff_ne.mpr c333
      have c333b1 : ((t516.length : Int) != a6) = true := bne_iff_ne.mpr c333
      (first | rw [c333b0] | (simp only [i64_w, i32_w]; rw [c333b0]) | skip)
      rw [HRT.out] at H
      exact absurd H (by simp)
    rw [if_pos c333] at H
    have c333b0 : ((t516.length : Int) == a6) = true := beq_iff_eq.mpr c333
    have c333b1 : ((t516.length : Int) != a6) = false := bne_eq_false_iff_eq.mpr c333
    clear c333
    (first | rw [c333b0] | (simp only [i64_w, i32_w]; rw [c333b0]) | skip)
    by_cases c334 : t543 = true
    rotate_left
    · replace c334 := Bool.eq_false_iff.mpr c334
      subst c334
      rw [if_neg (show ¬ (false = true) by decide)] at H
      rw [HRT.out] at H
      exact absurd H (by simp)
    subst c334
    rw [if_pos rfl] at H
    by_cases c335 : t545 = true
    rotate_left
    · replace c335 := Bool.eq_false_iff.mpr c335
      subst c335
      rw [if_neg (show ¬ (false = true) by decide)] at H
      rw [HRT.out] at H
      exact absurd H (by simp)
    subst c335
    rw [if_pos rfl] at H
    by_cases c336 : a6 ≤ t542
    rotate_left
    · rw [if_neg c336] at H
      have c336b0 : decide (a6 ≤ t542) = false := decide_eq_false c336
      clear c336
      have H' := Aside0.mk H
      clear H
      have hnb350 := eq_false NB460_458.out
      have hnc350 := eq_false NB458_460.out
      have hnb351 := eq_false NB460_459.out
      have hnc351 := eq_false NB459_460.out
      have hnb352 := eq_false NB460_461.out
      have hnc352 := eq_false NB461_460.out
      have hnb353 := eq_false NB460_473.out
      have hnc353 := eq_false NB473_460.out
      have hnb354 := eq_false NB460_477.out
      have hnc354 := eq_false NB477_460.out
      have hnb355 := eq_false NB460_481.out
      have hnc355 := eq_false NB481_460.out
      have hnb356 := eq_false NB460_485.out
      have hnc356 := eq_false NB485_460.out
      have hcz357_0 : wc.cell? ⟨gb460, 0, none⟩ = some (.int .i64 a4_0) := (blk_cell BK460.out 0).trans rfl
      have hcz357_1 : wc.cell? ⟨gb460, 1, none⟩ = some (.int .i64 a4_1) := (blk_cell BK460.out 1).trans rfl
      have hfz357_0 := blk_frozen BK460.out 0
      have hfz357_1 := blk_frozen BK460.out 1
      go_wp2_with (first | ((with_reducible refine gate_callee (f := 17) rfl ?_); refine goesL_ (some 470) rfl rfl Try.func17 (by kernel_rfl) rfl #[.agg #[.int .i64 a4_0, .int .i64 a4_1]] rfl (by (try simp only [m_1, m_2, m_3]); first | done | rfl | (simp only [m_4, m_5]; rfl)) ?_; (with_reducible refine (impl_CountCodes.calls kj312 a4_0 a4_1 t542 true _ A331.out).mono ?_); rintro e w358 ⟨rfl, hb⟩; refine ⟨_, rfl, ?_⟩; have n0_ := Aside0.mk (Kd.R_below (by (with_reducible repeat (first | apply r_a | apply r_d | apply r_e)); exact HO_59.out) hb); have n1_ := Aside0.mk (Kd.R_below (by (with_reducible repeat (first | apply r_a | apply r_d | apply r_e)); exact HO_63.out) hb); have n2_ := bbx hb BK458; have n3_ := bbx hb BK459; have n4_ := bbx hb BK460; have n5_ := bbx hb BK461; have n6_ := bbx hb BK473; have n7_ := bbx hb BK477; have n8_ := bbx hb BK481; have n9_ := bbx hb BK485; have n10_ := Aside0.mk (below_step (bB HB) hb); clear HO_59; clear HO_63; clear BK458; clear BK459; clear BK460; clear BK461; clear BK473; clear BK477; clear BK481; clear BK485; clear HB; have HO_59 := n0_; have HO_63 := n1_; have BK458 := n2_; have BK459 := n3_; have BK460 := n4_; have BK461 := n5_; have BK473 := n6_; have BK477 := n7_; have BK481 := n8_; have BK485 := n9_; have HB := n10_; clear n0_ n1_ n2_ n3_ n4_ n5_ n6_ n7_ n8_ n9_ n10_; (try clear hb); (try clear hb2); (try clear hk); (try clear hi); have hcz359_0 : w358.cell? ⟨gb460, 0, none⟩ = some (.int .i64 a4_0) := (blk_cell BK460.out 0).trans rfl; have hcz359_1 : w358.cell? ⟨gb460, 1, none⟩ = some (.int .i64 a4_1) := (blk_cell BK460.out 1).trans rfl; have hfz359_0 := blk_frozen BK460.out 0; have hfz359_1 := blk_frozen BK460.out 1; obtain ⟨Ao360, co360, eo360⟩ := Kd.R_slice HO_59.out; subst eo360) | ((with_reducible refine gate_callee (f := 29) rfl ?_); refine goesL_ (some 476) rfl rfl Try.func29 (by kernel_rfl) rfl #[.agg #[.int .i64 a4_0, .int .i64 a4_1], .slice Ao360 t516.length co360] rfl (by (try simp only [m_1, m_2, m_3]); first | done | rfl | (simp only [m_4, m_5]; rfl)) ?_; (with_reducible refine (impl_IsTurnOrder.calls kj312 a4_0 a4_1 _ _ t516 t544 true _ ?side1 ?side2 A332.out).mono ?_); (case side1 => repeat (first | exact (Kd.R_reads' HO_59.out).2.2 | (with_reducible refine Kd.C_alloc ?_ _) | (with_reducible refine Kd.C_drewN ?_ _) | (with_reducible refine Kd.C_drew ?_))); (case side2 => exact (Kd.R_reads' HO_59.out).2.1); rintro e w361 ⟨rfl, hb⟩; refine ⟨_, rfl, ?_⟩; have n0_ := Aside0.mk (Kd.R_below (by (with_reducible repeat (first | apply r_a | apply r_d | apply r_e)); exact HO_59.out) hb); have n1_ := Aside0.mk (Kd.R_below (by (with_reducible repeat (first | apply r_a | apply r_d | apply r_e)); exact HO_63.out) hb); have n2_ := bbx hb BK458; have n3_ := bbx hb BK459; have n4_ := bbx hb BK460; have n5_ := bbx hb BK461; have n6_ := bbx hb BK473; have n7_ := bbx hb BK477; have n8_ := bbx hb BK481; have n9_ := bbx hb BK485; have n10_ := Aside0.mk (below_step (bB HB) hb); clear HO_59; clear HO_63; clear BK458; clear BK459; clear BK460; clear BK461; clear BK473; clear BK477; clear BK481; clear BK485; clear HB; have HO_59 := n0_; have HO_63 := n1_; have BK458 := n2_; have BK459 := n3_; have BK460 := n4_; have BK461 := n5_; have BK473 := n6_; have BK477 := n7_; have BK481 := n8_; have BK485 := n9_; have HB := n10_; clear n0_ n1_ n2_ n3_ n4_ n5_ n6_ n7_ n8_ n9_ n10_; (try clear hb); (try clear hb2); (try clear hk); (try clear hi)))
      go_meet
      case rel => refine ⟨_, H', ⟨by have := HJ21.out; have := HJ139.out; have := HJ224.out; have := HJ293.out; have := HJ312.out; first | omega | exact Nat.le_refl _⟩, ⟨?_⟩, ⟨?_⟩, ⟨?_⟩, ⟨?_⟩, ⟨?_⟩, ⟨?_⟩, ⟨?_⟩, ⟨?_⟩, ⟨?_⟩, ⟨bB HB⟩⟩ <;> (with_reducible repeat (first | refine g_d ?_ _ | refine g_e ?_ | refine g_a ?_ _ | apply r_a | apply r_d | apply r_e)) <;> first | exact BK458.out | exact BK459.out | exact BK460.out | exact BK461.out | exact BK473.out | exact BK477.out | exact BK481.out | exact BK485.out | exact HO_63.out
    rw [if_pos c336] at H
    have c336b0 : decide (a6 ≤ t542) = true := decide_eq_true c336
    clear c336
    by_cases c337 : t544 = true
    rotate_left
    · replace c337 := Bool.eq_false_iff.mpr c337
      subst c337
      rw [if_neg (show ¬ (false = true) by decide)] at H
      rw [HRT.out] at H
      exact absurd H (by simp)
    subst c337
    rw [if_pos rfl] at H
    have H' := Aside0.mk H
    clear H
    have hnb338 := eq_false NB460_458.out
    have hnc338 := eq_false NB458_460.out
    have hnb339 := eq_false NB460_459.out
    have hnc339 := eq_false NB459_460.out
    have hnb340 := eq_false NB460_461.out
    have hnc340 := eq_false NB461_460.out
    have hnb341 := eq_false NB460_473.out
    have hnc341 := eq_false NB473_460.out
    have hnb342 := eq_false NB460_477.out
    have hnc342 := eq_false NB477_460.out
    have hnb343 := eq_false NB460_481.out
    have hnc343 := eq_false NB481_460.out
    have hnb344 := eq_false NB460_485.out
    have hnc344 := eq_false NB485_460.out
    have hcz345_0 : wc.cell? ⟨gb460, 0, none⟩ = some (.int .i64 a4_0) := (blk_cell BK460.out 0).trans rfl
    have hcz345_1 : wc.cell? ⟨gb460, 1, none⟩ = some (.int .i64 a4_1) := (blk_cell BK460.out 1).trans rfl
    have hfz345_0 := blk_frozen BK460.out 0
    have hfz345_1 := blk_frozen BK460.out 1
    go_wp2_with (first | ((with_reducible refine gate_callee (f := 17) rfl ?_); refine goesL_ (some 470) rfl rfl Try.func17 (by kernel_rfl) rfl #[.agg #[.int .i64 a4_0, .int .i64 a4_1]] rfl (by (try simp only [m_1, m_2, m_3]); first | done | rfl | (simp only [m_4, m_5]; rfl)) ?_; (with_reducible refine (impl_CountCodes.calls kj312 a4_0 a4_1 t542 true _ A331.out).mono ?_); rintro e w346 ⟨rfl, hb⟩; refine ⟨_, rfl, ?_⟩; have n0_ := Aside0.mk (Kd.R_below (by (with_reducible repeat (first | apply r_a | apply r_d | apply r_e)); exact HO_59.out) hb); have n1_ := Aside0.mk (Kd.R_below (by (with_reducible repeat (first | apply r_a | apply r_d | apply r_e)); exact HO_63.out) hb); have n2_ := bbx hb BK458; have n3_ := bbx hb BK459; have n4_ := bbx hb BK460; have n5_ := bbx hb BK461; have n6_ := bbx hb BK473; have n7_ := bbx hb BK477; have n8_ := bbx hb BK481; have n9_ := bbx hb BK485; have n10_ := Aside0.mk (below_step (bB HB) hb); clear HO_59; clear HO_63; clear BK458; clear BK459; clear BK460; clear BK461; clear BK473; clear BK477; clear BK481; clear BK485; clear HB; have HO_59 := n0_; have HO_63 := n1_; have BK458 := n2_; have BK459 := n3_; have BK460 := n4_; have BK461 := n5_; have BK473 := n6_; have BK477 := n7_; have BK481 := n8_; have BK485 := n9_; have HB := n10_; clear n0_ n1_ n2_ n3_ n4_ n5_ n6_ n7_ n8_ n9_ n10_; (try clear hb); (try clear hb2); (try clear hk); (try clear hi); have hcz347_0 : w346.cell? ⟨gb460, 0, none⟩ = some (.int .i64 a4_0) := (blk_cell BK460.out 0).trans rfl; have hcz347_1 : w346.cell? ⟨gb460, 1, none⟩ = some (.int .i64 a4_1) := (blk_cell BK460.out 1).trans rfl; have hfz347_0 := blk_frozen BK460.out 0; have hfz347_1 := blk_frozen BK460.out 1; obtain ⟨Ao348, co348, eo348⟩ := Kd.R_slice HO_59.out; subst eo348) | ((with_reducible refine gate_callee (f := 29) rfl ?_); refine goesL_ (some 476) rfl rfl Try.func29 (by kernel_rfl) rfl #[.agg #[.int .i64 a4_0, .int .i64 a4_1], .slice Ao348 t516.length co348] rfl (by (try simp only [m_1, m_2, m_3]); first | done | rfl | (simp only [m_4, m_5]; rfl)) ?_; (with_reducible refine (impl_IsTurnOrder.calls kj312 a4_0 a4_1 _ _ t516 true true _ ?side1 ?side2 A332.out).mono ?_); (case side1 => repeat (first | exact (Kd.R_reads' HO_59.out).2.2 | (with_reducible refine Kd.C_alloc ?_ _) | (with_reducible refine Kd.C_drewN ?_ _) | (with_reducible refine Kd.C_drew ?_))); (case side2 => exact (Kd.R_reads' HO_59.out).2.1); rintro e w349 ⟨rfl, hb⟩; refine ⟨_, rfl, ?_⟩; have n0_ := Aside0.mk (Kd.R_below (by (with_reducible repeat (first | apply r_a | apply r_d | apply r_e)); exact HO_59.out) hb); have n1_ := Aside0.mk (Kd.R_below (by (with_reducible repeat (first | apply r_a | apply r_d | apply r_e)); exact HO_63.out) hb); have n2_ := bbx hb BK458; have n3_ := bbx hb BK459; have n4_ := bbx hb BK460; have n5_ := bbx hb BK461; have n6_ := bbx hb BK473; have n7_ := bbx hb BK477; have n8_ := bbx hb BK481; have n9_ := bbx hb BK485; have n10_ := Aside0.mk (below_step (bB HB) hb); clear HO_59; clear HO_63; clear BK458; clear BK459; clear BK460; clear BK461; clear BK473; clear BK477; clear BK481; clear BK485; clear HB; have HO_59 := n0_; have HO_63 := n1_; have BK458 := n2_; have BK459 := n3_; have BK460 := n4_; have BK461 := n5_; have BK473 := n6_; have BK477 := n7_; have BK481 := n8_; have BK485 := n9_; have HB := n10_; clear n0_ n1_ n2_ n3_ n4_ n5_ n6_ n7_ n8_ n9_ n10_; (try clear hb); (try clear hb2); (try clear hk); (try clear hi)))
    go_meet
    case rel => refine ⟨_, H', ⟨by have := HJ21.out; have := HJ139.out; have := HJ224.out; have := HJ293.out; have := HJ312.out; first | omega | exact Nat.le_refl _⟩, ⟨?_⟩, ⟨?_⟩, ⟨?_⟩, ⟨?_⟩, ⟨?_⟩, ⟨?_⟩, ⟨?_⟩, ⟨?_⟩, ⟨?_⟩, ⟨bB HB⟩⟩ <;> (with_reducible repeat (first | refine g_d ?_ _ | refine g_e ?_ | refine g_a ?_ _ | apply r_a | apply r_d | apply r_e)) <;> first | exact BK458.out | exact BK459.out | exact BK460.out | exact BK461.out | exact BK473.out | exact BK477.out | exact BK481.out | exact BK485.out | exact HO_63.out
  clear HC329
  obtain ⟨kq, HA, HJ328, HO_63, BK458, BK459, BK460, BK461, BK473, BK477, BK481, BK485, HB⟩ := hcut
  rcases kq with _ | kj328
  · exact absurd HA.out (by simp [laws_FnOrdersTurnOfAll.j6])
  have H := HA.out
  clear HA
  simp only [laws_FnOrdersTurnOfAll.j6] at H
  by_cases c362 : t527 = true
  rotate_left
  · replace c362 := Bool.eq_false_iff.mpr c362
    subst c362
    rw [if_neg (show ¬ (false = true) by decide)] at H
    obtain rfl := Option.some.inj H
    go_wp2
    go_ret
    exact ⟨by first | rfl | (simp [errW_none, errW_some] <;> rfl) | (simp [*, errW_none, errW_some] <;> rfl), bB HB⟩

  subst c362
  rw [if_pos rfl] at H
  replace H := Option.bind_eq_some_iff.mp H
  obtain ⟨⟨t546, t547⟩, A3630, H⟩ := H
  try dsimp only at H
  have A363 := Aside0.mk A3630
  clear A3630
  have H' := Aside0.mk H
  clear H
  have hnb364 := eq_false NB461_458.out
  have hnc364 := eq_false NB458_461.out
  have hnb365 := eq_false NB461_459.out
  have hnc365 := eq_false NB459_461.out
  have hnb366 := eq_false NB461_460.out
  have hnc366 := eq_false NB460_461.out
  have hnb367 := eq_false NB461_473.out
  have hnc367 := eq_false NB473_461.out
  have hnb368 := eq_false NB461_477.out
  have hnc368 := eq_false NB477_461.out
  have hnb369 := eq_false NB461_481.out
  have hnc369 := eq_false NB481_461.out
  have hnb370 := eq_false NB461_485.out
  have hnc370 := eq_false NB485_461.out
  have hcz371_0 : wc.cell? ⟨gb461, 0, none⟩ = some (.int .i64 a7_0) := (blk_cell BK461.out 0).trans rfl
  have hcz371_1 : wc.cell? ⟨gb461, 1, none⟩ = some (.int .i64 a7_1) := (blk_cell BK461.out 1).trans rfl
  have hfz371_0 := blk_frozen BK461.out 0
  have hfz371_1 := blk_frozen BK461.out 1
  go_wp2_with (first | ((with_reducible refine gate_callee (f := 17) rfl ?_); refine goesL_ (some 503) rfl rfl Try.func17 (by kernel_rfl) rfl #[.agg #[.int .i64 a7_0, .int .i64 a7_1]] rfl (by (try simp only [m_1, m_2, m_3]); first | done | rfl | (simp only [m_4, m_5]; rfl)) ?_; (with_reducible refine (impl_CountCodes.calls kj328 a7_0 a7_1 t546 t547 _ A363.out).mono ?_); rintro e w372 ⟨rfl, hb⟩; refine ⟨_, rfl, ?_⟩; have n0_ := Aside0.mk (Kd.R_below (by (with_reducible repeat (first | apply r_a | apply r_d | apply r_e)); exact HO_63.out) hb); have n1_ := bbx hb BK458; have n2_ := bbx hb BK459; have n3_ := bbx hb BK460; have n4_ := bbx hb BK461; have n5_ := bbx hb BK473; have n6_ := bbx hb BK477; have n7_ := bbx hb BK481; have n8_ := bbx hb BK485; have n9_ := Aside0.mk (below_step (bB HB) hb); clear HO_63; clear BK458; clear BK459; clear BK460; clear BK461; clear BK473; clear BK477; clear BK481; clear BK485; clear HB; have HO_63 := n0_; have BK458 := n1_; have BK459 := n2_; have BK460 := n3_; have BK461 := n4_; have BK473 := n5_; have BK477 := n6_; have BK481 := n7_; have BK485 := n8_; have HB := n9_; clear n0_ n1_ n2_ n3_ n4_ n5_ n6_ n7_ n8_ n9_; (try clear hb); (try clear hb2); (try clear hk); (try clear hi); obtain ⟨Ao373, co373, eo373⟩ := Kd.R_slice HO_63.out; subst eo373))
  go_loopg [79, 508] kj328 (fun kq v79 v508 w' => ∃ (x79_7 : Int) (x508_7 : Int), v79 = .int .i64 x79_7 ∧ v508 = .int .i64 x508_7 ∧ Aside0 (laws_FnOrdersTurnOfAll.l0 kq t524 t546 t547 x79_7 t524 (t524.length : Int) x508_7 a7_0 a7_1 = some r) ∧ Aside0 (kq ≤ kj328) ∧ Aside0 (Kd.R (Kd.int .i64) 3 w' w.heap.size (fun _ => True) (.slice Ao373 t524.length co373) t524) ∧ Aside0 (Kd.R (Kd.int .i64) 3 w' w.heap.size (fun _ => True) (.slice Ao373 t524.length co373) t524) ∧ Aside0 (w'.heap[gb458]? = some (.cells #[.int .i64 a0_0, .int .i64 a0_1] 26 (0, 0))) ∧ Aside0 (w'.heap[gb459]? = some (.cells #[.int .i64 a2_0, .int .i64 a2_1] 26 (0, 0))) ∧ Aside0 (w'.heap[gb460]? = some (.cells #[.int .i64 a4_0, .int .i64 a4_1] 26 (0, 0))) ∧ Aside0 (w'.heap[gb461]? = some (.cells #[.int .i64 a7_0, .int .i64 a7_1] 26 (0, 0))) ∧ Aside0 (w'.heap[gb473]? = some (.cells #[.int .i64 t470, .int .i64 t471] 32 (0, 0))) ∧ Aside0 (w'.heap[gb477]? = some (.cells #[.int .i64 t474, .int .i64 t475] 32 (0, 0))) ∧ Aside0 (w'.heap[gb481]? = some (.cells #[.int .i64 t478, .int .i64 t479] 32 (0, 0))) ∧ Aside0 (w'.heap[gb485]? = some (.cells #[.int .i64 t482, .int .i64 t483] 32 (0, 0))) ∧ Aside0 (Below w.heap.size w w'))
  case atStart => refine ⟨(0), (0), (by first | rfl | (simp; done) | (simp [*]; done)), (by first | rfl | (simp; done) | (simp [*]; done)), H', ⟨Nat.le_refl _⟩, ⟨?_⟩, ⟨?_⟩, ⟨?_⟩, ⟨?_⟩, ⟨?_⟩, ⟨?_⟩, ⟨?_⟩, ⟨?_⟩, ⟨?_⟩, ⟨?_⟩, ⟨bB HB⟩⟩ <;> (with_reducible repeat (first | refine g_d ?_ _ | refine g_e ?_ | refine g_a ?_ _ | apply r_a | apply r_d | apply r_e)) <;> first | exact BK458.out | exact BK459.out | exact BK460.out | exact BK461.out | exact BK473.out | exact BK477.out | exact BK481.out | exact BK485.out | exact HO_63.out
  clear H'
  try clear c362
  try clear hcz371_0
  try clear hcz371_1
  try clear hfz371_0
  try clear hfz371_1
  obtain ⟨x79_7, x508_7, rfl, rfl, HA, HK7, HO_63, HO_506, BK458, BK459, BK460, BK461, BK473, BK477, BK481, BK485, HB⟩ := hrel
  rcases gk with _ | k7
  · exact absurd HA.out (by simp [laws_FnOrdersTurnOfAll.l0])
  have H := HA.out
  clear HA
  simp only [laws_FnOrdersTurnOfAll.l0] at H
  by_cases c374 : x508_7 < (t524.length : Int)
  · rw [if_pos c374] at H
    have c374b0 : decide (x508_7 < (t524.length : Int)) = true := decide_eq_true c374
    clear c374
    by_cases c375 : 0 ≤ x508_7
    · rw [if_pos c375] at H
      have c375b0 : decide (0 ≤ x508_7) = true := decide_eq_true c375
      clear c375
      by_cases c376 : x508_7 < (t524.length : Int)
      · rw [if_pos c376] at H
        have c376b0 : decide (x508_7 < (t524.length : Int)) = true := decide_eq_true c376
        clear c376
        have H' := Aside0.mk H
        clear H
        have p548 : 0 ≤ (x508_7 : Int) := of_decide_eq_true (by first | (with_reducible assumption) | assumption)
        have q548 : x508_7 < (t524.length : Int) := of_decide_eq_true (by first | (with_reducible assumption) | assumption)
        obtain ⟨ad548, e548, hx548_0⟩ := Kd.at_int (Kd.R_reads' HO_506.out).2.2 x508_7 p548 q548
        cases e548
        replace p548 := eq_true p548
        replace q548 := eq_true q548
        go_wp2
        go_roundg k7
        case measure => have := HJ21.out; have := HJ139.out; have := HJ224.out; have := HJ293.out; have := HJ312.out; have := HJ328.out; have := HK7.out; omega
        case rel => refine ⟨(wrap64 (x79_7 + (rd t524 x508_7))), (wrap64 (x508_7 + 1)), (by first | rfl | (simp; done) | (simp [*]; done)), (by first | rfl | (simp; done) | (simp [*]; done)), H', ⟨by have := HJ21.out; have := HJ139.out; have := HJ224.out; have := HJ293.out; have := HJ312.out; have := HJ328.out; have := HK7.out; omega⟩, ⟨?_⟩, ⟨?_⟩, ⟨?_⟩, ⟨?_⟩, ⟨?_⟩, ⟨?_⟩, ⟨?_⟩, ⟨?_⟩, ⟨?_⟩, ⟨?_⟩, ⟨bB HB⟩⟩ <;> (with_reducible repeat (first | refine g_d ?_ _ | refine g_e ?_ | refine g_a ?_ _ | apply r_a | apply r_d | apply r_e)) <;> first | exact BK458.out | exact BK459.out | exact BK460.out | exact BK461.out | exact BK473.out | exact BK477.out | exact BK481.out | exact BK485.out | exact HO_63.out | exact HO_506.out
      · rw [if_neg c376] at H
        exact absurd H (by simp)
    · rw [if_neg c375] at H
      exact absurd H (by simp)
  rw [if_neg c374] at H
  have c374b0 : decide (x508_7 < (t524.length : Int)) = false := decide_eq_false c374
  clear c374
  by_cases c377 : t547 = true
  rotate_left
  · replace c377 := Bool.eq_false_iff.mpr c377
    subst c377
    rw [if_neg (show ¬ (false = true) by decide)] at H
    rw [HRT.out] at H
    exact absurd H (by simp)
  subst c377
  rw [if_pos rfl] at H
  by_cases c378 : x79_7 = t546
  rotate_left
  · rw [if_neg c378] at H
    have c378b0 : (x79_7 == t546) = false := beq_eq_false_iff_ne.mpr c378
    have c378b1 : (x79_7 != t546) = true := bne_iff_ne.mpr c378
    rw [HRT.out] at H
    exact absurd H (by simp)
  rw [if_pos c378] at H
  have c378b0 : (x79_7 == t546) = true := beq_iff_eq.mpr c378
  have c378b1 : (x79_7 != t546) = false := bne_eq_false_iff_eq.mpr c378
  clear c378
  by_cases c379 : (t524.length : Int) = a7_0
  rotate_left
  · rw [if_neg c379] at H
    have c379b0 : ((t524.length : Int) == a7_0) = false := beq_eq_false_iff_ne.mpr c379
    have c379b1 : ((t524.length : Int) != a7_0) = true := bne_iff_ne.mpr c379
    rw [HRT.out] at H
    exact absurd H (by simp)
  rw [if_pos c379] at H
  have c379b0 : ((t524.length : Int) == a7_0) = true := beq_iff_eq.mpr c379
  have c379b1 : ((t524.length : Int) != a7_0) = false := bne_eq_false_iff_eq.mpr c379
  clear c379
  by_cases c380 : 0 < (t524.length : Int)
  rotate_left
  · rw [if_neg c380] at H
    exact absurd H (by simp)
  rw [if_pos c380] at H
  have c380b0 : decide (0 < (t524.length : Int)) = true := decide_eq_true c380
  have c380b1 : decide (0 < t524.length) = true := decide_eq_true (by omega)
  clear c380
  obtain rfl := Option.some.inj H
  try go_wp2
  have n0_ := Aside0.mk (r_e HO_63.out)
  have n1_ := Aside0.mk (r_e HO_506.out)
  have n2_ := Aside0.mk (g_e BK458.out)
  have n3_ := Aside0.mk (g_e BK459.out)
  have n4_ := Aside0.mk (g_e BK460.out)
  have n5_ := Aside0.mk (g_e BK461.out)
  have n6_ := Aside0.mk (g_e BK473.out)
  have n7_ := Aside0.mk (g_e BK477.out)
  have n8_ := Aside0.mk (g_e BK481.out)
  have n9_ := Aside0.mk (g_e BK485.out)
  have n10_ := Aside0.mk (b_e HB.out)
  clear HO_63
  clear HO_506
  clear BK458
  clear BK459
  clear BK460
  clear BK461
  clear BK473
  clear BK477
  clear BK481
  clear BK485
  clear HB
  have HO_63 := n0_
  have HO_506 := n1_
  have BK458 := n2_
  have BK459 := n3_
  have BK460 := n4_
  have BK461 := n5_
  have BK473 := n6_
  have BK477 := n7_
  have BK481 := n8_
  have BK485 := n9_
  have HB := n10_
  clear n0_ n1_ n2_ n3_ n4_ n5_ n6_ n7_ n8_ n9_ n10_
  have p549 : 0 ≤ (0 : Int) := (by omega)
  have q549 : 0 < (t524.length : Int) := of_decide_eq_true (by first | (with_reducible assumption) | assumption)
  obtain ⟨ad549, e549, hx549_0⟩ := Kd.at_int (Kd.R_reads' HO_63.out).2.2 0 p549 q549
  cases e549
  have qi549 : (0 < t524.length) = True := eq_true (by omega)
  (try rw [show ((0 : Int)).toNat = 0 from rfl] at hx549_0)
  (try rw [Addr.add_zero'] at hx549_0)
  replace p549 := eq_true p549
  replace q549 := eq_true q549
  refine start_ (n := 22) (S := fun w' => w'.cell? ⟨gb461, 0, none⟩ = some (.int .i64 a7_0) ∧ w'.cell? ⟨gb461, 1, none⟩ = some (.int .i64 a7_1) ∧ w'.cell? ad549 = some (.int .i64 (rd t524 0))) (ds := []) (bs_ 22 0) (by kernel_rfl) rfl rfl ⟨(blk_cell BK461.out 0).trans rfl, (blk_cell BK461.out 1).trans rfl, hx549_0⟩ (fun hHeld => ?_); refine with_tabW laws_FnOrdersTurnOfAll.tab60 laws_FnOrdersTurnOfAll.bits60 (fun HT_ HW_ => ?_)
  generalize wr.drew = w381 at HO_63 HO_506 BK458 BK459 BK460 BK461 BK473 BK477 BK481 BK485 HB hx549_0 hHeld ⊢
  refine pu_ 0 516 (bs_ 22 1) rfl rfl HT_ (by kernel_rfl) (fun _ _ _ h => h) (by rfl) (by intro w'; go_simp; with_reducible rfl) (by simp only [Act.put, s_1, s_2, s_3, i64_w, i32_w]; rfl) ?_
  refine pu_ 1 517 (bs_ 22 3) rfl rfl HT_ (by kernel_rfl) (fun _ _ _ h => h) (by rfl) (by intro w'; go_simp; with_reducible rfl) (by simp only [Act.put, s_1, s_2, s_3, i64_w, i32_w]; rfl) ?_
  refine pu_ 2 518 (bs_ 22 7) rfl rfl HT_ (by kernel_rfl) (fun _ _ _ h => h) (by rfl) (by intro w'; go_simp; with_reducible rfl) (by simp only [Act.put, s_1, s_2, s_3, i64_w, i32_w]; rfl) ?_
  refine pu_ 3 519 (bs_ 22 15) rfl rfl HT_ (by kernel_rfl) (fun _ _ _ h => h) (by rfl) (by intro w'; go_simp; with_reducible rfl) (by simp only [Act.put, s_1, s_2, s_3, i64_w, i32_w]; rfl) ?_
  refine pu_ 4 520 (bs_ 22 31) rfl rfl HT_ (by kernel_rfl) (fun _ _ _ h => h) (by rfl) (by intro w'; go_simp; with_reducible rfl) (by simp only [Act.put, s_1, s_2, s_3, i64_w, i32_w]; rfl) ?_
  refine pu_ 5 521 (bs_ 22 63) rfl rfl HT_ (by kernel_rfl) (fun _ _ _ h => h) (by rfl) (by intro w'; go_simp; with_reducible rfl) (by simp only [Act.put, s_1, s_2, s_3, i64_w, i32_w]; rfl) ?_
  refine pu_ 6 522 (bs_ 22 127) rfl rfl HT_ (by kernel_rfl) (fun _ _ _ h => h) (by rfl) (by intro w'; go_simp; with_reducible rfl) (by simp only [Act.put, s_1, s_2, s_3, i64_w, i32_w]; rfl) ?_
  refine pu_ 7 523 (bs_ 22 255) rfl rfl HT_ (by kernel_rfl) (fun _ _ _ h => h) (by rfl) (by intro w'; go_simp; with_reducible rfl) (by simp only [Act.put, s_1, s_2, s_3, i64_w, i32_w]; rfl) ?_
  refine pu_ 8 524 (bs_ 22 511) rfl rfl HT_ (by kernel_rfl) (fun _ _ _ h => h) (by rfl) (by intro w'; go_simp; with_reducible rfl) (by simp only [Act.put, s_1, s_2, s_3, i64_w, i32_w]; rfl) ?_
  refine pu_ 9 525 (bs_ 22 1023) rfl rfl HT_ (by kernel_rfl) (fun _ _ _ h => h) (by rfl) (by intro w'; go_simp; with_reducible rfl) (by simp only [Act.put, s_1, s_2, s_3, i64_w, i32_w]; rfl) ?_
  refine tk_ 10 526 (bs_ 22 2047) rfl rfl HT_ HW_ (by kernel_rfl) (fun _ _ _ h => h) (by rfl) hHeld (by rintro w' ⟨s0, s1, s2⟩; go_simp; with_reducible rfl) (by simp only [Act.put, s_1, s_2, s_3, i64_w, i32_w]; rfl) ?_
  refine pu_ 11 527 (bs_ 22 4095) rfl rfl HT_ (by kernel_rfl) (fun _ _ _ h => h) (by rfl) (by intro w'; go_simp; with_reducible rfl) (by simp only [Act.put, s_1, s_2, s_3, i64_w, i32_w]; rfl) ?_
  refine pu_ 12 528 (bs_ 22 8191) rfl rfl HT_ (by kernel_rfl) (fun _ _ _ h => h) (by rfl) (by intro w'; go_simp; with_reducible rfl) (by simp only [Act.put, s_1, s_2, s_3, i64_w, i32_w]; rfl) ?_
  refine pu_ 13 529 (bs_ 22 16383) rfl rfl HT_ (by kernel_rfl) (fun _ _ _ h => h) (by rfl) (by intro w'; go_simp; with_reducible rfl) (by simp only [Act.put, s_1, s_2, s_3, i64_w, i32_w]; rfl) ?_
  refine pu_ 14 530 (bs_ 22 32767) rfl rfl HT_ (by kernel_rfl) (fun _ _ _ h => h) (by rfl) (by intro w'; go_simp; with_reducible rfl) (by simp only [Act.put, s_1, s_2, s_3, i64_w, i32_w]; rfl) ?_
  refine pu_ 15 531 (bs_ 22 65535) rfl rfl HT_ (by kernel_rfl) (fun _ _ _ h => h) (by rfl) (by intro w'; go_simp; with_reducible rfl) (by simp only [Act.put, s_1, s_2, s_3, i64_w, i32_w]; rfl) ?_
  refine pu_ 17 533 (bs_ 22 196607) rfl rfl HT_ (by kernel_rfl) (fun _ _ _ h => h) (by rfl) (by intro w'; go_simp; with_reducible rfl) (by simp only [Act.put, s_1, s_2, s_3, i64_w, i32_w]; rfl) ?_
  refine tk_ 16 532 (bs_ 22 262143) rfl rfl HT_ HW_ (by kernel_rfl) (fun _ _ _ h => h) (by rfl) hHeld (by rintro w' ⟨s0, s1, s2⟩; go_simp; with_reducible rfl) (by simp only [Act.put, s_1, s_2, s_3, i64_w, i32_w]; rfl) ?_
  refine tk_ 18 534 (bs_ 22 524287) rfl rfl HT_ HW_ (by kernel_rfl) (fun _ _ _ h => h) (by rfl) hHeld (by rintro w' ⟨s0, s1, s2⟩; go_simp; with_reducible rfl) (by simp only [Act.put, s_1, s_2, s_3, i64_w, i32_w]; rfl) ?_
  refine pu_ 19 535 (bs_ 22 1048575) rfl rfl HT_ (by kernel_rfl) (fun _ _ _ h => h) (by rfl) (by intro w'; go_simp; with_reducible rfl) (by simp only [Act.put, s_1, s_2, s_3, i64_w, i32_w]; rfl) ?_
  refine pu_ 20 536 (bs_ 22 2097151) rfl rfl HT_ (by kernel_rfl) (fun _ _ _ h => h) (by rfl) (by intro w'; go_simp; with_reducible rfl) (by simp only [Act.put, s_1, s_2, s_3, i64_w, i32_w]; rfl) ?_
  refine pu_ 21 16 (bs_ 22 4194303) rfl rfl HT_ (by kernel_rfl) (fun _ _ _ h => h) (by rfl) (by intro w'; go_simp; with_reducible rfl) (by simp only [Act.put, s_1, s_2, s_3, i64_w, i32_w]; rfl) ?_
  refine done_ (done_of HT_.out (by kernel_rfl)) ?_
  try go_wp2
  go_ret
  exact ⟨by first | rfl | (simp [errW_none, errW_some] <;> rfl) | (simp [*, errW_none, errW_some] <;> rfl), bB HB⟩
end Go.Proofs.Ytijbngmlaggclaa.P
