-- Texts of this session's own program (wip/dr.py), which runs the kit's printer.
import Derived.Test.YtijbngmlaggclaaPx0
import Derived.Test.YtijbngmlaggclaaPx1
import Derived.Test.YtijbngmlaggclaaPx18
import Derived.Test.YtijbngmlaggclaaPx36
import Derived.Test.YtijbngmlaggclaaPx44
import Derived.Test.YtijbngmlaggclaaPx55
import Derived.Test.YtijbngmlaggclaaPx62
import Derived.Test.YtijbngmlaggclaaPx65
import Derived.Test.YtijbngmlaggclaaPx81
import Derived.Test.YtijbngmlaggclaaPx85
namespace Go.Proofs.Ytijbngmlaggclaa.P
open Go.RowKit Go.Proofs.YtijbngmlaggclaaW.PrintWords Go.Proofs.YtijbngmlaggclaaW.PrintLast Go.Proofs.YtijbngmlaggclaaW.PrintMore
attribute [local go_sem] max2_int min2_int max_two min_two max_three min_three max_four min_four   -- for this text's walks alone
set_option linter.unusedVariables false
set_option linter.unusedSimpArgs false

attribute [local go_sem high] eqA32
/-! ### laws_FnOrdersTurn: function 5 -/
mutual
def laws_FnOrdersTurn.j0 : Nat → List Int → Int → ByteArray → Bool → ByteArray → Bool → Bool → Int → Int → Int → Int → Int → Int → Option (Bool)
  | 0, _, _, _, _, _, _, _, _, _, _, _, _, _ => none
  | k + 1, x1, x6, x7, x8, x11, x20, x188, x690000, x690001, x702000, x702001, x710000, x710001 => if x188 = true then (some false) else (if x8 = true then ((impl_CountCodes.f k x690000 x690001).bind fun bt714 => ((impl_RoundRank.f k x690000 x690001 x7).bind fun bt716 => ((impl_ForthRank.f k x690000 x690001 x11).bind fun bt718 => ((impl_TurnWheel.f k x690000 x690001 x7 x702000 x702001).bind fun bt720 => (if bt714.1 = 0 then (none) else ((impl_RoundCode.f k x690000 x690001 (Int.tmod (wrap64 (x6 + 1)) bt714.1)).bind fun bt722 => (if bt714.2 = true then (if bt716.2 = true then (if bt716.1 = x6 then (if bt718.2 = true then (if bt718.1 = x6 then (if bt720.2 = true then (if bt722.2 = true then (if bt720.1.toList = bt722.1.toList then (if x702001 = 1 then (laws_FnOrdersTurn.j1 k x1 x6 x11 x20 (x20 != (decide (x6 < (wrap64 (bt714.1 - 1))))) x690000 x690001 x710000 x710001) else (laws_FnOrdersTurn.j1 k x1 x6 x11 x20 true x690000 x690001 x710000 x710001)) else (laws_FnOrdersTurn.j1 k x1 x6 x11 x20 true x690000 x690001 x710000 x710001)) else (laws_FnOrdersTurn.j1 k x1 x6 x11 x20 true x690000 x690001 x710000 x710001)) else (laws_FnOrdersTurn.j1 k x1 x6 x11 x20 true x690000 x690001 x710000 x710001)) else (laws_FnOrdersTurn.j1 k x1 x6 x11 x20 true x690000 x690001 x710000 x710001)) else (laws_FnOrdersTurn.j1 k x1 x6 x11 x20 true x690000 x690001 x710000 x710001)) else (laws_FnOrdersTurn.j1 k x1 x6 x11 x20 true x690000 x690001 x710000 x710001)) else (laws_FnOrdersTurn.j1 k x1 x6 x11 x20 true x690000 x690001 x710000 x710001)) else (laws_FnOrdersTurn.j1 k x1 x6 x11 x20 true x690000 x690001 x710000 x710001)))))))) else (laws_FnOrdersTurn.j2 k x1))
def laws_FnOrdersTurn.j2 : Nat → List Int → Option (Bool)
  | 0, _ => none
  | k + 1, x1 => (spec_DrawForthRank.f k x1).bind fun bt728 => ((impl_ForthRank.f k bt728.1 bt728.2.1 bt728.2.2).bind fun bt732 => ((spec_ForthRank.f k bt728.1 bt728.2.1 bt728.2.2).bind fun bt734 => ((impl_RoundRank.f k bt728.1 bt728.2.1 bt728.2.2).bind fun bt736 => ((spec_RoundRank.f k bt728.1 bt728.2.1 bt728.2.2).bind fun bt738 => ((spec_DrawForthPart.f k x1).bind fun bt740 => ((impl_ForthPart.f k bt740.1 bt740.2.1 bt740.2.2.1 bt740.2.2.2).bind fun bt745 => ((spec_ForthPart.f k bt740.1 bt740.2.1 bt740.2.2.1 bt740.2.2.2).bind fun bt749 => ((impl_RoundPart.f k bt740.1 bt740.2.1 bt740.2.2.1 bt740.2.2.2).bind fun bt753 => ((spec_RoundPart.f k bt740.1 bt740.2.1 bt740.2.2.1 bt740.2.2.2).bind fun bt757 => ((spec_DrawWheelTurns.f x1).bind fun bt761 => ((impl_WheelTurns.f k bt761.1 bt761.2).bind fun bt764 => ((spec_WheelTurns.f k bt761.1 bt761.2).bind fun bt768 => (if (bt732.2 != bt734.2) = true then (laws_FnOrdersTurn.j3 k bt728.2.2 bt732.1 bt732.2 bt736.1 bt740.2.2.2 bt745.1 bt745.2 bt753.1 bt753.2 bt764.1 bt764.2 true bt728.1 bt728.2.1 bt740.1 bt740.2.1 bt761.1 bt761.2) else (if bt732.1 = bt734.1 then (if (bt736.2 != bt738.2) = true then (laws_FnOrdersTurn.j3 k bt728.2.2 bt732.1 bt732.2 bt736.1 bt740.2.2.2 bt745.1 bt745.2 bt753.1 bt753.2 bt764.1 bt764.2 true bt728.1 bt728.2.1 bt740.1 bt740.2.1 bt761.1 bt761.2) else (if bt736.1 = bt738.1 then (if (bt736.2 != bt732.2) = true then (laws_FnOrdersTurn.j3 k bt728.2.2 bt732.1 bt732.2 bt736.1 bt740.2.2.2 bt745.1 bt745.2 bt753.1 bt753.2 bt764.1 bt764.2 true bt728.1 bt728.2.1 bt740.1 bt740.2.1 bt761.1 bt761.2) else (if (bt745.2 != bt749.2) = true then (laws_FnOrdersTurn.j3 k bt728.2.2 bt732.1 bt732.2 bt736.1 bt740.2.2.2 bt745.1 bt745.2 bt753.1 bt753.2 bt764.1 bt764.2 true bt728.1 bt728.2.1 bt740.1 bt740.2.1 bt761.1 bt761.2) else ((laws_aTexts.f k bt745.1 bt749.1).bind fun t772 => (if t772 = true then (if (bt753.2 != bt757.2) = true then (laws_FnOrdersTurn.j3 k bt728.2.2 bt732.1 bt732.2 bt736.1 bt740.2.2.2 bt745.1 bt745.2 bt753.1 bt753.2 bt764.1 bt764.2 true bt728.1 bt728.2.1 bt740.1 bt740.2.1 bt761.1 bt761.2) else ((laws_aTexts.f k bt753.1 bt757.1).bind fun t773 => (if t773 = true then (if bt745.2 = true then (if bt753.2 = true then (if (bt764.2 != bt768.2) = true then (laws_FnOrdersTurn.j3 k bt728.2.2 bt732.1 bt732.2 bt736.1 bt740.2.2.2 bt745.1 bt745.2 bt753.1 bt753.2 bt764.1 bt764.2 true bt728.1 bt728.2.1 bt740.1 bt740.2.1 bt761.1 bt761.2) else ((laws_aSame.f k bt764.1 bt768.1).bind fun t774 => (laws_FnOrdersTurn.j3 k bt728.2.2 bt732.1 bt732.2 bt736.1 bt740.2.2.2 bt745.1 bt745.2 bt753.1 bt753.2 bt764.1 bt764.2 (!t774) bt728.1 bt728.2.1 bt740.1 bt740.2.1 bt761.1 bt761.2))) else (laws_FnOrdersTurn.j3 k bt728.2.2 bt732.1 bt732.2 bt736.1 bt740.2.2.2 bt745.1 bt745.2 bt753.1 bt753.2 bt764.1 bt764.2 true bt728.1 bt728.2.1 bt740.1 bt740.2.1 bt761.1 bt761.2)) else (if (bt764.2 != bt768.2) = true then (laws_FnOrdersTurn.j3 k bt728.2.2 bt732.1 bt732.2 bt736.1 bt740.2.2.2 bt745.1 bt745.2 bt753.1 bt753.2 bt764.1 bt764.2 true bt728.1 bt728.2.1 bt740.1 bt740.2.1 bt761.1 bt761.2) else ((laws_aSame.f k bt764.1 bt768.1).bind fun t775 => (laws_FnOrdersTurn.j3 k bt728.2.2 bt732.1 bt732.2 bt736.1 bt740.2.2.2 bt745.1 bt745.2 bt753.1 bt753.2 bt764.1 bt764.2 (!t775) bt728.1 bt728.2.1 bt740.1 bt740.2.1 bt761.1 bt761.2)))) else (laws_FnOrdersTurn.j3 k bt728.2.2 bt732.1 bt732.2 bt736.1 bt740.2.2.2 bt745.1 bt745.2 bt753.1 bt753.2 bt764.1 bt764.2 true bt728.1 bt728.2.1 bt740.1 bt740.2.1 bt761.1 bt761.2)))) else (laws_FnOrdersTurn.j3 k bt728.2.2 bt732.1 bt732.2 bt736.1 bt740.2.2.2 bt745.1 bt745.2 bt753.1 bt753.2 bt764.1 bt764.2 true bt728.1 bt728.2.1 bt740.1 bt740.2.1 bt761.1 bt761.2))))) else (laws_FnOrdersTurn.j3 k bt728.2.2 bt732.1 bt732.2 bt736.1 bt740.2.2.2 bt745.1 bt745.2 bt753.1 bt753.2 bt764.1 bt764.2 true bt728.1 bt728.2.1 bt740.1 bt740.2.1 bt761.1 bt761.2))) else (laws_FnOrdersTurn.j3 k bt728.2.2 bt732.1 bt732.2 bt736.1 bt740.2.2.2 bt745.1 bt745.2 bt753.1 bt753.2 bt764.1 bt764.2 true bt728.1 bt728.2.1 bt740.1 bt740.2.1 bt761.1 bt761.2)))))))))))))))
def laws_FnOrdersTurn.j3 : Nat → ByteArray → Int → Bool → Int → Int → List ByteArray → Bool → List ByteArray → Bool → List Int → Bool → Bool → Int → Int → Int → Int → Int → Int → Option (Bool)
  | 0, _, _, _, _, _, _, _, _, _, _, _, _, _, _, _, _, _, _ => none
  | k + 1, x38, x39, x40, x43, x49, x50, x51, x54, x55, x59, x60, x432, x732000, x732001, x745000, x745001, x764000, x764001 => if x432 = true then (some false) else (if x40 = true then ((impl_ForthCode.f k x732000 x732001 x39).bind fun bt776 => ((impl_RoundCode.f k x732000 x732001 x43).bind fun bt778 => (if bt776.2 = true then (if bt776.1.toList = x38.toList then (if bt778.2 = true then (if bt778.1.toList = x38.toList then (laws_FnOrdersTurn.j4 k x49 x50 x51 x54 x55 x59 x60 x745000 x745001 x764000 x764001) else (some false)) else (some false)) else (some false)) else (some false)))) else (laws_FnOrdersTurn.j4 k x49 x50 x51 x54 x55 x59 x60 x745000 x745001 x764000 x764001))
def laws_FnOrdersTurn.j4 : Nat → Int → List ByteArray → Bool → List ByteArray → Bool → List Int → Bool → Int → Int → Int → Int → Option (Bool)
  | 0, _, _, _, _, _, _, _, _, _, _, _ => none
  | k + 1, x49, x50, x51, x54, x55, x59, x60, x745000, x745001, x764000, x764001 => if x51 = true then ((impl_IsTurnOrder.f k x745000 x745001 x50).bind fun bt780 => (if (x50.length : Int) = x49 then (if bt780.2 = true then (if bt780.1 = true then (laws_FnOrdersTurn.j5 k x49 x54 x55 x59 x60 x745000 x745001 x764000 x764001) else (some false)) else (some false)) else (some false))) else (laws_FnOrdersTurn.j5 k x49 x54 x55 x59 x60 x745000 x745001 x764000 x764001)
def laws_FnOrdersTurn.j5 : Nat → Int → List ByteArray → Bool → List Int → Bool → Int → Int → Int → Int → Option (Bool)
  | 0, _, _, _, _, _, _, _, _, _ => none
  | k + 1, x49, x54, x55, x59, x60, x745000, x745001, x764000, x764001 => if x55 = true then ((impl_CountCodes.f k x745000 x745001).bind fun bt782 => ((impl_IsTurnOrder.f k x745000 x745001 x54).bind fun bt784 => (if (x54.length : Int) = x49 then (if bt782.2 = true then (if bt784.2 = true then (if x49 ≤ bt782.1 then (if bt784.1 = true then (laws_FnOrdersTurn.j6 k x59 x60 x764000 x764001) else (some false)) else (laws_FnOrdersTurn.j6 k x59 x60 x764000 x764001)) else (some false)) else (some false)) else (some false)))) else (laws_FnOrdersTurn.j6 k x59 x60 x764000 x764001)
def laws_FnOrdersTurn.j6 : Nat → List Int → Bool → Int → Int → Option (Bool)
  | 0, _, _, _, _ => none
  | k + 1, x59, x60, x764000, x764001 => if x60 = true then ((impl_CountCodes.f k x764000 x764001).bind fun bt786 => (laws_FnOrdersTurn.l0 k x59 bt786.1 bt786.2 0 x59 (x59.length : Int) 0 x764000 x764001)) else (some true)
def laws_FnOrdersTurn.l0 : Nat → List Int → Int → Bool → Int → List Int → Int → Int → Int → Int → Option (Bool)
  | 0, _, _, _, _, _, _, _, _, _ => none
  | k + 1, x59, x73, x74, x75, x520, x521, x522, x764000, x764001 => if x522 < x521 then (if 0 ≤ x522 then (if x522 < (x520.length : Int) then (laws_FnOrdersTurn.l0 k x59 x73 x74 (wrap64 (x75 + (rd x520 x522))) x520 x521 (wrap64 (x522 + 1)) x764000 x764001) else (none)) else (none)) else (if x74 = true then (if x75 = x73 then (if (x59.length : Int) = x764000 then (if 0 < (x59.length : Int) then (some ((rd x59 0) == x764001)) else (none)) else (some false)) else (some false)) else (some false))
def laws_FnOrdersTurn.j1 : Nat → List Int → Int → ByteArray → Bool → Bool → Int → Int → Int → Int → Option (Bool)
  | 0, _, _, _, _, _, _, _, _, _ => none
  | k + 1, x1, x6, x11, x20, x268, x690000, x690001, x710000, x710001 => if x268 = true then (some false) else (if x20 = true then ((impl_TurnWheel.f k x690000 x690001 x11 x710000 x710001).bind fun bt724 => ((impl_ForthCode.f k x690000 x690001 (wrap64 (x6 + 1))).bind fun bt726 => (if bt724.2 = true then (if bt726.2 = true then (if bt724.1.toList = bt726.1.toList then (laws_FnOrdersTurn.j2 k x1) else (some false)) else (some false)) else (some false)))) else (laws_FnOrdersTurn.j2 k x1))
end
def laws_FnOrdersTurn.f (k : Nat) (l0 : List Int) (l1 : List Int) : Option (Bool) := (laws_big.f l0 l1).bind fun t685 => (if t685 = true then (some true) else ((spec_DrawRoundCode.f k l0).bind fun bt686 => ((impl_RoundCode.f k bt686.1 bt686.2.1 bt686.2.2).bind fun bt690 => ((spec_RoundCode.f k bt686.1 bt686.2.1 bt686.2.2).bind fun bt692 => ((impl_ForthCode.f k bt686.1 bt686.2.1 bt686.2.2).bind fun bt694 => ((spec_ForthCode.f k bt686.1 bt686.2.1 bt686.2.2).bind fun bt696 => ((impl_TurnInRound.f k bt686.1 bt686.2.1 bt686.2.2).bind fun bt698 => ((spec_TurnInRound.f k bt686.1 bt686.2.1 bt686.2.2).bind fun bt702 => ((impl_TurnInForth.f k bt686.1 bt686.2.1 bt686.2.2).bind fun bt706 => ((spec_TurnInForth.f k bt686.1 bt686.2.1 bt686.2.2).bind fun bt710 => (if (bt690.2 != bt692.2) = true then (laws_FnOrdersTurn.j0 k l1 bt686.2.2 bt690.1 bt690.2 bt694.1 bt706.2.2 true bt686.1 bt686.2.1 bt698.1 bt698.2.1 bt706.1 bt706.2.1) else (if bt690.1.toList = bt692.1.toList then (if (bt694.2 != bt696.2) = true then (laws_FnOrdersTurn.j0 k l1 bt686.2.2 bt690.1 bt690.2 bt694.1 bt706.2.2 true bt686.1 bt686.2.1 bt698.1 bt698.2.1 bt706.1 bt706.2.1) else (if bt694.1.toList = bt696.1.toList then (if (bt698.2.2 != bt702.2.2) = true then (laws_FnOrdersTurn.j0 k l1 bt686.2.2 bt690.1 bt690.2 bt694.1 bt706.2.2 true bt686.1 bt686.2.1 bt698.1 bt698.2.1 bt706.1 bt706.2.1) else (if (!(bt698.1 == bt702.1) || (!(bt698.2.1 == bt702.2.1))) = true then (laws_FnOrdersTurn.j0 k l1 bt686.2.2 bt690.1 bt690.2 bt694.1 bt706.2.2 true bt686.1 bt686.2.1 bt698.1 bt698.2.1 bt706.1 bt706.2.1) else (if (bt706.2.2 != bt710.2.2) = true then (laws_FnOrdersTurn.j0 k l1 bt686.2.2 bt690.1 bt690.2 bt694.1 bt706.2.2 true bt686.1 bt686.2.1 bt698.1 bt698.2.1 bt706.1 bt706.2.1) else (if (!(bt706.1 == bt710.1) || (!(bt706.2.1 == bt710.2.1))) = true then (laws_FnOrdersTurn.j0 k l1 bt686.2.2 bt690.1 bt690.2 bt694.1 bt706.2.2 true bt686.1 bt686.2.1 bt698.1 bt698.2.1 bt706.1 bt706.2.1) else (if (bt694.2 != bt690.2) = true then (laws_FnOrdersTurn.j0 k l1 bt686.2.2 bt690.1 bt690.2 bt694.1 bt706.2.2 true bt686.1 bt686.2.1 bt698.1 bt698.2.1 bt706.1 bt706.2.1) else (if (bt698.2.2 != bt690.2) = true then (laws_FnOrdersTurn.j0 k l1 bt686.2.2 bt690.1 bt690.2 bt694.1 bt706.2.2 true bt686.1 bt686.2.1 bt698.1 bt698.2.1 bt706.1 bt706.2.1) else (if bt706.2.2 = true then (laws_FnOrdersTurn.j0 k l1 bt686.2.2 bt690.1 bt690.2 bt694.1 bt706.2.2 (!bt690.2) bt686.1 bt686.2.1 bt698.1 bt698.2.1 bt706.1 bt706.2.1) else (laws_FnOrdersTurn.j0 k l1 bt686.2.2 bt690.1 bt690.2 bt694.1 bt706.2.2 false bt686.1 bt686.2.1 bt698.1 bt698.2.1 bt706.1 bt706.2.1)))))))) else (laws_FnOrdersTurn.j0 k l1 bt686.2.2 bt690.1 bt690.2 bt694.1 bt706.2.2 true bt686.1 bt686.2.1 bt698.1 bt698.2.1 bt706.1 bt706.2.1))) else (laws_FnOrdersTurn.j0 k l1 bt686.2.2 bt690.1 bt690.2 bt694.1 bt706.2.2 true bt686.1 bt686.2.1 bt698.1 bt698.2.1 bt706.1 bt706.2.1)))))))))))))
theorem laws_FnOrdersTurn.mono_l : ∀ k, (∀ y0 y1 y2 y3 y4 y5 y6 y7 y8 y9 y10 y11 y12, LeO (laws_FnOrdersTurn.j0 k y0 y1 y2 y3 y4 y5 y6 y7 y8 y9 y10 y11 y12) (laws_FnOrdersTurn.j0 (k + 1) y0 y1 y2 y3 y4 y5 y6 y7 y8 y9 y10 y11 y12)) ∧ (∀ y0, LeO (laws_FnOrdersTurn.j2 k y0) (laws_FnOrdersTurn.j2 (k + 1) y0)) ∧ (∀ y0 y1 y2 y3 y4 y5 y6 y7 y8 y9 y10 y11 y12 y13 y14 y15 y16 y17, LeO (laws_FnOrdersTurn.j3 k y0 y1 y2 y3 y4 y5 y6 y7 y8 y9 y10 y11 y12 y13 y14 y15 y16 y17) (laws_FnOrdersTurn.j3 (k + 1) y0 y1 y2 y3 y4 y5 y6 y7 y8 y9 y10 y11 y12 y13 y14 y15 y16 y17)) ∧ (∀ y0 y1 y2 y3 y4 y5 y6 y7 y8 y9 y10, LeO (laws_FnOrdersTurn.j4 k y0 y1 y2 y3 y4 y5 y6 y7 y8 y9 y10) (laws_FnOrdersTurn.j4 (k + 1) y0 y1 y2 y3 y4 y5 y6 y7 y8 y9 y10)) ∧ (∀ y0 y1 y2 y3 y4 y5 y6 y7 y8, LeO (laws_FnOrdersTurn.j5 k y0 y1 y2 y3 y4 y5 y6 y7 y8) (laws_FnOrdersTurn.j5 (k + 1) y0 y1 y2 y3 y4 y5 y6 y7 y8)) ∧ (∀ y0 y1 y2 y3, LeO (laws_FnOrdersTurn.j6 k y0 y1 y2 y3) (laws_FnOrdersTurn.j6 (k + 1) y0 y1 y2 y3)) ∧ (∀ y0 y1 y2 y3 y4 y5 y6 y7 y8, LeO (laws_FnOrdersTurn.l0 k y0 y1 y2 y3 y4 y5 y6 y7 y8) (laws_FnOrdersTurn.l0 (k + 1) y0 y1 y2 y3 y4 y5 y6 y7 y8)) ∧ (∀ y0 y1 y2 y3 y4 y5 y6 y7 y8, LeO (laws_FnOrdersTurn.j1 k y0 y1 y2 y3 y4 y5 y6 y7 y8) (laws_FnOrdersTurn.j1 (k + 1) y0 y1 y2 y3 y4 y5 y6 y7 y8))
  | 0 => ⟨fun _ _ _ _ _ _ _ _ _ _ _ _ _ r h => by simp [laws_FnOrdersTurn.j0] at h, fun _ r h => by simp [laws_FnOrdersTurn.j2] at h, fun _ _ _ _ _ _ _ _ _ _ _ _ _ _ _ _ _ _ r h => by simp [laws_FnOrdersTurn.j3] at h, fun _ _ _ _ _ _ _ _ _ _ _ r h => by simp [laws_FnOrdersTurn.j4] at h, fun _ _ _ _ _ _ _ _ _ r h => by simp [laws_FnOrdersTurn.j5] at h, fun _ _ _ _ r h => by simp [laws_FnOrdersTurn.j6] at h, fun _ _ _ _ _ _ _ _ _ r h => by simp [laws_FnOrdersTurn.l0] at h, fun _ _ _ _ _ _ _ _ _ r h => by simp [laws_FnOrdersTurn.j1] at h⟩
  | k + 1 => by
    obtain ⟨ih0, ih1, ih2, ih3, ih4, ih5, ih6, ih7⟩ := laws_FnOrdersTurn.mono_l k
    refine ⟨?_, ?_, ?_, ?_, ?_, ?_, ?_, ?_⟩
    · intro y0 y1 y2 y3 y4 y5 y6 y7 y8 y9 y10 y11 y12
      unfold laws_FnOrdersTurn.j0
      repeat' first
      | (with_reducible exact ih0 _ _ _ _ _ _ _ _ _ _ _ _ _)
      | (with_reducible exact ih1 _)
      | (with_reducible exact ih2 _ _ _ _ _ _ _ _ _ _ _ _ _ _ _ _ _ _)
      | (with_reducible exact ih3 _ _ _ _ _ _ _ _ _ _ _)
      | (with_reducible exact ih4 _ _ _ _ _ _ _ _ _)
      | (with_reducible exact ih5 _ _ _ _)
      | (with_reducible exact ih6 _ _ _ _ _ _ _ _ _)
      | (with_reducible exact ih7 _ _ _ _ _ _ _ _ _)
      | (with_reducible exact impl_CountCodes.mono _ _ _)
      | (with_reducible exact impl_ForthCode.mono _ _ _ _)
      | (with_reducible exact impl_ForthPart.mono _ _ _ _ _)
      | (with_reducible exact impl_ForthRank.mono _ _ _ _)
      | (with_reducible exact impl_IsTurnOrder.mono _ _ _ _)
      | (with_reducible exact impl_RoundCode.mono _ _ _ _)
      | (with_reducible exact impl_RoundPart.mono _ _ _ _ _)
      | (with_reducible exact impl_RoundRank.mono _ _ _ _)
      | (with_reducible exact impl_TurnInForth.mono _ _ _ _)
      | (with_reducible exact impl_TurnInRound.mono _ _ _ _)
      | (with_reducible exact impl_TurnWheel.mono _ _ _ _ _ _)
      | (with_reducible exact impl_WheelTurns.mono _ _ _)
      | (with_reducible exact laws_aSame.mono _ _ _)
      | (with_reducible exact laws_aTexts.mono _ _ _)
      | (with_reducible exact spec_DrawForthPart.mono _ _)
      | (with_reducible exact spec_DrawForthRank.mono _ _)
      | (with_reducible exact spec_DrawRoundCode.mono _ _)
      | (with_reducible exact spec_ForthCode.mono _ _ _ _)
      | (with_reducible exact spec_ForthPart.mono _ _ _ _ _)
      | (with_reducible exact spec_ForthRank.mono _ _ _ _)
      | (with_reducible exact spec_RoundCode.mono _ _ _ _)
      | (with_reducible exact spec_RoundPart.mono _ _ _ _ _)
      | (with_reducible exact spec_RoundRank.mono _ _ _ _)
      | (with_reducible exact spec_TurnInForth.mono _ _ _ _)
      | (with_reducible exact spec_TurnInRound.mono _ _ _ _)
      | (with_reducible exact spec_WheelTurns.mono _ _ _)
      | (with_reducible exact LeO.refl _)
      | (with_reducible exact LeO.none _)
      | (with_reducible refine LeO.ite ?_ ?_)
      | (with_reducible refine LeO.bind ?_ (fun _ => ?_))
      | exact ih0 _ _ _ _ _ _ _ _ _ _ _ _ _
      | exact ih1 _
      | exact ih2 _ _ _ _ _ _ _ _ _ _ _ _ _ _ _ _ _ _
      | exact ih3 _ _ _ _ _ _ _ _ _ _ _
      | exact ih4 _ _ _ _ _ _ _ _ _
      | exact ih5 _ _ _ _
      | exact ih6 _ _ _ _ _ _ _ _ _
      | exact ih7 _ _ _ _ _ _ _ _ _
      | exact impl_CountCodes.mono _ _ _
      | exact impl_ForthCode.mono _ _ _ _
      | exact impl_ForthPart.mono _ _ _ _ _
      | exact impl_ForthRank.mono _ _ _ _
      | exact impl_IsTurnOrder.mono _ _ _ _
      | exact impl_RoundCode.mono _ _ _ _
      | exact impl_RoundPart.mono _ _ _ _ _
      | exact impl_RoundRank.mono _ _ _ _
      | exact impl_TurnInForth.mono _ _ _ _
      | exact impl_TurnInRound.mono _ _ _ _
      | exact impl_TurnWheel.mono _ _ _ _ _ _
      | exact impl_WheelTurns.mono _ _ _
      | exact laws_aSame.mono _ _ _
      | exact laws_aTexts.mono _ _ _
      | exact spec_DrawForthPart.mono _ _
      | exact spec_DrawForthRank.mono _ _
      | exact spec_DrawRoundCode.mono _ _
      | exact spec_ForthCode.mono _ _ _ _
      | exact spec_ForthPart.mono _ _ _ _ _
      | exact spec_ForthRank.mono _ _ _ _
      | exact spec_RoundCode.mono _ _ _ _
      | exact spec_RoundPart.mono _ _ _ _ _
      | exact spec_RoundRank.mono _ _ _ _
      | exact spec_TurnInForth.mono _ _ _ _
      | exact spec_TurnInRound.mono _ _ _ _
      | exact spec_WheelTurns.mono _ _ _
      | exact LeO.none _
      | refine LeO.ite ?_ ?_
      | refine LeO.bind ?_ (fun _ => ?_)
    · intro y0
      unfold laws_FnOrdersTurn.j2
      repeat' first
      | (with_reducible exact ih0 _ _ _ _ _ _ _ _ _ _ _ _ _)
      | (with_reducible exact ih1 _)
      | (with_reducible exact ih2 _ _ _ _ _ _ _ _ _ _ _ _ _ _ _ _ _ _)
      | (with_reducible exact ih3 _ _ _ _ _ _ _ _ _ _ _)
      | (with_reducible exact ih4 _ _ _ _ _ _ _ _ _)
      | (with_reducible exact ih5 _ _ _ _)
      | (with_reducible exact ih6 _ _ _ _ _ _ _ _ _)
      | (with_reducible exact ih7 _ _ _ _ _ _ _ _ _)
      | (with_reducible exact impl_CountCodes.mono _ _ _)
      | (with_reducible exact impl_ForthCode.mono _ _ _ _)
      | (with_reducible exact impl_ForthPart.mono _ _ _ _ _)
      | (with_reducible exact impl_ForthRank.mono _ _ _ _)
      | (with_reducible exact impl_IsTurnOrder.mono _ _ _ _)
      | (with_reducible exact impl_RoundCode.mono _ _ _ _)
      | (with_reducible exact impl_RoundPart.mono _ _ _ _ _)
      | (with_reducible exact impl_RoundRank.mono _ _ _ _)
      | (with_reducible exact impl_TurnInForth.mono _ _ _ _)
      | (with_reducible exact impl_TurnInRound.mono _ _ _ _)
      | (with_reducible exact impl_TurnWheel.mono _ _ _ _ _ _)
      | (with_reducible exact impl_WheelTurns.mono _ _ _)
      | (with_reducible exact laws_aSame.mono _ _ _)
      | (with_reducible exact laws_aTexts.mono _ _ _)
      | (with_reducible exact spec_DrawForthPart.mono _ _)
      | (with_reducible exact spec_DrawForthRank.mono _ _)
      | (with_reducible exact spec_DrawRoundCode.mono _ _)
      | (with_reducible exact spec_ForthCode.mono _ _ _ _)
      | (with_reducible exact spec_ForthPart.mono _ _ _ _ _)
      | (with_reducible exact spec_ForthRank.mono _ _ _ _)
      | (with_reducible exact spec_RoundCode.mono _ _ _ _)
      | (with_reducible exact spec_RoundPart.mono _ _ _ _ _)
      | (with_reducible exact spec_RoundRank.mono _ _ _ _)
      | (with_reducible exact spec_TurnInForth.mono _ _ _ _)
      | (with_reducible exact spec_TurnInRound.mono _ _ _ _)
      | (with_reducible exact spec_WheelTurns.mono _ _ _)
      | (with_reducible exact LeO.refl _)
      | (with_reducible exact LeO.none _)
      | (with_reducible refine LeO.ite ?_ ?_)
      | (with_reducible refine LeO.bind ?_ (fun _ => ?_))
      | exact ih0 _ _ _ _ _ _ _ _ _ _ _ _ _
      | exact ih1 _
      | exact ih2 _ _ _ _ _ _ _ _ _ _ _ _ _ _ _ _ _ _
      | exact ih3 _ _ _ _ _ _ _ _ _ _ _
      | exact ih4 _ _ _ _ _ _ _ _ _
      | exact ih5 _ _ _ _
      | exact ih6 _ _ _ _ _ _ _ _ _
      | exact ih7 _ _ _ _ _ _ _ _ _
      | exact impl_CountCodes.mono _ _ _
      | exact impl_ForthCode.mono _ _ _ _
      | exact impl_ForthPart.mono _ _ _ _ _
      | exact impl_ForthRank.mono _ _ _ _
      | exact impl_IsTurnOrder.mono _ _ _ _
      | exact impl_RoundCode.mono _ _ _ _
      | exact impl_RoundPart.mono _ _ _ _ _
      | exact impl_RoundRank.mono _ _ _ _
      | exact impl_TurnInForth.mono _ _ _ _
      | exact impl_TurnInRound.mono _ _ _ _
      | exact impl_TurnWheel.mono _ _ _ _ _ _
      | exact impl_WheelTurns.mono _ _ _
      | exact laws_aSame.mono _ _ _
      | exact laws_aTexts.mono _ _ _
      | exact spec_DrawForthPart.mono _ _
      | exact spec_DrawForthRank.mono _ _
      | exact spec_DrawRoundCode.mono _ _
      | exact spec_ForthCode.mono _ _ _ _
      | exact spec_ForthPart.mono _ _ _ _ _
      | exact spec_ForthRank.mono _ _ _ _
      | exact spec_RoundCode.mono _ _ _ _
      | exact spec_RoundPart.mono _ _ _ _ _
      | exact spec_RoundRank.mono _ _ _ _
      | exact spec_TurnInForth.mono _ _ _ _
      | exact spec_TurnInRound.mono _ _ _ _
      | exact spec_WheelTurns.mono _ _ _
      | exact LeO.none _
      | refine LeO.ite ?_ ?_
      | refine LeO.bind ?_ (fun _ => ?_)
    · intro y0 y1 y2 y3 y4 y5 y6 y7 y8 y9 y10 y11 y12 y13 y14 y15 y16 y17
      unfold laws_FnOrdersTurn.j3
      repeat' first
      | (with_reducible exact ih0 _ _ _ _ _ _ _ _ _ _ _ _ _)
      | (with_reducible exact ih1 _)
      | (with_reducible exact ih2 _ _ _ _ _ _ _ _ _ _ _ _ _ _ _ _ _ _)
      | (with_reducible exact ih3 _ _ _ _ _ _ _ _ _ _ _)
      | (with_reducible exact ih4 _ _ _ _ _ _ _ _ _)
      | (with_reducible exact ih5 _ _ _ _)
      | (with_reducible exact ih6 _ _ _ _ _ _ _ _ _)
      | (with_reducible exact ih7 _ _ _ _ _ _ _ _ _)
      | (with_reducible exact impl_CountCodes.mono _ _ _)
      | (with_reducible exact impl_ForthCode.mono _ _ _ _)
      | (with_reducible exact impl_ForthPart.mono _ _ _ _ _)
      | (with_reducible exact impl_ForthRank.mono _ _ _ _)
      | (with_reducible exact impl_IsTurnOrder.mono _ _ _ _)
      | (with_reducible exact impl_RoundCode.mono _ _ _ _)
      | (with_reducible exact impl_RoundPart.mono _ _ _ _ _)
      | (with_reducible exact impl_RoundRank.mono _ _ _ _)
      | (with_reducible exact impl_TurnInForth.mono _ _ _ _)
      | (with_reducible exact impl_TurnInRound.mono _ _ _ _)
      | (with_reducible exact impl_TurnWheel.mono _ _ _ _ _ _)
      | (with_reducible exact impl_WheelTurns.mono _ _ _)
      | (with_reducible exact laws_aSame.mono _ _ _)
      | (with_reducible exact laws_aTexts.mono _ _ _)
      | (with_reducible exact spec_DrawForthPart.mono _ _)
      | (with_reducible exact spec_DrawForthRank.mono _ _)
      | (with_reducible exact spec_DrawRoundCode.mono _ _)
      | (with_reducible exact spec_ForthCode.mono _ _ _ _)
      | (with_reducible exact spec_ForthPart.mono _ _ _ _ _)
      | (with_reducible exact spec_ForthRank.mono _ _ _ _)
      | (with_reducible exact spec_RoundCode.mono _ _ _ _)
      | (with_reducible exact spec_RoundPart.mono _ _ _ _ _)
      | (with_reducible exact spec_RoundRank.mono _ _ _ _)
      | (with_reducible exact spec_TurnInForth.mono _ _ _ _)
      | (with_reducible exact spec_TurnInRound.mono _ _ _ _)
      | (with_reducible exact spec_WheelTurns.mono _ _ _)
      | (with_reducible exact LeO.refl _)
      | (with_reducible exact LeO.none _)
      | (with_reducible refine LeO.ite ?_ ?_)
      | (with_reducible refine LeO.bind ?_ (fun _ => ?_))
      | exact ih0 _ _ _ _ _ _ _ _ _ _ _ _ _
      | exact ih1 _
      | exact ih2 _ _ _ _ _ _ _ _ _ _ _ _ _ _ _ _ _ _
      | exact ih3 _ _ _ _ _ _ _ _ _ _ _
      | exact ih4 _ _ _ _ _ _ _ _ _
      | exact ih5 _ _ _ _
      | exact ih6 _ _ _ _ _ _ _ _ _
      | exact ih7 _ _ _ _ _ _ _ _ _
      | exact impl_CountCodes.mono _ _ _
      | exact impl_ForthCode.mono _ _ _ _
      | exact impl_ForthPart.mono _ _ _ _ _
      | exact impl_ForthRank.mono _ _ _ _
      | exact impl_IsTurnOrder.mono _ _ _ _
      | exact impl_RoundCode.mono _ _ _ _
      | exact impl_RoundPart.mono _ _ _ _ _
      | exact impl_RoundRank.mono _ _ _ _
      | exact impl_TurnInForth.mono _ _ _ _
      | exact impl_TurnInRound.mono _ _ _ _
      | exact impl_TurnWheel.mono _ _ _ _ _ _
      | exact impl_WheelTurns.mono _ _ _
      | exact laws_aSame.mono _ _ _
      | exact laws_aTexts.mono _ _ _
      | exact spec_DrawForthPart.mono _ _
      | exact spec_DrawForthRank.mono _ _
      | exact spec_DrawRoundCode.mono _ _
      | exact spec_ForthCode.mono _ _ _ _
      | exact spec_ForthPart.mono _ _ _ _ _
      | exact spec_ForthRank.mono _ _ _ _
      | exact spec_RoundCode.mono _ _ _ _
      | exact spec_RoundPart.mono _ _ _ _ _
      | exact spec_RoundRank.mono _ _ _ _
      | exact spec_TurnInForth.mono _ _ _ _
      | exact spec_TurnInRound.mono _ _ _ _
      | exact spec_WheelTurns.mono _ _ _
      | exact LeO.none _
      | refine LeO.ite ?_ ?_
      | refine LeO.bind ?_ (fun _ => ?_)
    · intro y0 y1 y2 y3 y4 y5 y6 y7 y8 y9 y10
      unfold laws_FnOrdersTurn.j4
      repeat' first
      | (with_reducible exact ih0 _ _ _ _ _ _ _ _ _ _ _ _ _)
      | (with_reducible exact ih1 _)
      | (with_reducible exact ih2 _ _ _ _ _ _ _ _ _ _ _ _ _ _ _ _ _ _)
      | (with_reducible exact ih3 _ _ _ _ _ _ _ _ _ _ _)
      | (with_reducible exact ih4 _ _ _ _ _ _ _ _ _)
      | (with_reducible exact ih5 _ _ _ _)
      | (with_reducible exact ih6 _ _ _ _ _ _ _ _ _)
      | (with_reducible exact ih7 _ _ _ _ _ _ _ _ _)
      | (with_reducible exact impl_CountCodes.mono _ _ _)
      | (with_reducible exact impl_ForthCode.mono _ _ _ _)
      | (with_reducible exact impl_ForthPart.mono _ _ _ _ _)
      | (with_reducible exact impl_ForthRank.mono _ _ _ _)
      | (with_reducible exact impl_IsTurnOrder.mono _ _ _ _)
      | (with_reducible exact impl_RoundCode.mono _ _ _ _)
      | (with_reducible exact impl_RoundPart.mono _ _ _ _ _)
      | (with_reducible exact impl_RoundRank.mono _ _ _ _)
      | (with_reducible exact impl_TurnInForth.mono _ _ _ _)
      | (with_reducible exact impl_TurnInRound.mono _ _ _ _)
      | (with_reducible exact impl_TurnWheel.mono _ _ _ _ _ _)
      | (with_reducible exact impl_WheelTurns.mono _ _ _)
      | (with_reducible exact laws_aSame.mono _ _ _)
      | (with_reducible exact laws_aTexts.mono _ _ _)
      | (with_reducible exact spec_DrawForthPart.mono _ _)
      | (with_reducible exact spec_DrawForthRank.mono _ _)
      | (with_reducible exact spec_DrawRoundCode.mono _ _)
      | (with_reducible exact spec_ForthCode.mono _ _ _ _)
      | (with_reducible exact spec_ForthPart.mono _ _ _ _ _)
      | (with_reducible exact spec_ForthRank.mono _ _ _ _)
      | (with_reducible exact spec_RoundCode.mono _ _ _ _)
      | (with_reducible exact spec_RoundPart.mono _ _ _ _ _)
      | (with_reducible exact spec_RoundRank.mono _ _ _ _)
      | (with_reducible exact spec_TurnInForth.mono _ _ _ _)
      | (with_reducible exact spec_TurnInRound.mono _ _ _ _)
      | (with_reducible exact spec_WheelTurns.mono _ _ _)
      | (with_reducible exact LeO.refl _)
      | (with_reducible exact LeO.none _)
      | (with_reducible refine LeO.ite ?_ ?_)
      | (with_reducible refine LeO.bind ?_ (fun _ => ?_))
      | exact ih0 _ _ _ _ _ _ _ _ _ _ _ _ _
      | exact ih1 _
      | exact ih2 _ _ _ _ _ _ _ _ _ _ _ _ _ _ _ _ _ _
      | exact ih3 _ _ _ _ _ _ _ _ _ _ _
      | exact ih4 _ _ _ _ _ _ _ _ _
      | exact ih5 _ _ _ _
      | exact ih6 _ _ _ _ _ _ _ _ _
      | exact ih7 _ _ _ _ _ _ _ _ _
      | exact impl_CountCodes.mono _ _ _
      | exact impl_ForthCode.mono _ _ _ _
      | exact impl_ForthPart.mono _ _ _ _ _
      | exact impl_ForthRank.mono _ _ _ _
      | exact impl_IsTurnOrder.mono _ _ _ _
      | exact impl_RoundCode.mono _ _ _ _
      | exact impl_RoundPart.mono _ _ _ _ _
      | exact impl_RoundRank.mono _ _ _ _
      | exact impl_TurnInForth.mono _ _ _ _
      | exact impl_TurnInRound.mono _ _ _ _
      | exact impl_TurnWheel.mono _ _ _ _ _ _
      | exact impl_WheelTurns.mono _ _ _
      | exact laws_aSame.mono _ _ _
      | exact laws_aTexts.mono _ _ _
      | exact spec_DrawForthPart.mono _ _
      | exact spec_DrawForthRank.mono _ _
      | exact spec_DrawRoundCode.mono _ _
      | exact spec_ForthCode.mono _ _ _ _
      | exact spec_ForthPart.mono _ _ _ _ _
      | exact spec_ForthRank.mono _ _ _ _
      | exact spec_RoundCode.mono _ _ _ _
      | exact spec_RoundPart.mono _ _ _ _ _
      | exact spec_RoundRank.mono _ _ _ _
      | exact spec_TurnInForth.mono _ _ _ _
      | exact spec_TurnInRound.mono _ _ _ _
      | exact spec_WheelTurns.mono _ _ _
      | exact LeO.none _
      | refine LeO.ite ?_ ?_
      | refine LeO.bind ?_ (fun _ => ?_)
    · intro y0 y1 y2 y3 y4 y5 y6 y7 y8
      unfold laws_FnOrdersTurn.j5
      repeat' first
      | (with_reducible exact ih0 _ _ _ _ _ _ _ _ _ _ _ _ _)
      | (with_reducible exact ih1 _)
      | (with_reducible exact ih2 _ _ _ _ _ _ _ _ _ _ _ _ _ _ _ _ _ _)
      | (with_reducible exact ih3 _ _ _ _ _ _ _ _ _ _ _)
      | (with_reducible exact ih4 _ _ _ _ _ _ _ _ _)
      | (with_reducible exact ih5 _ _ _ _)
      | (with_reducible exact ih6 _ _ _ _ _ _ _ _ _)
      | (with_reducible exact ih7 _ _ _ _ _ _ _ _ _)
      | (with_reducible exact impl_CountCodes.mono _ _ _)
      | (with_reducible exact impl_ForthCode.mono _ _ _ _)
      | (with_reducible exact impl_ForthPart.mono _ _ _ _ _)
      | (with_reducible exact impl_ForthRank.mono _ _ _ _)
      | (with_reducible exact impl_IsTurnOrder.mono _ _ _ _)
      | (with_reducible exact impl_RoundCode.mono _ _ _ _)
      | (with_reducible exact impl_RoundPart.mono _ _ _ _ _)
      | (with_reducible exact impl_RoundRank.mono _ _ _ _)
      | (with_reducible exact impl_TurnInForth.mono _ _ _ _)
      | (with_reducible exact impl_TurnInRound.mono _ _ _ _)
      | (with_reducible exact impl_TurnWheel.mono _ _ _ _ _ _)
      | (with_reducible exact impl_WheelTurns.mono _ _ _)
      | (with_reducible exact laws_aSame.mono _ _ _)
      | (with_reducible exact laws_aTexts.mono _ _ _)
      | (with_reducible exact spec_DrawForthPart.mono _ _)
      | (with_reducible exact spec_DrawForthRank.mono _ _)
      | (with_reducible exact spec_DrawRoundCode.mono _ _)
      | (with_reducible exact spec_ForthCode.mono _ _ _ _)
      | (with_reducible exact spec_ForthPart.mono _ _ _ _ _)
      | (with_reducible exact spec_ForthRank.mono _ _ _ _)
      | (with_reducible exact spec_RoundCode.mono _ _ _ _)
      | (with_reducible exact spec_RoundPart.mono _ _ _ _ _)
      | (with_reducible exact spec_RoundRank.mono _ _ _ _)
      | (with_reducible exact spec_TurnInForth.mono _ _ _ _)
      | (with_reducible exact spec_TurnInRound.mono _ _ _ _)
      | (with_reducible exact spec_WheelTurns.mono _ _ _)
      | (with_reducible exact LeO.refl _)
      | (with_reducible exact LeO.none _)
      | (with_reducible refine LeO.ite ?_ ?_)
      | (with_reducible refine LeO.bind ?_ (fun _ => ?_))
      | exact ih0 _ _ _ _ _ _ _ _ _ _ _ _ _
      | exact ih1 _
      | exact ih2 _ _ _ _ _ _ _ _ _ _ _ _ _ _ _ _ _ _
      | exact ih3 _ _ _ _ _ _ _ _ _ _ _
      | exact ih4 _ _ _ _ _ _ _ _ _
      | exact ih5 _ _ _ _
      | exact ih6 _ _ _ _ _ _ _ _ _
      | exact ih7 _ _ _ _ _ _ _ _ _
      | exact impl_CountCodes.mono _ _ _
      | exact impl_ForthCode.mono _ _ _ _
      | exact impl_ForthPart.mono _ _ _ _ _
      | exact impl_ForthRank.mono _ _ _ _
      | exact impl_IsTurnOrder.mono _ _ _ _
      | exact impl_RoundCode.mono _ _ _ _
      | exact impl_RoundPart.mono _ _ _ _ _
      | exact impl_RoundRank.mono _ _ _ _
      | exact impl_TurnInForth.mono _ _ _ _
      | exact impl_TurnInRound.mono _ _ _ _
      | exact impl_TurnWheel.mono _ _ _ _ _ _
      | exact impl_WheelTurns.mono _ _ _
      | exact laws_aSame.mono _ _ _
      | exact laws_aTexts.mono _ _ _
      | exact spec_DrawForthPart.mono _ _
      | exact spec_DrawForthRank.mono _ _
      | exact spec_DrawRoundCode.mono _ _
      | exact spec_ForthCode.mono _ _ _ _
      | exact spec_ForthPart.mono _ _ _ _ _
      | exact spec_ForthRank.mono _ _ _ _
      | exact spec_RoundCode.mono _ _ _ _
      | exact spec_RoundPart.mono _ _ _ _ _
      | exact spec_RoundRank.mono _ _ _ _
      | exact spec_TurnInForth.mono _ _ _ _
      | exact spec_TurnInRound.mono _ _ _ _
      | exact spec_WheelTurns.mono _ _ _
      | exact LeO.none _
      | refine LeO.ite ?_ ?_
      | refine LeO.bind ?_ (fun _ => ?_)
    · intro y0 y1 y2 y3
      unfold laws_FnOrdersTurn.j6
      repeat' first
      | (with_reducible exact ih0 _ _ _ _ _ _ _ _ _ _ _ _ _)
      | (with_reducible exact ih1 _)
      | (with_reducible exact ih2 _ _ _ _ _ _ _ _ _ _ _ _ _ _ _ _ _ _)
      | (with_reducible exact ih3 _ _ _ _ _ _ _ _ _ _ _)
      | (with_reducible exact ih4 _ _ _ _ _ _ _ _ _)
      | (with_reducible exact ih5 _ _ _ _)
      | (with_reducible exact ih6 _ _ _ _ _ _ _ _ _)
      | (with_reducible exact ih7 _ _ _ _ _ _ _ _ _)
      | (with_reducible exact impl_CountCodes.mono _ _ _)
      | (with_reducible exact impl_ForthCode.mono _ _ _ _)
      | (with_reducible exact impl_ForthPart.mono _ _ _ _ _)
      | (with_reducible exact impl_ForthRank.mono _ _ _ _)
      | (with_reducible exact impl_IsTurnOrder.mono _ _ _ _)
      | (with_reducible exact impl_RoundCode.mono _ _ _ _)
      | (with_reducible exact impl_RoundPart.mono _ _ _ _ _)
      | (with_reducible exact impl_RoundRank.mono _ _ _ _)
      | (with_reducible exact impl_TurnInForth.mono _ _ _ _)
      | (with_reducible exact impl_TurnInRound.mono _ _ _ _)
      | (with_reducible exact impl_TurnWheel.mono _ _ _ _ _ _)
      | (with_reducible exact impl_WheelTurns.mono _ _ _)
      | (with_reducible exact laws_aSame.mono _ _ _)
      | (with_reducible exact laws_aTexts.mono _ _ _)
      | (with_reducible exact spec_DrawForthPart.mono _ _)
      | (with_reducible exact spec_DrawForthRank.mono _ _)
      | (with_reducible exact spec_DrawRoundCode.mono _ _)
      | (with_reducible exact spec_ForthCode.mono _ _ _ _)
      | (with_reducible exact spec_ForthPart.mono _ _ _ _ _)
      | (with_reducible exact spec_ForthRank.mono _ _ _ _)
      | (with_reducible exact spec_RoundCode.mono _ _ _ _)
      | (with_reducible exact spec_RoundPart.mono _ _ _ _ _)
      | (with_reducible exact spec_RoundRank.mono _ _ _ _)
      | (with_reducible exact spec_TurnInForth.mono _ _ _ _)
      | (with_reducible exact spec_TurnInRound.mono _ _ _ _)
      | (with_reducible exact spec_WheelTurns.mono _ _ _)
      | (with_reducible exact LeO.refl _)
      | (with_reducible exact LeO.none _)
      | (with_reducible refine LeO.ite ?_ ?_)
      | (with_reducible refine LeO.bind ?_ (fun _ => ?_))
      | exact ih0 _ _ _ _ _ _ _ _ _ _ _ _ _
      | exact ih1 _
      | exact ih2 _ _ _ _ _ _ _ _ _ _ _ _ _ _ _ _ _ _
      | exact ih3 _ _ _ _ _ _ _ _ _ _ _
      | exact ih4 _ _ _ _ _ _ _ _ _
      | exact ih5 _ _ _ _
      | exact ih6 _ _ _ _ _ _ _ _ _
      | exact ih7 _ _ _ _ _ _ _ _ _
      | exact impl_CountCodes.mono _ _ _
      | exact impl_ForthCode.mono _ _ _ _
      | exact impl_ForthPart.mono _ _ _ _ _
      | exact impl_ForthRank.mono _ _ _ _
      | exact impl_IsTurnOrder.mono _ _ _ _
      | exact impl_RoundCode.mono _ _ _ _
      | exact impl_RoundPart.mono _ _ _ _ _
      | exact impl_RoundRank.mono _ _ _ _
      | exact impl_TurnInForth.mono _ _ _ _
      | exact impl_TurnInRound.mono _ _ _ _
      | exact impl_TurnWheel.mono _ _ _ _ _ _
      | exact impl_WheelTurns.mono _ _ _
      | exact laws_aSame.mono _ _ _
      | exact laws_aTexts.mono _ _ _
      | exact spec_DrawForthPart.mono _ _
      | exact spec_DrawForthRank.mono _ _
      | exact spec_DrawRoundCode.mono _ _
      | exact spec_ForthCode.mono _ _ _ _
      | exact spec_ForthPart.mono _ _ _ _ _
      | exact spec_ForthRank.mono _ _ _ _
      | exact spec_RoundCode.mono _ _ _ _
      | exact spec_RoundPart.mono _ _ _ _ _
      | exact spec_RoundRank.mono _ _ _ _
      | exact spec_TurnInForth.mono _ _ _ _
      | exact spec_TurnInRound.mono _ _ _ _
      | exact spec_WheelTurns.mono _ _ _
      | exact LeO.none _
      | refine LeO.ite ?_ ?_
      | refine LeO.bind ?_ (fun _ => ?_)
    · intro y0 y1 y2 y3 y4 y5 y6 y7 y8
      unfold laws_FnOrdersTurn.l0
      repeat' first
      | (with_reducible exact ih0 _ _ _ _ _ _ _ _ _ _ _ _ _)
      | (with_reducible exact ih1 _)
      | (with_reducible exact ih2 _ _ _ _ _ _ _ _ _ _ _ _ _ _ _ _ _ _)
      | (with_reducible exact ih3 _ _ _ _ _ _ _ _ _ _ _)
      | (with_reducible exact ih4 _ _ _ _ _ _ _ _ _)
      | (with_reducible exact ih5 _ _ _ _)
      | (with_reducible exact ih6 _ _ _ _ _ _ _ _ _)
      | (with_reducible exact ih7 _ _ _ _ _ _ _ _ _)
      | (with_reducible exact impl_CountCodes.mono _ _ _)
      | (with_reducible exact impl_ForthCode.mono _ _ _ _)
      | (with_reducible exact impl_ForthPart.mono _ _ _ _ _)
      | (with_reducible exact impl_ForthRank.mono _ _ _ _)
      | (with_reducible exact impl_IsTurnOrder.mono _ _ _ _)
      | (with_reducible exact impl_RoundCode.mono _ _ _ _)
      | (with_reducible exact impl_RoundPart.mono _ _ _ _ _)
      | (with_reducible exact impl_RoundRank.mono _ _ _ _)
      | (with_reducible exact impl_TurnInForth.mono _ _ _ _)
      | (with_reducible exact impl_TurnInRound.mono _ _ _ _)
      | (with_reducible exact impl_TurnWheel.mono _ _ _ _ _ _)
      | (with_reducible exact impl_WheelTurns.mono _ _ _)
      | (with_reducible exact laws_aSame.mono _ _ _)
      | (with_reducible exact laws_aTexts.mono _ _ _)
      | (with_reducible exact spec_DrawForthPart.mono _ _)
      | (with_reducible exact spec_DrawForthRank.mono _ _)
      | (with_reducible exact spec_DrawRoundCode.mono _ _)
      | (with_reducible exact spec_ForthCode.mono _ _ _ _)
      | (with_reducible exact spec_ForthPart.mono _ _ _ _ _)
      | (with_reducible exact spec_ForthRank.mono _ _ _ _)
      | (with_reducible exact spec_RoundCode.mono _ _ _ _)
      | (with_reducible exact spec_RoundPart.mono _ _ _ _ _)
      | (with_reducible exact spec_RoundRank.mono _ _ _ _)
      | (with_reducible exact spec_TurnInForth.mono _ _ _ _)
      | (with_reducible exact spec_TurnInRound.mono _ _ _ _)
      | (with_reducible exact spec_WheelTurns.mono _ _ _)
      | (with_reducible exact LeO.refl _)
      | (with_reducible exact LeO.none _)
      | (with_reducible refine LeO.ite ?_ ?_)
      | (with_reducible refine LeO.bind ?_ (fun _ => ?_))
      | exact ih0 _ _ _ _ _ _ _ _ _ _ _ _ _
      | exact ih1 _
      | exact ih2 _ _ _ _ _ _ _ _ _ _ _ _ _ _ _ _ _ _
      | exact ih3 _ _ _ _ _ _ _ _ _ _ _
      | exact ih4 _ _ _ _ _ _ _ _ _
      | exact ih5 _ _ _ _
      | exact ih6 _ _ _ _ _ _ _ _ _
      | exact ih7 _ _ _ _ _ _ _ _ _
      | exact impl_CountCodes.mono _ _ _
      | exact impl_ForthCode.mono _ _ _ _
      | exact impl_ForthPart.mono _ _ _ _ _
      | exact impl_ForthRank.mono _ _ _ _
      | exact impl_IsTurnOrder.mono _ _ _ _
      | exact impl_RoundCode.mono _ _ _ _
      | exact impl_RoundPart.mono _ _ _ _ _
      | exact impl_RoundRank.mono _ _ _ _
      | exact impl_TurnInForth.mono _ _ _ _
      | exact impl_TurnInRound.mono _ _ _ _
      | exact impl_TurnWheel.mono _ _ _ _ _ _
      | exact impl_WheelTurns.mono _ _ _
      | exact laws_aSame.mono _ _ _
      | exact laws_aTexts.mono _ _ _
      | exact spec_DrawForthPart.mono _ _
      | exact spec_DrawForthRank.mono _ _
      | exact spec_DrawRoundCode.mono _ _
      | exact spec_ForthCode.mono _ _ _ _
      | exact spec_ForthPart.mono _ _ _ _ _
      | exact spec_ForthRank.mono _ _ _ _
      | exact spec_RoundCode.mono _ _ _ _
      | exact spec_RoundPart.mono _ _ _ _ _
      | exact spec_RoundRank.mono _ _ _ _
      | exact spec_TurnInForth.mono _ _ _ _
      | exact spec_TurnInRound.mono _ _ _ _
      | exact spec_WheelTurns.mono _ _ _
      | exact LeO.none _
      | refine LeO.ite ?_ ?_
      | refine LeO.bind ?_ (fun _ => ?_)
    · intro y0 y1 y2 y3 y4 y5 y6 y7 y8
      unfold laws_FnOrdersTurn.j1
      repeat' first
      | (with_reducible exact ih0 _ _ _ _ _ _ _ _ _ _ _ _ _)
      | (with_reducible exact ih1 _)
      | (with_reducible exact ih2 _ _ _ _ _ _ _ _ _ _ _ _ _ _ _ _ _ _)
      | (with_reducible exact ih3 _ _ _ _ _ _ _ _ _ _ _)
      | (with_reducible exact ih4 _ _ _ _ _ _ _ _ _)
      | (with_reducible exact ih5 _ _ _ _)
      | (with_reducible exact ih6 _ _ _ _ _ _ _ _ _)
      | (with_reducible exact ih7 _ _ _ _ _ _ _ _ _)
      | (with_reducible exact impl_CountCodes.mono _ _ _)
      | (with_reducible exact impl_ForthCode.mono _ _ _ _)
      | (with_reducible exact impl_ForthPart.mono _ _ _ _ _)
      | (with_reducible exact impl_ForthRank.mono _ _ _ _)
      | (with_reducible exact impl_IsTurnOrder.mono _ _ _ _)
      | (with_reducible exact impl_RoundCode.mono _ _ _ _)
      | (with_reducible exact impl_RoundPart.mono _ _ _ _ _)
      | (with_reducible exact impl_RoundRank.mono _ _ _ _)
      | (with_reducible exact impl_TurnInForth.mono _ _ _ _)
      | (with_reducible exact impl_TurnInRound.mono _ _ _ _)
      | (with_reducible exact impl_TurnWheel.mono _ _ _ _ _ _)
      | (with_reducible exact impl_WheelTurns.mono _ _ _)
      | (with_reducible exact laws_aSame.mono _ _ _)
      | (with_reducible exact laws_aTexts.mono _ _ _)
      | (with_reducible exact spec_DrawForthPart.mono _ _)
      | (with_reducible exact spec_DrawForthRank.mono _ _)
      | (with_reducible exact spec_DrawRoundCode.mono _ _)
      | (with_reducible exact spec_ForthCode.mono _ _ _ _)
      | (with_reducible exact spec_ForthPart.mono _ _ _ _ _)
      | (with_reducible exact spec_ForthRank.mono _ _ _ _)
      | (with_reducible exact spec_RoundCode.mono _ _ _ _)
      | (with_reducible exact spec_RoundPart.mono _ _ _ _ _)
      | (with_reducible exact spec_RoundRank.mono _ _ _ _)
      | (with_reducible exact spec_TurnInForth.mono _ _ _ _)
      | (with_reducible exact spec_TurnInRound.mono _ _ _ _)
      | (with_reducible exact spec_WheelTurns.mono _ _ _)
      | (with_reducible exact LeO.refl _)
      | (with_reducible exact LeO.none _)
      | (with_reducible refine LeO.ite ?_ ?_)
      | (with_reducible refine LeO.bind ?_ (fun _ => ?_))
      | exact ih0 _ _ _ _ _ _ _ _ _ _ _ _ _
      | exact ih1 _
      | exact ih2 _ _ _ _ _ _ _ _ _ _ _ _ _ _ _ _ _ _
      | exact ih3 _ _ _ _ _ _ _ _ _ _ _
      | exact ih4 _ _ _ _ _ _ _ _ _
      | exact ih5 _ _ _ _
      | exact ih6 _ _ _ _ _ _ _ _ _
      | exact ih7 _ _ _ _ _ _ _ _ _
      | exact impl_CountCodes.mono _ _ _
      | exact impl_ForthCode.mono _ _ _ _
      | exact impl_ForthPart.mono _ _ _ _ _
      | exact impl_ForthRank.mono _ _ _ _
      | exact impl_IsTurnOrder.mono _ _ _ _
      | exact impl_RoundCode.mono _ _ _ _
      | exact impl_RoundPart.mono _ _ _ _ _
      | exact impl_RoundRank.mono _ _ _ _
      | exact impl_TurnInForth.mono _ _ _ _
      | exact impl_TurnInRound.mono _ _ _ _
      | exact impl_TurnWheel.mono _ _ _ _ _ _
      | exact impl_WheelTurns.mono _ _ _
      | exact laws_aSame.mono _ _ _
      | exact laws_aTexts.mono _ _ _
      | exact spec_DrawForthPart.mono _ _
      | exact spec_DrawForthRank.mono _ _
      | exact spec_DrawRoundCode.mono _ _
      | exact spec_ForthCode.mono _ _ _ _
      | exact spec_ForthPart.mono _ _ _ _ _
      | exact spec_ForthRank.mono _ _ _ _
      | exact spec_RoundCode.mono _ _ _ _
      | exact spec_RoundPart.mono _ _ _ _ _
      | exact spec_RoundRank.mono _ _ _ _
      | exact spec_TurnInForth.mono _ _ _ _
      | exact spec_TurnInRound.mono _ _ _ _
      | exact spec_WheelTurns.mono _ _ _
      | exact LeO.none _
      | refine LeO.ite ?_ ?_
      | refine LeO.bind ?_ (fun _ => ?_)
theorem laws_FnOrdersTurn.mono : ∀ a0 a1 k, LeO (laws_FnOrdersTurn.f k a0 a1) (laws_FnOrdersTurn.f (k + 1) a0 a1) := by
  intro a0 a1 k
  obtain ⟨ih0, ih1, ih2, ih3, ih4, ih5, ih6, ih7⟩ := laws_FnOrdersTurn.mono_l k
  unfold laws_FnOrdersTurn.f
  repeat' first
      | (with_reducible exact ih0 _ _ _ _ _ _ _ _ _ _ _ _ _)
      | (with_reducible exact ih1 _)
      | (with_reducible exact ih2 _ _ _ _ _ _ _ _ _ _ _ _ _ _ _ _ _ _)
      | (with_reducible exact ih3 _ _ _ _ _ _ _ _ _ _ _)
      | (with_reducible exact ih4 _ _ _ _ _ _ _ _ _)
      | (with_reducible exact ih5 _ _ _ _)
      | (with_reducible exact ih6 _ _ _ _ _ _ _ _ _)
      | (with_reducible exact ih7 _ _ _ _ _ _ _ _ _)
      | (with_reducible exact impl_CountCodes.mono _ _ _)
      | (with_reducible exact impl_ForthCode.mono _ _ _ _)
      | (with_reducible exact impl_ForthPart.mono _ _ _ _ _)
      | (with_reducible exact impl_ForthRank.mono _ _ _ _)
      | (with_reducible exact impl_IsTurnOrder.mono _ _ _ _)
      | (with_reducible exact impl_RoundCode.mono _ _ _ _)
      | (with_reducible exact impl_RoundPart.mono _ _ _ _ _)
      | (with_reducible exact impl_RoundRank.mono _ _ _ _)
      | (with_reducible exact impl_TurnInForth.mono _ _ _ _)
      | (with_reducible exact impl_TurnInRound.mono _ _ _ _)
      | (with_reducible exact impl_TurnWheel.mono _ _ _ _ _ _)
      | (with_reducible exact impl_WheelTurns.mono _ _ _)
      | (with_reducible exact laws_aSame.mono _ _ _)
      | (with_reducible exact laws_aTexts.mono _ _ _)
      | (with_reducible exact spec_DrawForthPart.mono _ _)
      | (with_reducible exact spec_DrawForthRank.mono _ _)
      | (with_reducible exact spec_DrawRoundCode.mono _ _)
      | (with_reducible exact spec_ForthCode.mono _ _ _ _)
      | (with_reducible exact spec_ForthPart.mono _ _ _ _ _)
      | (with_reducible exact spec_ForthRank.mono _ _ _ _)
      | (with_reducible exact spec_RoundCode.mono _ _ _ _)
      | (with_reducible exact spec_RoundPart.mono _ _ _ _ _)
      | (with_reducible exact spec_RoundRank.mono _ _ _ _)
      | (with_reducible exact spec_TurnInForth.mono _ _ _ _)
      | (with_reducible exact spec_TurnInRound.mono _ _ _ _)
      | (with_reducible exact spec_WheelTurns.mono _ _ _)
      | (with_reducible exact LeO.refl _)
      | (with_reducible exact LeO.none _)
      | (with_reducible refine LeO.ite ?_ ?_)
      | (with_reducible refine LeO.bind ?_ (fun _ => ?_))
      | exact ih0 _ _ _ _ _ _ _ _ _ _ _ _ _
      | exact ih1 _
      | exact ih2 _ _ _ _ _ _ _ _ _ _ _ _ _ _ _ _ _ _
      | exact ih3 _ _ _ _ _ _ _ _ _ _ _
      | exact ih4 _ _ _ _ _ _ _ _ _
      | exact ih5 _ _ _ _
      | exact ih6 _ _ _ _ _ _ _ _ _
      | exact ih7 _ _ _ _ _ _ _ _ _
      | exact impl_CountCodes.mono _ _ _
      | exact impl_ForthCode.mono _ _ _ _
      | exact impl_ForthPart.mono _ _ _ _ _
      | exact impl_ForthRank.mono _ _ _ _
      | exact impl_IsTurnOrder.mono _ _ _ _
      | exact impl_RoundCode.mono _ _ _ _
      | exact impl_RoundPart.mono _ _ _ _ _
      | exact impl_RoundRank.mono _ _ _ _
      | exact impl_TurnInForth.mono _ _ _ _
      | exact impl_TurnInRound.mono _ _ _ _
      | exact impl_TurnWheel.mono _ _ _ _ _ _
      | exact impl_WheelTurns.mono _ _ _
      | exact laws_aSame.mono _ _ _
      | exact laws_aTexts.mono _ _ _
      | exact spec_DrawForthPart.mono _ _
      | exact spec_DrawForthRank.mono _ _
      | exact spec_DrawRoundCode.mono _ _
      | exact spec_ForthCode.mono _ _ _ _
      | exact spec_ForthPart.mono _ _ _ _ _
      | exact spec_ForthRank.mono _ _ _ _
      | exact spec_RoundCode.mono _ _ _ _
      | exact spec_RoundPart.mono _ _ _ _ _
      | exact spec_RoundRank.mono _ _ _ _
      | exact spec_TurnInForth.mono _ _ _ _
      | exact spec_TurnInRound.mono _ _ _ _
      | exact spec_WheelTurns.mono _ _ _
      | exact LeO.none _
      | refine LeO.ite ?_ ?_
      | refine LeO.bind ?_ (fun _ => ?_)
def laws_FnOrdersTurn.T19 : Bool × List (List Nat × List Nat) := (true, [([], []), ([], []), ([1], [1]), ([], []), ([2, 3], [2, 3]), ([0, 4], [0, 4]), ([5], [5]), ([6], [6]), ([6], [6]), ([7, 5, 0, 1, 2, 3, 4, 5, 6, 7], [7]), ([8, 9, 0, 1, 2, 3, 4, 5, 6, 7, 8, 9], [8])])
def laws_FnOrdersTurn.B19 : List Nat := [0, 0, 2, 0, 14, 31, 63, 127, 127, 255, 1023]
theorem laws_FnOrdersTurn.tab19 : rtab .any (opsOf Try.f5 19) = laws_FnOrdersTurn.T19 := by kernel_rfl
theorem laws_FnOrdersTurn.bits19 : waitsOk laws_FnOrdersTurn.T19.2 laws_FnOrdersTurn.B19 = true := by kernel_rfl
def laws_FnOrdersTurn.T64 : Bool × List (List Nat × List Nat) := (true, [([], []), ([0], [0]), ([1], [1]), ([1], [1]), ([2, 3, 1], [1, 2, 3]), ([1, 4], [1, 4]), ([5, 1], [5]), ([6], [6]), ([7, 6], [6, 7]), ([6], [6]), ([9, 6], [6, 9]), ([8, 10, 6], [6, 8, 10]), ([6, 11], [6, 11]), ([12, 6], [12]), ([13], [13]), ([14, 13], [13, 14]), ([15, 13], [13, 15]), ([13], [13]), ([17, 13], [13, 17]), ([16, 18, 13], [13, 16, 18]), ([13, 19], [13, 19]), ([20, 13, 0, 1, 2, 3, 4, 5, 6, 7, 8, 9, 10, 11, 12, 13, 14, 15, 16, 17, 18, 19, 20], [20])])
def laws_FnOrdersTurn.B64 : List Nat := [0, 1, 3, 3, 15, 31, 63, 127, 255, 127, 639, 2047, 4095, 8191, 16383, 32767, 65535, 16383, 147455, 524287, 1048575, 2097151]
theorem laws_FnOrdersTurn.tab64 : rtab .any (opsOf Try.f5 64) = laws_FnOrdersTurn.T64 := by kernel_rfl
theorem laws_FnOrdersTurn.bits64 : waitsOk laws_FnOrdersTurn.T64.2 laws_FnOrdersTurn.B64 = true := by kernel_rfl
set_option maxHeartbeats 8000000 in
set_option maxRecDepth 100000 in
theorem laws_FnOrdersTurn.calls (k : Nat) (A0 : Option Addr) (c0 : Nat) (l0 : List Int) (A1 : Option Addr) (c1 : Nat) (l1 : List Int) (r : Bool) (w : World) (hr0 : Kd.C (Kd.int .u8) w A0 l0.length l0) (hc0 : l0.length ≤ c0) (hr1 : Kd.C (Kd.int .u8) w A1 l1.length l1) (hc1 : l1.length ≤ c1) (h : laws_FnOrdersTurn.f k l0 l1 = some r) (hr_ : r = true := by rfl) :
    Calls Try.prog 5 #[.slice A0 l0.length c0, .slice A1 l1.length c1] w fun e w' => e = .returned (.bool r) ∧ Below w.heap.size w w' := by
  have HRT := Aside0.mk hr_
  clear hr_
  have hu26 := Try.underlying26
  have hu32 := Try.underlying32
  have HR0 := Aside0.mk hr0
  have HC0 := Aside0.mk hc0
  clear hr0 hc0
  have HR1 := Aside0.mk hr1
  have HC1 := Aside0.mk hc1
  clear hr1 hc1
  have HB := Aside0.mk (Below.refl w.heap.size w)
  have H : ((laws_big.f l0 l1).bind fun t685 => (if t685 = true then (some true) else ((spec_DrawRoundCode.f k l0).bind fun bt686 => ((impl_RoundCode.f k bt686.1 bt686.2.1 bt686.2.2).bind fun bt690 => ((spec_RoundCode.f k bt686.1 bt686.2.1 bt686.2.2).bind fun bt692 => ((impl_ForthCode.f k bt686.1 bt686.2.1 bt686.2.2).bind fun bt694 => ((spec_ForthCode.f k bt686.1 bt686.2.1 bt686.2.2).bind fun bt696 => ((impl_TurnInRound.f k bt686.1 bt686.2.1 bt686.2.2).bind fun bt698 => ((spec_TurnInRound.f k bt686.1 bt686.2.1 bt686.2.2).bind fun bt702 => ((impl_TurnInForth.f k bt686.1 bt686.2.1 bt686.2.2).bind fun bt706 => ((spec_TurnInForth.f k bt686.1 bt686.2.1 bt686.2.2).bind fun bt710 => (if (bt690.2 != bt692.2) = true then (laws_FnOrdersTurn.j0 k l1 bt686.2.2 bt690.1 bt690.2 bt694.1 bt706.2.2 true bt686.1 bt686.2.1 bt698.1 bt698.2.1 bt706.1 bt706.2.1) else (if bt690.1.toList = bt692.1.toList then (if (bt694.2 != bt696.2) = true then (laws_FnOrdersTurn.j0 k l1 bt686.2.2 bt690.1 bt690.2 bt694.1 bt706.2.2 true bt686.1 bt686.2.1 bt698.1 bt698.2.1 bt706.1 bt706.2.1) else (if bt694.1.toList = bt696.1.toList then (if (bt698.2.2 != bt702.2.2) = true then (laws_FnOrdersTurn.j0 k l1 bt686.2.2 bt690.1 bt690.2 bt694.1 bt706.2.2 true bt686.1 bt686.2.1 bt698.1 bt698.2.1 bt706.1 bt706.2.1) else (if (!(bt698.1 == bt702.1) || (!(bt698.2.1 == bt702.2.1))) = true then (laws_FnOrdersTurn.j0 k l1 bt686.2.2 bt690.1 bt690.2 bt694.1 bt706.2.2 true bt686.1 bt686.2.1 bt698.1 bt698.2.1 bt706.1 bt706.2.1) else (if (bt706.2.2 != bt710.2.2) = true then (laws_FnOrdersTurn.j0 k l1 bt686.2.2 bt690.1 bt690.2 bt694.1 bt706.2.2 true bt686.1 bt686.2.1 bt698.1 bt698.2.1 bt706.1 bt706.2.1) else (if (!(bt706.1 == bt710.1) || (!(bt706.2.1 == bt710.2.1))) = true then (laws_FnOrdersTurn.j0 k l1 bt686.2.2 bt690.1 bt690.2 bt694.1 bt706.2.2 true bt686.1 bt686.2.1 bt698.1 bt698.2.1 bt706.1 bt706.2.1) else (if (bt694.2 != bt690.2) = true then (laws_FnOrdersTurn.j0 k l1 bt686.2.2 bt690.1 bt690.2 bt694.1 bt706.2.2 true bt686.1 bt686.2.1 bt698.1 bt698.2.1 bt706.1 bt706.2.1) else (if (bt698.2.2 != bt690.2) = true then (laws_FnOrdersTurn.j0 k l1 bt686.2.2 bt690.1 bt690.2 bt694.1 bt706.2.2 true bt686.1 bt686.2.1 bt698.1 bt698.2.1 bt706.1 bt706.2.1) else (if bt706.2.2 = true then (laws_FnOrdersTurn.j0 k l1 bt686.2.2 bt690.1 bt690.2 bt694.1 bt706.2.2 (!bt690.2) bt686.1 bt686.2.1 bt698.1 bt698.2.1 bt706.1 bt706.2.1) else (laws_FnOrdersTurn.j0 k l1 bt686.2.2 bt690.1 bt690.2 bt694.1 bt706.2.2 false bt686.1 bt686.2.1 bt698.1 bt698.2.1 bt706.1 bt706.2.1)))))))) else (laws_FnOrdersTurn.j0 k l1 bt686.2.2 bt690.1 bt690.2 bt694.1 bt706.2.2 true bt686.1 bt686.2.1 bt698.1 bt698.2.1 bt706.1 bt706.2.1))) else (laws_FnOrdersTurn.j0 k l1 bt686.2.2 bt690.1 bt690.2 bt694.1 bt706.2.2 true bt686.1 bt686.2.1 bt698.1 bt698.2.1 bt706.1 bt706.2.1)))))))))))))) = some r := h
  clear h
  replace H := Option.bind_eq_some_iff.mp H
  obtain ⟨t685, A30, H⟩ := H
  try dsimp only at H
  have A3 := Aside0.mk A30
  clear A30
  by_cases c4 : t685 = true
  · subst c4
    rw [if_pos rfl] at H
    obtain rfl := Option.some.inj H
    go_enter Try.func5, Try.ntmps5
    go_wp2_with (first | ((with_reducible refine gate_callee (f := 30) rfl ?_); refine goesL_ (some 80) rfl rfl Try.func30 (by kernel_rfl) rfl #[.slice A0 l0.length c0, .slice A1 l1.length c1] rfl (by (try simp only [m_1, m_2, m_3]); first | done | rfl | (simp only [m_4, m_5]; rfl)) ?_; (with_reducible refine (laws_big.calls _ _ l0 _ _ l1 true _ ?side1 ?side2 ?side3 ?side4 A3.out).mono ?_); (case side1 => repeat (first | exact HR0.out | (with_reducible refine Kd.C_alloc ?_ _) | (with_reducible refine Kd.C_drewN ?_ _) | (with_reducible refine Kd.C_drew ?_))); (case side2 => exact HC0.out); (case side3 => repeat (first | exact HR1.out | (with_reducible refine Kd.C_alloc ?_ _) | (with_reducible refine Kd.C_drewN ?_ _) | (with_reducible refine Kd.C_drew ?_))); (case side4 => exact HC1.out); rintro e w' ⟨rfl, ⟨nd, rfl⟩⟩; refine ⟨_, rfl, ?_⟩))
    go_ret
    exact ⟨by first | rfl | (simp [errW_none, errW_some] <;> rfl) | (simp [*, errW_none, errW_some] <;> rfl), bB HB⟩
  replace c4 := Bool.eq_false_iff.mpr c4
  subst c4
  rw [if_neg (show ¬ (false = true) by decide)] at H
  replace H := Option.bind_eq_some_iff.mp H
  obtain ⟨⟨t686, t687, t688⟩, A50, H⟩ := H
  try dsimp only at H
  have A5 := Aside0.mk A50
  clear A50
  replace H := Option.bind_eq_some_iff.mp H
  obtain ⟨⟨t690, t691⟩, A60, H⟩ := H
  try dsimp only at H
  have A6 := Aside0.mk A60
  clear A60
  replace H := Option.bind_eq_some_iff.mp H
  obtain ⟨⟨t692, t693⟩, A70, H⟩ := H
  try dsimp only at H
  have A7 := Aside0.mk A70
  clear A70
  replace H := Option.bind_eq_some_iff.mp H
  obtain ⟨⟨t694, t695⟩, A80, H⟩ := H
  try dsimp only at H
  have A8 := Aside0.mk A80
  clear A80
  replace H := Option.bind_eq_some_iff.mp H
  obtain ⟨⟨t696, t697⟩, A90, H⟩ := H
  try dsimp only at H
  have A9 := Aside0.mk A90
  clear A90
  replace H := Option.bind_eq_some_iff.mp H
  obtain ⟨⟨t698, t699, t700⟩, A100, H⟩ := H
  try dsimp only at H
  have A10 := Aside0.mk A100
  clear A100
  replace H := Option.bind_eq_some_iff.mp H
  obtain ⟨⟨t702, t703, t704⟩, A110, H⟩ := H
  try dsimp only at H
  have A11 := Aside0.mk A110
  clear A110
  replace H := Option.bind_eq_some_iff.mp H
  obtain ⟨⟨t706, t707, t708⟩, A120, H⟩ := H
  try dsimp only at H
  have A12 := Aside0.mk A120
  clear A120
  replace H := Option.bind_eq_some_iff.mp H
  obtain ⟨⟨t710, t711, t712⟩, A130, H⟩ := H
  try dsimp only at H
  have A13 := Aside0.mk A130
  clear A130
  have HC14 := Aside0.mk H
  clear H
  go_enter Try.func5, Try.ntmps5
  go_upto_region 12 with (first | ((with_reducible refine gate_callee (f := 30) rfl ?_); refine goesL_ (some 80) rfl rfl Try.func30 (by kernel_rfl) rfl #[.slice A0 l0.length c0, .slice A1 l1.length c1] rfl (by (try simp only [m_1, m_2, m_3]); first | done | rfl | (simp only [m_4, m_5]; rfl)) ?_; (with_reducible refine (laws_big.calls _ _ l0 _ _ l1 false _ ?side1 ?side2 ?side3 ?side4 A3.out).mono ?_); (case side1 => repeat (first | exact HR0.out | (with_reducible refine Kd.C_alloc ?_ _) | (with_reducible refine Kd.C_drewN ?_ _) | (with_reducible refine Kd.C_drew ?_))); (case side2 => exact HC0.out); (case side3 => repeat (first | exact HR1.out | (with_reducible refine Kd.C_alloc ?_ _) | (with_reducible refine Kd.C_drewN ?_ _) | (with_reducible refine Kd.C_drew ?_))); (case side4 => exact HC1.out); rintro e w' ⟨rfl, ⟨nd, rfl⟩⟩; refine ⟨_, rfl, ?_⟩) | ((with_reducible refine gate_callee (f := 31) rfl ?_); refine goesL_ (some 83) rfl rfl Try.func31 (by kernel_rfl) rfl #[.slice A0 l0.length c0] rfl (by (try simp only [m_1, m_2, m_3]); first | done | rfl | (simp only [m_4, m_5]; rfl)) ?_; (with_reducible refine (spec_DrawRoundCode.calls k _ _ l0 t686 t687 t688 _ ?side1 ?side2 A5.out).mono ?_); (case side1 => repeat (first | exact HR0.out | (with_reducible refine Kd.C_alloc ?_ _) | (with_reducible refine Kd.C_drewN ?_ _) | (with_reducible refine Kd.C_drew ?_))); (case side2 => exact HC0.out); rintro e w15 ⟨rfl, hb⟩; refine ⟨_, rfl, ?_⟩; replace HB := bsx hb HB; skip; (try clear hb); (try clear hb2); (try clear hk); (try clear hi)) | ((with_reducible refine gate_dst (N := 5) rfl ?_); (try (refine gate_guard (by rfl) ?_; dsimp only)); refine box_event ?hg (N := 5) ?hd (cs := #[.int .i64 0, .int .i64 0]) (t := 26) ?hr ?_; (case hd => rfl); (case hg => rfl); (case hr => first | (go_simp; done) | (go_simp; rfl)); intro gb689 hg w16 hbox hb; have n0_ := bsx hb HB; have n1_ := Aside0.mk (hbox); have n2_ := gwx hg HB; have n3_ := n2_; clear HB; have HB := n0_; have BK689 := n1_; have GW689 := n2_; have GE689 := n3_; clear n0_ n1_ n2_ n3_; clear hb hbox hg; have hcz17_0 := cz0 BK689; have hcz17_1 := cz1 BK689; have hfz17_0 := blk_frozen BK689.out 0; have hfz17_1 := blk_frozen BK689.out 1) | ((with_reducible refine gate_callee (f := 9) rfl ?_); refine goesL_ (some 89) rfl rfl Try.func9 (by kernel_rfl) rfl #[.agg #[.int .i64 t686, .int .i64 t687], .int .i64 t688] rfl (by (try simp only [m_1, m_2, m_3]); first | done | rfl | (simp only [m_4, m_5]; rfl)) ?_; (with_reducible refine (impl_RoundCode.calls k t686 t687 t688 t690 t691 _ A6.out).mono ?_); rintro e w18 ⟨rfl, hb⟩; refine ⟨_, rfl, ?_⟩; have n0_ := Aside0.mk (blk_below (g := gb689) (o := .cells #[.int .i64 t686, .int .i64 t687] 26 (0, 0)) (by (with_reducible repeat (first | refine g_d ?_ _ | refine g_e ?_ | refine g_a ?_ _)); refine blk_put (cs := #[.int .i64 t686, .int .i64 0]) ?_ 1 _ rfl; (with_reducible repeat (first | refine g_d ?_ _ | refine g_e ?_ | refine g_a ?_ _)); refine blk_put (cs := #[.int .i64 0, .int .i64 0]) ?_ 0 _ rfl; (with_reducible repeat (first | refine g_d ?_ _ | refine g_e ?_ | refine g_a ?_ _)); exact BK689.out) hb); replace HB := bsx hb HB; clear BK689; have BK689 := n0_; clear n0_; (try clear hb); (try clear hb2); (try clear hk); (try clear hi); have hcz19_0 := cz0 BK689; have hcz19_1 := cz1 BK689; have hfz19_0 := blk_frozen BK689.out 0; have hfz19_1 := blk_frozen BK689.out 1) | ((with_reducible refine gate_callee (f := 10) rfl ?_); refine goesL_ (some 95) rfl rfl Try.func10 (by kernel_rfl) rfl #[.agg #[.int .i64 t686, .int .i64 t687], .int .i64 t688] rfl (by (try simp only [m_1, m_2, m_3]); first | done | rfl | (simp only [m_4, m_5]; rfl)) ?_; (with_reducible refine (spec_RoundCode.calls k t686 t687 t688 t692 t693 _ A7.out).mono ?_); rintro e w20 ⟨rfl, hb⟩; refine ⟨_, rfl, ?_⟩; replace BK689 := bbx hb BK689; replace HB := bsx hb HB; skip; (try clear hb); (try clear hb2); (try clear hk); (try clear hi); have hcz21_0 := cz0 BK689; have hcz21_1 := cz1 BK689; have hfz21_0 := blk_frozen BK689.out 0; have hfz21_1 := blk_frozen BK689.out 1) | ((with_reducible refine gate_callee (f := 11) rfl ?_); refine goesL_ (some 101) rfl rfl Try.func11 (by kernel_rfl) rfl #[.agg #[.int .i64 t686, .int .i64 t687], .int .i64 t688] rfl (by (try simp only [m_1, m_2, m_3]); first | done | rfl | (simp only [m_4, m_5]; rfl)) ?_; (with_reducible refine (impl_ForthCode.calls k t686 t687 t688 t694 t695 _ A8.out).mono ?_); rintro e w22 ⟨rfl, hb⟩; refine ⟨_, rfl, ?_⟩; replace BK689 := bbx hb BK689; replace HB := bsx hb HB; skip; (try clear hb); (try clear hb2); (try clear hk); (try clear hi); have hcz23_0 := cz0 BK689; have hcz23_1 := cz1 BK689; have hfz23_0 := blk_frozen BK689.out 0; have hfz23_1 := blk_frozen BK689.out 1) | ((with_reducible refine gate_callee (f := 12) rfl ?_); refine goesL_ (some 107) rfl rfl Try.func12 (by kernel_rfl) rfl #[.agg #[.int .i64 t686, .int .i64 t687], .int .i64 t688] rfl (by (try simp only [m_1, m_2, m_3]); first | done | rfl | (simp only [m_4, m_5]; rfl)) ?_; (with_reducible refine (spec_ForthCode.calls k t686 t687 t688 t696 t697 _ A9.out).mono ?_); rintro e w24 ⟨rfl, hb⟩; refine ⟨_, rfl, ?_⟩; replace BK689 := bbx hb BK689; replace HB := bsx hb HB; skip; (try clear hb); (try clear hb2); (try clear hk); (try clear hi); have hcz25_0 := cz0 BK689; have hcz25_1 := cz1 BK689; have hfz25_0 := blk_frozen BK689.out 0; have hfz25_1 := blk_frozen BK689.out 1) | ((with_reducible refine gate_callee (f := 13) rfl ?_); refine goesL_ (some 113) rfl rfl Try.func13 (by kernel_rfl) rfl #[.agg #[.int .i64 t686, .int .i64 t687], .int .i64 t688] rfl (by (try simp only [m_1, m_2, m_3]); first | done | rfl | (simp only [m_4, m_5]; rfl)) ?_; (with_reducible refine (impl_TurnInRound.calls k t686 t687 t688 t698 t699 t700 _ A10.out).mono ?_); rintro e w26 ⟨rfl, hb⟩; refine ⟨_, rfl, ?_⟩; replace BK689 := bbx hb BK689; replace HB := bsx hb HB; skip; (try clear hb); (try clear hb2); (try clear hk); (try clear hi)) | ((with_reducible refine gate_dst (N := 15) rfl ?_); (try (refine gate_guard (by rfl) ?_; dsimp only)); refine box_event ?hg (N := 15) ?hd (cs := #[.int .i64 0, .int .i64 0]) (t := 32) ?hr ?_; (case hd => rfl); (case hg => rfl); (case hr => first | (go_simp; done) | (go_simp; rfl)); intro gb701 hg w27 hbox hb; have n0_ := bbx hb BK689; have n1_ := bsx hb HB; have n2_ := Aside0.mk (hbox); have n3_ := gwx hg HB; have n4_ := gwx hg HB; have n5_ := nlx hg BK689; have n6_ := ngx hg BK689; clear BK689; clear HB; have BK689 := n0_; have HB := n1_; have BK701 := n2_; have GW701 := n3_; have GE701 := n4_; have NB689_701 := n5_; have NB701_689 := n6_; clear n0_ n1_ n2_ n3_ n4_ n5_ n6_; clear hb hbox hg; have hnb28 := eq_false NB701_689.out; have hnc28 := eq_false NB689_701.out; have hcz29_0 := cz0 BK701; have hcz29_1 := cz1 BK701; have hfz29_0 := blk_frozen BK701.out 0; have hfz29_1 := blk_frozen BK701.out 1; have hcz30_0 := cz0 BK689; have hcz30_1 := cz1 BK689; have hfz30_0 := blk_frozen BK689.out 0; have hfz30_1 := blk_frozen BK689.out 1) | ((with_reducible refine gate_callee (f := 14) rfl ?_); refine goesL_ (some 119) rfl rfl Try.func14 (by kernel_rfl) rfl #[.agg #[.int .i64 t686, .int .i64 t687], .int .i64 t688] rfl (by (try simp only [m_1, m_2, m_3]); first | done | rfl | (simp only [m_4, m_5]; rfl)) ?_; (with_reducible refine (spec_TurnInRound.calls k t686 t687 t688 t702 t703 t704 _ A11.out).mono ?_); rintro e w31 ⟨rfl, hb⟩; refine ⟨_, rfl, ?_⟩; have n0_ := Aside0.mk (blk_below (g := gb689) (o := .cells #[.int .i64 t686, .int .i64 t687] 26 (0, 0)) (bF) hb); have n1_ := Aside0.mk (blk_below (g := gb701) (o := .cells #[.int .i64 t698, .int .i64 t699] 32 (0, 0)) (by (with_reducible repeat (first | refine g_d ?_ _ | refine g_e ?_ | refine g_a ?_ _)); refine blk_put (cs := #[.int .i64 t698, .int .i64 0]) ?_ 1 _ rfl; (with_reducible repeat (first | refine g_d ?_ _ | refine g_e ?_ | refine g_a ?_ _)); refine blk_put (cs := #[.int .i64 0, .int .i64 0]) ?_ 0 _ rfl; (with_reducible repeat (first | refine g_d ?_ _ | refine g_e ?_ | refine g_a ?_ _)); exact BK701.out) hb); replace HB := bsx hb HB; clear BK689; clear BK701; have BK689 := n0_; have BK701 := n1_; clear n0_ n1_; (try clear hb); (try clear hb2); (try clear hk); (try clear hi)) | ((with_reducible refine gate_dst (N := 17) rfl ?_); (try (refine gate_guard (by rfl) ?_; dsimp only)); refine box_event ?hg (N := 17) ?hd (cs := #[.int .i64 0, .int .i64 0]) (t := 32) ?hr ?_; (case hd => rfl); (case hg => rfl); (case hr => first | (go_simp; done) | (go_simp; rfl)); intro gb705 hg w32 hbox hb; have n0_ := bbx hb BK689; have n1_ := bbx hb BK701; have n2_ := bsx hb HB; have n3_ := Aside0.mk (hbox); have n4_ := gwx hg HB; have n5_ := gwx hg HB; have n6_ := nlx hg BK689; have n7_ := ngx hg BK689; have n8_ := nlx hg BK701; have n9_ := ngx hg BK701; clear BK689; clear BK701; clear HB; have BK689 := n0_; have BK701 := n1_; have HB := n2_; have BK705 := n3_; have GW705 := n4_; have GE705 := n5_; have NB689_705 := n6_; have NB705_689 := n7_; have NB701_705 := n8_; have NB705_701 := n9_; clear n0_ n1_ n2_ n3_ n4_ n5_ n6_ n7_ n8_ n9_; clear hb hbox hg; have hnb33 := eq_false NB705_689.out; have hnc33 := eq_false NB689_705.out; have hnb34 := eq_false NB705_701.out; have hnc34 := eq_false NB701_705.out; have hcz35_0 := cz0 BK705; have hcz35_1 := cz1 BK705; have hfz35_0 := blk_frozen BK705.out 0; have hfz35_1 := blk_frozen BK705.out 1; have hcz36_0 := cz0 BK689; have hcz36_1 := cz1 BK689; have hfz36_0 := blk_frozen BK689.out 0; have hfz36_1 := blk_frozen BK689.out 1) | ((with_reducible refine gate_callee (f := 15) rfl ?_); refine goesL_ (some 125) rfl rfl Try.func15 (by kernel_rfl) rfl #[.agg #[.int .i64 t686, .int .i64 t687], .int .i64 t688] rfl (by (try simp only [m_1, m_2, m_3]); first | done | rfl | (simp only [m_4, m_5]; rfl)) ?_; (with_reducible refine (impl_TurnInForth.calls k t686 t687 t688 t706 t707 t708 _ A12.out).mono ?_); rintro e w37 ⟨rfl, hb⟩; refine ⟨_, rfl, ?_⟩; have n0_ := Aside0.mk (blk_below (g := gb689) (o := .cells #[.int .i64 t686, .int .i64 t687] 26 (0, 0)) (bF) hb); have n1_ := Aside0.mk (blk_below (g := gb701) (o := .cells #[.int .i64 t698, .int .i64 t699] 32 (0, 0)) (bF) hb); have n2_ := Aside0.mk (blk_below (g := gb705) (o := .cells #[.int .i64 t702, .int .i64 t703] 32 (0, 0)) (by (with_reducible repeat (first | refine g_d ?_ _ | refine g_e ?_ | refine g_a ?_ _)); refine blk_put (cs := #[.int .i64 t702, .int .i64 0]) ?_ 1 _ rfl; (with_reducible repeat (first | refine g_d ?_ _ | refine g_e ?_ | refine g_a ?_ _)); refine blk_put (cs := #[.int .i64 0, .int .i64 0]) ?_ 0 _ rfl; (with_reducible repeat (first | refine g_d ?_ _ | refine g_e ?_ | refine g_a ?_ _)); exact BK705.out) hb); replace HB := bsx hb HB; clear BK689; clear BK701; clear BK705; have BK689 := n0_; have BK701 := n1_; have BK705 := n2_; clear n0_ n1_ n2_; (try clear hb); (try clear hb2); (try clear hk); (try clear hi)) | ((with_reducible refine gate_dst (N := 19) rfl ?_); (try (refine gate_guard (by rfl) ?_; dsimp only)); refine box_event ?hg (N := 19) ?hd (cs := #[.int .i64 0, .int .i64 0]) (t := 32) ?hr ?_; (case hd => rfl); (case hg => rfl); (case hr => first | (go_simp; done) | (go_simp; rfl)); intro gb709 hg w38 hbox hb; have n0_ := bbx hb BK689; have n1_ := bbx hb BK701; have n2_ := bbx hb BK705; have n3_ := bsx hb HB; have n4_ := Aside0.mk (hbox); have n5_ := gwx hg HB; have n6_ := gwx hg HB; have n7_ := nlx hg BK689; have n8_ := ngx hg BK689; have n9_ := nlx hg BK701; have n10_ := ngx hg BK701; have n11_ := nlx hg BK705; have n12_ := ngx hg BK705; clear BK689; clear BK701; clear BK705; clear HB; have BK689 := n0_; have BK701 := n1_; have BK705 := n2_; have HB := n3_; have BK709 := n4_; have GW709 := n5_; have GE709 := n6_; have NB689_709 := n7_; have NB709_689 := n8_; have NB701_709 := n9_; have NB709_701 := n10_; have NB705_709 := n11_; have NB709_705 := n12_; clear n0_ n1_ n2_ n3_ n4_ n5_ n6_ n7_ n8_ n9_ n10_ n11_ n12_; clear hb hbox hg; have hnb39 := eq_false NB709_689.out; have hnc39 := eq_false NB689_709.out; have hnb40 := eq_false NB709_701.out; have hnc40 := eq_false NB701_709.out; have hnb41 := eq_false NB709_705.out; have hnc41 := eq_false NB705_709.out; have hcz42_0 := cz0 BK709; have hcz42_1 := cz1 BK709; have hfz42_0 := blk_frozen BK709.out 0; have hfz42_1 := blk_frozen BK709.out 1; have hcz43_0 := cz0 BK689; have hcz43_1 := cz1 BK689; have hfz43_0 := blk_frozen BK689.out 0; have hfz43_1 := blk_frozen BK689.out 1) | ((with_reducible refine gate_callee (f := 16) rfl ?_); refine goesL_ (some 131) rfl rfl Try.func16 (by kernel_rfl) rfl #[.agg #[.int .i64 t686, .int .i64 t687], .int .i64 t688] rfl (by (try simp only [m_1, m_2, m_3]); first | done | rfl | (simp only [m_4, m_5]; rfl)) ?_; (with_reducible refine (spec_TurnInForth.calls k t686 t687 t688 t710 t711 t712 _ A13.out).mono ?_); rintro e w44 ⟨rfl, hb⟩; refine ⟨_, rfl, ?_⟩; have n0_ := Aside0.mk (blk_below (g := gb689) (o := .cells #[.int .i64 t686, .int .i64 t687] 26 (0, 0)) (bF) hb); have n1_ := Aside0.mk (blk_below (g := gb701) (o := .cells #[.int .i64 t698, .int .i64 t699] 32 (0, 0)) (bF) hb); have n2_ := Aside0.mk (blk_below (g := gb705) (o := .cells #[.int .i64 t702, .int .i64 t703] 32 (0, 0)) (bF) hb); have n3_ := Aside0.mk (blk_below (g := gb709) (o := .cells #[.int .i64 t706, .int .i64 t707] 32 (0, 0)) (by (with_reducible repeat (first | refine g_d ?_ _ | refine g_e ?_ | refine g_a ?_ _)); refine blk_put (cs := #[.int .i64 t706, .int .i64 0]) ?_ 1 _ rfl; (with_reducible repeat (first | refine g_d ?_ _ | refine g_e ?_ | refine g_a ?_ _)); refine blk_put (cs := #[.int .i64 0, .int .i64 0]) ?_ 0 _ rfl; (with_reducible repeat (first | refine g_d ?_ _ | refine g_e ?_ | refine g_a ?_ _)); exact BK709.out) hb); replace HB := bsx hb HB; clear BK689; clear BK701; clear BK705; clear BK709; have BK689 := n0_; have BK701 := n1_; have BK705 := n2_; have BK709 := n3_; clear n0_ n1_ n2_ n3_; (try clear hb); (try clear hb2); (try clear hk); (try clear hi)) | ((with_reducible refine gate_dst (N := 21) rfl ?_); (try (refine gate_guard (by rfl) ?_; dsimp only)); refine box_event ?hg (N := 21) ?hd (cs := #[.int .i64 0, .int .i64 0]) (t := 32) ?hr ?_; (case hd => rfl); (case hg => rfl); (case hr => first | (go_simp; done) | (go_simp; rfl)); intro gb713 hg w45 hbox hb; have n0_ := bbx hb BK689; have n1_ := bbx hb BK701; have n2_ := bbx hb BK705; have n3_ := bbx hb BK709; have n4_ := bsx hb HB; have n5_ := Aside0.mk (hbox); have n6_ := gwx hg HB; have n7_ := gwx hg HB; have n8_ := nlx hg BK689; have n9_ := ngx hg BK689; have n10_ := nlx hg BK701; have n11_ := ngx hg BK701; have n12_ := nlx hg BK705; have n13_ := ngx hg BK705; have n14_ := nlx hg BK709; have n15_ := ngx hg BK709; clear BK689; clear BK701; clear BK705; clear BK709; clear HB; have BK689 := n0_; have BK701 := n1_; have BK705 := n2_; have BK709 := n3_; have HB := n4_; have BK713 := n5_; have GW713 := n6_; have GE713 := n7_; have NB689_713 := n8_; have NB713_689 := n9_; have NB701_713 := n10_; have NB713_701 := n11_; have NB705_713 := n12_; have NB713_705 := n13_; have NB709_713 := n14_; have NB713_709 := n15_; clear n0_ n1_ n2_ n3_ n4_ n5_ n6_ n7_ n8_ n9_ n10_ n11_ n12_ n13_ n14_ n15_; clear hb hbox hg; have hnb46 := eq_false NB713_689.out; have hnc46 := eq_false NB689_713.out; have hnb47 := eq_false NB713_701.out; have hnc47 := eq_false NB701_713.out; have hnb48 := eq_false NB713_705.out; have hnc48 := eq_false NB705_713.out; have hnb49 := eq_false NB713_709.out; have hnc49 := eq_false NB709_713.out; have hcz50_0 := cz0 BK713; have hcz50_1 := cz1 BK713; have hfz50_0 := blk_frozen BK713.out 0; have hfz50_1 := blk_frozen BK713.out 1))
  (try simp only [Act.put, s_1, s_2, s_3])
  go_cut [188] from 1 to 0 (fun v188 wc => ∃ (kq : Nat) (x188_13 : Bool), v188 = .bool x188_13 ∧ Aside0 (laws_FnOrdersTurn.j0 kq l1 t688 t690 t691 t694 t708 x188_13 t686 t687 t698 t699 t706 t707 = some r) ∧ Aside0 (kq ≤ k) ∧ Aside0 (wc.heap[gb689]? = some (.cells #[.int .i64 t686, .int .i64 t687] 26 (0, 0))) ∧ Aside0 (wc.heap[gb701]? = some (.cells #[.int .i64 t698, .int .i64 t699] 32 (0, 0))) ∧ Aside0 (wc.heap[gb705]? = some (.cells #[.int .i64 t702, .int .i64 t703] 32 (0, 0))) ∧ Aside0 (wc.heap[gb709]? = some (.cells #[.int .i64 t706, .int .i64 t707] 32 (0, 0))) ∧ Aside0 (wc.heap[gb713]? = some (.cells #[.int .i64 t710, .int .i64 t711] 32 (0, 0))) ∧ Aside0 (Below w.heap.size w wc))
  case first => as_aux_lemma =>
    have H := HC14.out
    clear HC14
    by_cases c51 : (t691 != t693) = true
    · rw [if_pos c51] at H
      have c51b0 : (t691 != t693) = true := c51
      (try (have c51b1 : decide (t691 = t693) = false := by simpa using c51))
      (try (have c51b2 : (t691 == t693) = false := by simpa using c51))
      (try (have c51b3 : ¬ (t691 = t693) := by simpa using c51))
      clear c51
      (first | rw [c51b0] | (simp only [i64_w, i32_w]; rw [c51b0]) | skip)
      rw [HRT.out] at H
      exact absurd H (by generalize k = q_; cases q_ <;> simp [laws_FnOrdersTurn.j0])
    rw [if_neg c51] at H
    have c51b0 : (t691 != t693) = false := by simpa using c51
    (try (have c51b1 : decide (t691 = t693) = true := by simpa using c51))
    (try (have c51b2 : (t691 == t693) = true := by simpa using c51))
    clear c51
    (first | rw [c51b0] | (simp only [i64_w, i32_w]; rw [c51b0]) | skip)
    by_cases c52 : t690.toList = t692.toList
    rotate_left
    · rw [if_neg c52] at H
      have c52b0 : (t690.toList == t692.toList) = false := beq_eq_false_iff_ne.mpr c52
      have c52b1 : (t690.toList != t692.toList) = true := bne_iff_ne.mpr c52
      rw [HRT.out] at H
      exact absurd H (by generalize k = q_; cases q_ <;> simp [laws_FnOrdersTurn.j0])
    rw [if_pos c52] at H
    have c52b0 : (t690.toList == t692.toList) = true := beq_iff_eq.mpr c52
    have c52b1 : (t690.toList != t692.toList) = false := bne_eq_false_iff_eq.mpr c52
    clear c52
    by_cases c53 : (t695 != t697) = true
    · rw [if_pos c53] at H
      have c53b0 : (t695 != t697) = true := c53
      (try (have c53b1 : decide (t695 = t697) = false := by simpa using c53))
      (try (have c53b2 : (t695 == t697) = false := by simpa using c53))
      (try (have c53b3 : ¬ (t695 = t697) := by simpa using c53))
      clear c53
      rw [HRT.out] at H
      exact absurd H (by generalize k = q_; cases q_ <;> simp [laws_FnOrdersTurn.j0])
    rw [if_neg c53] at H
    have c53b0 : (t695 != t697) = false := by simpa using c53
    (try (have c53b1 : decide (t695 = t697) = true := by simpa using c53))
    (try (have c53b2 : (t695 == t697) = true := by simpa using c53))
    clear c53
    by_cases c54 : t694.toList = t696.toList
    rotate_left
    · rw [if_neg c54] at H
      have c54b0 : (t694.toList == t696.toList) = false := beq_eq_false_iff_ne.mpr c54
      have c54b1 : (t694.toList != t696.toList) = true := bne_iff_ne.mpr c54
      rw [HRT.out] at H
      exact absurd H (by generalize k = q_; cases q_ <;> simp [laws_FnOrdersTurn.j0])
    rw [if_pos c54] at H
    have c54b0 : (t694.toList == t696.toList) = true := beq_iff_eq.mpr c54
    have c54b1 : (t694.toList != t696.toList) = false := bne_eq_false_iff_eq.mpr c54
    clear c54
    by_cases c55 : (t700 != t704) = true
    · rw [if_pos c55] at H
      have c55b0 : (t700 != t704) = true := c55
      (try (have c55b1 : decide (t700 = t704) = false := by simpa using c55))
      (try (have c55b2 : (t700 == t704) = false := by simpa using c55))
      (try (have c55b3 : ¬ (t700 = t704) := by simpa using c55))
      clear c55
      rw [HRT.out] at H
      exact absurd H (by generalize k = q_; cases q_ <;> simp [laws_FnOrdersTurn.j0])
    rw [if_neg c55] at H
    have c55b0 : (t700 != t704) = false := by simpa using c55
    (try (have c55b1 : decide (t700 = t704) = true := by simpa using c55))
    (try (have c55b2 : (t700 == t704) = true := by simpa using c55))
    clear c55
    by_cases c56 : (!(t698 == t702) || (!(t699 == t703))) = true
    · rw [if_pos c56] at H
      have c56b0 : (!(t698 == t702) || (!(t699 == t703))) = true := c56
      clear c56
      rw [HRT.out] at H
      exact absurd H (by generalize k = q_; cases q_ <;> simp [laws_FnOrdersTurn.j0])
    rw [if_neg c56] at H
    have c56b0 : (!(t698 == t702) || (!(t699 == t703))) = false := by simpa using c56
    clear c56
    by_cases c57 : (t708 != t712) = true
    · rw [if_pos c57] at H
      have c57b0 : (t708 != t712) = true := c57
      (try (have c57b1 : decide (t708 = t712) = false := by simpa using c57))
      (try (have c57b2 : (t708 == t712) = false := by simpa using c57))
      (try (have c57b3 : ¬ (t708 = t712) := by simpa using c57))
      clear c57
      rw [HRT.out] at H
      exact absurd H (by generalize k = q_; cases q_ <;> simp [laws_FnOrdersTurn.j0])
    rw [if_neg c57] at H
    have c57b0 : (t708 != t712) = false := by simpa using c57
    (try (have c57b1 : decide (t708 = t712) = true := by simpa using c57))
    (try (have c57b2 : (t708 == t712) = true := by simpa using c57))
    clear c57
    by_cases c58 : (!(t706 == t710) || (!(t707 == t711))) = true
    · rw [if_pos c58] at H
      have c58b0 : (!(t706 == t710) || (!(t707 == t711))) = true := c58
      clear c58
      rw [HRT.out] at H
      exact absurd H (by generalize k = q_; cases q_ <;> simp [laws_FnOrdersTurn.j0])
    rw [if_neg c58] at H
    have c58b0 : (!(t706 == t710) || (!(t707 == t711))) = false := by simpa using c58
    clear c58
    by_cases c59 : (t695 != t691) = true
    · rw [if_pos c59] at H
      have c59b0 : (t695 != t691) = true := c59
      (try (have c59b1 : decide (t695 = t691) = false := by simpa using c59))
      (try (have c59b2 : (t695 == t691) = false := by simpa using c59))
      (try (have c59b3 : ¬ (t695 = t691) := by simpa using c59))
      clear c59
      rw [HRT.out] at H
      exact absurd H (by generalize k = q_; cases q_ <;> simp [laws_FnOrdersTurn.j0])
    rw [if_neg c59] at H
    have c59b0 : (t695 != t691) = false := by simpa using c59
    (try (have c59b1 : decide (t695 = t691) = true := by simpa using c59))
    (try (have c59b2 : (t695 == t691) = true := by simpa using c59))
    clear c59
    by_cases c60 : (t700 != t691) = true
    · rw [if_pos c60] at H
      have c60b0 : (t700 != t691) = true := c60
      (try (have c60b1 : decide (t700 = t691) = false := by simpa using c60))
      (try (have c60b2 : (t700 == t691) = false := by simpa using c60))
      (try (have c60b3 : ¬ (t700 = t691) := by simpa using c60))
      clear c60
      rw [HRT.out] at H
      exact absurd H (by generalize k = q_; cases q_ <;> simp [laws_FnOrdersTurn.j0])
    rw [if_neg c60] at H
    have c60b0 : (t700 != t691) = false := by simpa using c60
    (try (have c60b1 : decide (t700 = t691) = true := by simpa using c60))
    (try (have c60b2 : (t700 == t691) = true := by simpa using c60))
    clear c60
    by_cases c61 : t708 = true
    · subst c61
      rw [if_pos rfl] at H
      have H' := Aside0.mk H
      clear H
      have hnb62 := eq_false NB701_689.out
      have hnc62 := eq_false NB689_701.out
      have hnb63 := eq_false NB701_705.out
      have hnc63 := eq_false NB705_701.out
      have hnb64 := eq_false NB701_709.out
      have hnc64 := eq_false NB709_701.out
      have hnb65 := eq_false NB701_713.out
      have hnc65 := eq_false NB713_701.out
      have hcz66_0 := cz0 BK701
      have hcz66_1 := cz1 BK701
      have hfz66_0 := blk_frozen BK701.out 0
      have hfz66_1 := blk_frozen BK701.out 1
      have hnb67 := eq_false NB705_689.out
      have hnc67 := eq_false NB689_705.out
      have hnb68 := eq_false NB705_709.out
      have hnc68 := eq_false NB709_705.out
      have hnb69 := eq_false NB705_713.out
      have hnc69 := eq_false NB713_705.out
      have hcz70_0 := cz0 BK705
      have hcz70_1 := cz1 BK705
      have hfz70_0 := blk_frozen BK705.out 0
      have hfz70_1 := blk_frozen BK705.out 1
      have hnb71 := eq_false NB709_689.out
      have hnc71 := eq_false NB689_709.out
      have hnb72 := eq_false NB709_713.out
      have hnc72 := eq_false NB713_709.out
      have hcz73_0 := cz0 BK709
      have hcz73_1 := cz1 BK709
      have hfz73_0 := blk_frozen BK709.out 0
      have hfz73_1 := blk_frozen BK709.out 1
      have hnb74 := eq_false NB713_689.out
      have hnc74 := eq_false NB689_713.out
      have hcz75_0 := cz0 BK713
      have hcz75_1 := cz1 BK713
      have hfz75_0 := blk_frozen BK713.out 0
      have hfz75_1 := blk_frozen BK713.out 1
      go_wp2
      go_meet
      case rel => exact ⟨_, (!t691), (by first | rfl | (simp; done) | (simp [*]; done)), H', ⟨by first | omega | exact Nat.le_refl _⟩, ⟨bF⟩, ⟨bF⟩, ⟨bF⟩, ⟨bF⟩, ⟨by (with_reducible repeat (first | refine g_d ?_ _ | refine g_e ?_ | refine g_a ?_ _)); refine blk_put (cs := #[.int .i64 t710, .int .i64 0]) ?_ 1 _ rfl; (with_reducible repeat (first | refine g_d ?_ _ | refine g_e ?_ | refine g_a ?_ _)); refine blk_put (cs := #[.int .i64 0, .int .i64 0]) ?_ 0 _ rfl; (with_reducible repeat (first | refine g_d ?_ _ | refine g_e ?_ | refine g_a ?_ _)); exact BK713.out⟩, ⟨bB HB⟩⟩
    replace c61 := Bool.eq_false_iff.mpr c61
    subst c61
    rw [if_neg (show ¬ (false = true) by decide)] at H
    have H' := Aside0.mk H
    clear H
    have hnb76 := eq_false NB701_689.out
    have hnc76 := eq_false NB689_701.out
    have hnb77 := eq_false NB701_705.out
    have hnc77 := eq_false NB705_701.out
    have hnb78 := eq_false NB701_709.out
    have hnc78 := eq_false NB709_701.out
    have hnb79 := eq_false NB701_713.out
    have hnc79 := eq_false NB713_701.out
    have hcz80_0 := cz0 BK701
    have hcz80_1 := cz1 BK701
    have hfz80_0 := blk_frozen BK701.out 0
    have hfz80_1 := blk_frozen BK701.out 1
    have hnb81 := eq_false NB705_689.out
    have hnc81 := eq_false NB689_705.out
    have hnb82 := eq_false NB705_709.out
    have hnc82 := eq_false NB709_705.out
    have hnb83 := eq_false NB705_713.out
    have hnc83 := eq_false NB713_705.out
    have hcz84_0 := cz0 BK705
    have hcz84_1 := cz1 BK705
    have hfz84_0 := blk_frozen BK705.out 0
    have hfz84_1 := blk_frozen BK705.out 1
    have hnb85 := eq_false NB709_689.out
    have hnc85 := eq_false NB689_709.out
    have hnb86 := eq_false NB709_713.out
    have hnc86 := eq_false NB713_709.out
    have hcz87_0 := cz0 BK709
    have hcz87_1 := cz1 BK709
    have hfz87_0 := blk_frozen BK709.out 0
    have hfz87_1 := blk_frozen BK709.out 1
    have hnb88 := eq_false NB713_689.out
    have hnc88 := eq_false NB689_713.out
    have hcz89_0 := cz0 BK713
    have hcz89_1 := cz1 BK713
    have hfz89_0 := blk_frozen BK713.out 0
    have hfz89_1 := blk_frozen BK713.out 1
    go_wp2
    go_meet
    case rel => exact ⟨_, (false), (by first | rfl | (simp; done) | (simp [*]; done)), H', ⟨by first | omega | exact Nat.le_refl _⟩, ⟨bF⟩, ⟨bF⟩, ⟨bF⟩, ⟨bF⟩, ⟨by (with_reducible repeat (first | refine g_d ?_ _ | refine g_e ?_ | refine g_a ?_ _)); refine blk_put (cs := #[.int .i64 t710, .int .i64 0]) ?_ 1 _ rfl; (with_reducible repeat (first | refine g_d ?_ _ | refine g_e ?_ | refine g_a ?_ _)); refine blk_put (cs := #[.int .i64 0, .int .i64 0]) ?_ 0 _ rfl; (with_reducible repeat (first | refine g_d ?_ _ | refine g_e ?_ | refine g_a ?_ _)); exact BK713.out⟩, ⟨bB HB⟩⟩
  clear HC14
  try clear c1
  try clear c4
  try clear hcz17_0
  try clear hcz17_1
  try clear hcz19_0
  try clear hcz19_1
  try clear hcz21_0
  try clear hcz21_1
  try clear hcz23_0
  try clear hcz23_1
  try clear hcz25_0
  try clear hcz25_1
  try clear hcz29_0
  try clear hcz29_1
  try clear hcz30_0
  try clear hcz30_1
  try clear hcz35_0
  try clear hcz35_1
  try clear hcz36_0
  try clear hcz36_1
  try clear hcz42_0
  try clear hcz42_1
  try clear hcz43_0
  try clear hcz43_1
  try clear hcz50_0
  try clear hcz50_1
  try clear hfz17_0
  try clear hfz17_1
  try clear hfz19_0
  try clear hfz19_1
  try clear hfz21_0
  try clear hfz21_1
  try clear hfz23_0
  try clear hfz23_1
  try clear hfz25_0
  try clear hfz25_1
  try clear hfz29_0
  try clear hfz29_1
  try clear hfz30_0
  try clear hfz30_1
  try clear hfz35_0
  try clear hfz35_1
  try clear hfz36_0
  try clear hfz36_1
  try clear hfz42_0
  try clear hfz42_1
  try clear hfz43_0
  try clear hfz43_1
  try clear hfz50_0
  try clear hfz50_1
  obtain ⟨kq, x188_13, rfl, HA, HJ13, BK689, BK701, BK705, BK709, BK713, HB⟩ := hcut
  rcases kq with _ | kj13
  · exact absurd HA.out (by simp [laws_FnOrdersTurn.j0])
  have H := HA.out
  clear HA
  simp only [laws_FnOrdersTurn.j0] at H
  by_cases c90 : x188_13 = true
  · subst c90
    rw [if_pos rfl] at H
    rw [HRT.out] at H
    exact absurd H (by simp)
  replace c90 := Bool.eq_false_iff.mpr c90
  subst c90
  rw [if_neg (show ¬ (false = true) by decide)] at H
  have HC91 := Aside0.mk H
  clear H
  go_upto_if 189 with (fail)
  go_cut [] from 1 to 0 (fun wc => ∃ (kq : Nat), Aside0 (laws_FnOrdersTurn.j2 kq l1 = some r) ∧ Aside0 (kq ≤ kj13) ∧ Aside0 (wc.heap[gb689]? = some (.cells #[.int .i64 t686, .int .i64 t687] 26 (0, 0))) ∧ Aside0 (wc.heap[gb701]? = some (.cells #[.int .i64 t698, .int .i64 t699] 32 (0, 0))) ∧ Aside0 (wc.heap[gb705]? = some (.cells #[.int .i64 t702, .int .i64 t703] 32 (0, 0))) ∧ Aside0 (wc.heap[gb709]? = some (.cells #[.int .i64 t706, .int .i64 t707] 32 (0, 0))) ∧ Aside0 (wc.heap[gb713]? = some (.cells #[.int .i64 t710, .int .i64 t711] 32 (0, 0))) ∧ Aside0 (Below w.heap.size w wc))
  case first => as_aux_lemma =>
    have H := HC91.out
    clear HC91
    by_cases c92 : t691 = true
    rotate_left
    · replace c92 := Bool.eq_false_iff.mpr c92
      subst c92
      rw [if_neg (show ¬ (false = true) by decide)] at H
      have H' := Aside0.mk H
      clear H
      go_wp2
      go_meet
      case rel => refine ⟨_, H', ⟨by have := HJ13.out; first | omega | exact Nat.le_refl _⟩, ⟨?_⟩, ⟨?_⟩, ⟨?_⟩, ⟨?_⟩, ⟨?_⟩, ⟨bB HB⟩⟩ <;> (with_reducible repeat (first | refine g_d ?_ _ | refine g_e ?_ | refine g_a ?_ _)) <;> first | exact BK689.out | exact BK701.out | exact BK705.out | exact BK709.out | exact BK713.out
    subst c92
    rw [if_pos rfl] at H
    replace H := Option.bind_eq_some_iff.mp H
    obtain ⟨⟨t714, t715⟩, A930, H⟩ := H
    try dsimp only at H
    have A93 := Aside0.mk A930
    clear A930
    replace H := Option.bind_eq_some_iff.mp H
    obtain ⟨⟨t716, t717⟩, A940, H⟩ := H
    try dsimp only at H
    have A94 := Aside0.mk A940
    clear A940
    replace H := Option.bind_eq_some_iff.mp H
    obtain ⟨⟨t718, t719⟩, A950, H⟩ := H
    try dsimp only at H
    have A95 := Aside0.mk A950
    clear A950
    replace H := Option.bind_eq_some_iff.mp H
    obtain ⟨⟨t720, t721⟩, A960, H⟩ := H
    try dsimp only at H
    have A96 := Aside0.mk A960
    clear A960
    by_cases c97 : t714 = 0
    · rw [if_pos c97] at H
      exact absurd H (by simp)
    rw [if_neg c97] at H
    have c97b0 : (t714 == 0) = false := beq_eq_false_iff_ne.mpr c97
    have c97b1 : (t714 != 0) = true := bne_iff_ne.mpr c97
    (first | rw [c97b0] | (simp only [i64_w, i32_w]; rw [c97b0]) | skip)
    replace H := Option.bind_eq_some_iff.mp H
    obtain ⟨⟨t722, t723⟩, A980, H⟩ := H
    try dsimp only at H
    have A98 := Aside0.mk A980
    clear A980
    have HC99 := Aside0.mk H
    clear H
    have hnb100 := eq_false NB689_701.out
    have hnc100 := eq_false NB701_689.out
    have hnb101 := eq_false NB689_705.out
    have hnc101 := eq_false NB705_689.out
    have hnb102 := eq_false NB689_709.out
    have hnc102 := eq_false NB709_689.out
    have hnb103 := eq_false NB689_713.out
    have hnc103 := eq_false NB713_689.out
    have hcz104_0 := cz0 BK689
    have hcz104_1 := cz1 BK689
    have hfz104_0 := blk_frozen BK689.out 0
    have hfz104_1 := blk_frozen BK689.out 1
    try go_wp2_with (first | ((with_reducible refine gate_callee (f := 17) rfl ?_); refine goesL_ (some 192) rfl rfl Try.func17 (by kernel_rfl) rfl #[.agg #[.int .i64 t686, .int .i64 t687]] rfl (by (try simp only [m_1, m_2, m_3]); first | done | rfl | (simp only [m_4, m_5]; rfl)) ?_; (with_reducible refine (impl_CountCodes.calls kj13 t686 t687 t714 t715 _ A93.out).mono ?_); rintro e w105 ⟨rfl, hb⟩; refine ⟨_, rfl, ?_⟩; replace BK689 := bbx hb BK689; replace BK701 := bbx hb BK701; replace BK705 := bbx hb BK705; replace BK709 := bbx hb BK709; replace BK713 := bbx hb BK713; replace HB := bsx hb HB; skip; (try clear hb); (try clear hb2); (try clear hk); (try clear hi); have hcz106_0 := cz0 BK689; have hcz106_1 := cz1 BK689; have hfz106_0 := blk_frozen BK689.out 0; have hfz106_1 := blk_frozen BK689.out 1) | ((with_reducible refine gate_callee (f := 18) rfl ?_); refine goesL_ (some 198) rfl rfl Try.func18 (by kernel_rfl) rfl #[.agg #[.int .i64 t686, .int .i64 t687], .string t690] rfl (by (try simp only [m_1, m_2, m_3]); first | done | rfl | (simp only [m_4, m_5]; rfl)) ?_; (with_reducible refine (impl_RoundRank.calls kj13 t686 t687 t690 t716 t717 _ A94.out).mono ?_); rintro e w107 ⟨rfl, hb⟩; refine ⟨_, rfl, ?_⟩; replace BK689 := bbx hb BK689; replace BK701 := bbx hb BK701; replace BK705 := bbx hb BK705; replace BK709 := bbx hb BK709; replace BK713 := bbx hb BK713; replace HB := bsx hb HB; skip; (try clear hb); (try clear hb2); (try clear hk); (try clear hi); have hcz108_0 := cz0 BK689; have hcz108_1 := cz1 BK689; have hfz108_0 := blk_frozen BK689.out 0; have hfz108_1 := blk_frozen BK689.out 1) | ((with_reducible refine gate_callee (f := 8) rfl ?_); refine goesL_ (some 204) rfl rfl Try.func8 (by kernel_rfl) rfl #[.agg #[.int .i64 t686, .int .i64 t687], .string t694] rfl (by (try simp only [m_1, m_2, m_3]); first | done | rfl | (simp only [m_4, m_5]; rfl)) ?_; (with_reducible refine (impl_ForthRank.calls kj13 t686 t687 t694 t718 t719 _ A95.out).mono ?_); rintro e w109 ⟨rfl, hb⟩; refine ⟨_, rfl, ?_⟩; replace BK689 := bbx hb BK689; replace BK701 := bbx hb BK701; replace BK705 := bbx hb BK705; replace BK709 := bbx hb BK709; replace BK713 := bbx hb BK713; replace HB := bsx hb HB; skip; (try clear hb); (try clear hb2); (try clear hk); (try clear hi); have hcz110_0 := cz0 BK689; have hcz110_1 := cz1 BK689; have hfz110_0 := blk_frozen BK689.out 0; have hfz110_1 := blk_frozen BK689.out 1; have hnb111 := eq_false NB701_705.out; have hnc111 := eq_false NB705_701.out; have hnb112 := eq_false NB701_709.out; have hnc112 := eq_false NB709_701.out; have hnb113 := eq_false NB701_713.out; have hnc113 := eq_false NB713_701.out; have hcz114_0 := cz0 BK701; have hcz114_1 := cz1 BK701; have hfz114_0 := blk_frozen BK701.out 0; have hfz114_1 := blk_frozen BK701.out 1) | ((with_reducible refine gate_callee (f := 19) rfl ?_); refine goesL_ (some 211) rfl rfl Try.func19 (by kernel_rfl) rfl #[.agg #[.int .i64 t686, .int .i64 t687], .string t690, .agg #[.int .i64 t698, .int .i64 t699]] rfl (by (try simp only [m_1, m_2, m_3]); first | done | rfl | (simp only [m_4, m_5]; rfl)) ?_; (with_reducible refine (impl_TurnWheel.calls kj13 t686 t687 t690 t698 t699 t720 t721 _ A96.out).mono ?_); rintro e w115 ⟨rfl, hb⟩; refine ⟨_, rfl, ?_⟩; replace BK689 := bbx hb BK689; replace BK701 := bbx hb BK701; replace BK705 := bbx hb BK705; replace BK709 := bbx hb BK709; replace BK713 := bbx hb BK713; replace HB := bsx hb HB; skip; (try clear hb); (try clear hb2); (try clear hk); (try clear hi)))
    have n0_ := Aside0.mk (g_e BK689.out)
    have n1_ := Aside0.mk (g_e BK701.out)
    have n2_ := Aside0.mk (g_e BK705.out)
    have n3_ := Aside0.mk (g_e BK709.out)
    have n4_ := Aside0.mk (g_e BK713.out)
    have n5_ := Aside0.mk (b_e HB.out)
    clear BK689
    clear BK701
    clear BK705
    clear BK709
    clear BK713
    clear HB
    have BK689 := n0_
    have BK701 := n1_
    have BK705 := n2_
    have BK709 := n3_
    have BK713 := n4_
    have HB := n5_
    clear n0_ n1_ n2_ n3_ n4_ n5_
    refine start_ (n := 11) (S := fun w' => w'.cell? ⟨gb689, 0, none⟩ = some (.int .i64 t686) ∧ w'.cell? ⟨gb689, 1, none⟩ = some (.int .i64 t687)) (ds := []) (bs_ 11 0) (by kernel_rfl) rfl rfl ⟨(blk_cell BK689.out 0).trans rfl, (blk_cell BK689.out 1).trans rfl⟩ (fun hHeld => ?_); refine with_tabW laws_FnOrdersTurn.tab19 laws_FnOrdersTurn.bits19 (fun HT_ HW_ => ?_)
    generalize w115.drew = w116 at BK689 BK701 BK705 BK709 BK713 HB hHeld ⊢
    refine pua 1 216 (bs_ 11 2) HT_ ?_
    refine pua 2 217 (bs_ 11 6) HT_ ?_
    refine pua 3 218 (bs_ 11 14) HT_ ?_
    refine pua 4 219 (bs_ 11 30) HT_ ?_
    refine tk_ 0 215 (bs_ 11 31) rfl rfl HT_ HW_ (by kernel_rfl) (fun _ _ _ h => h) (by rfl) hHeld (by rintro w' ⟨s0, s1⟩; go_simp; with_reducible rfl) (by simp only [Act.put, s_1, s_2, s_3, i64_w, i32_w]; rfl) ?_
    refine one_ (i := 5) (N := some 220) (bs_ 11 63) rfl rfl (one_of HT_.out (by kernel_rfl)) (by decide) (fun K hK => ?_)
    refine goes_ Try.func9 (by kernel_rfl) rfl #[.agg #[.int .i64 t686, .int .i64 t687], .int .i64 (Int.tmod (wrap64 (t688 + 1)) t714)] (by rfl) rfl rfl (by (try simp only [m_1, m_2, m_3]); first | done | rfl | (simp only [m_4, m_5]; rfl)) ?_
    with_reducible refine (impl_RoundCode.calls kj13 t686 t687 (Int.tmod (wrap64 (t688 + 1)) t714) t722 t723 _ A98.out).mono ?_
    rintro e w117 ⟨rfl, hb⟩
    refine ⟨_, rfl, ?_⟩
    have n0_ := bbx hb BK689
    have n1_ := bbx hb BK701
    have n2_ := bbx hb BK705
    have n3_ := bbx hb BK709
    have n4_ := bbx hb BK713
    have n5_ := bsx hb HB
    clear BK689
    clear BK701
    clear BK705
    clear BK709
    clear BK713
    clear HB
    have BK689 := n0_
    have BK701 := n1_
    have BK705 := n2_
    have BK709 := n3_
    have BK713 := n4_
    have HB := n5_
    clear n0_ n1_ n2_ n3_ n4_ n5_
    (try clear hb)
    (try clear hb2)
    (try clear hk)
    (try clear hi)
    refine hK.out _ _ ⟨(blk_cell BK689.out 0).trans rfl, (blk_cell BK689.out 1).trans rfl⟩ (fun hHeld => ?_)
    clear hK K
    refine norm_ (a' := ?_) ?_ ?_
    rotate_left
    · show Act.put _ (some 220) _ = _
      simp only [Act.put, s_1, s_2, s_3, i64_w, i32_w]
      rfl
    refine pua 6 214 (bs_ 11 127) HT_ ?_
    refine pua 7 221 (bs_ 11 255) HT_ ?_
    refine pua 8 222 (bs_ 11 511) HT_ ?_
    refine pua 9 31 (bs_ 11 1023) HT_ ?_
    refine pua 10 32 (bs_ 11 2047) HT_ ?_
    refine done_ (done_of HT_.out (by kernel_rfl)) ?_
    go_upto_region 20 with (fail)
    go_cut [268] from 1 to 0 (fun v268 wc => ∃ (kq : Nat) (x268_98 : Bool), v268 = .bool x268_98 ∧ Aside0 (laws_FnOrdersTurn.j1 kq l1 t688 t694 t708 x268_98 t686 t687 t706 t707 = some r) ∧ Aside0 (kq ≤ kj13) ∧ Aside0 (wc.heap[gb689]? = some (.cells #[.int .i64 t686, .int .i64 t687] 26 (0, 0))) ∧ Aside0 (wc.heap[gb701]? = some (.cells #[.int .i64 t698, .int .i64 t699] 32 (0, 0))) ∧ Aside0 (wc.heap[gb705]? = some (.cells #[.int .i64 t702, .int .i64 t703] 32 (0, 0))) ∧ Aside0 (wc.heap[gb709]? = some (.cells #[.int .i64 t706, .int .i64 t707] 32 (0, 0))) ∧ Aside0 (wc.heap[gb713]? = some (.cells #[.int .i64 t710, .int .i64 t711] 32 (0, 0))) ∧ Aside0 (Below w.heap.size w wc))
    case first => as_aux_lemma =>
      have H := HC99.out
      clear HC99
      by_cases c118 : t715 = true
      rotate_left
      · replace c118 := Bool.eq_false_iff.mpr c118
        subst c118
        rw [if_neg (show ¬ (false = true) by decide)] at H
        rw [HRT.out] at H
        exact absurd H (by generalize kj13 = q_; cases q_ <;> simp [laws_FnOrdersTurn.j1])
      subst c118
      rw [if_pos rfl] at H
      by_cases c119 : t717 = true
      rotate_left
      · replace c119 := Bool.eq_false_iff.mpr c119
        subst c119
        rw [if_neg (show ¬ (false = true) by decide)] at H
        rw [HRT.out] at H
        exact absurd H (by generalize kj13 = q_; cases q_ <;> simp [laws_FnOrdersTurn.j1])
      subst c119
      rw [if_pos rfl] at H
      by_cases c120 : t716 = t688
      rotate_left
      · rw [if_neg c120] at H
        have c120b0 : (t716 == t688) = false := beq_eq_false_iff_ne.mpr c120
        have c120b1 : (t716 != t688) = true := bne_iff_ne.mpr c120
        (first | rw [c120b0] | (simp only [i64_w, i32_w]; rw [c120b0]) | skip)
        rw [HRT.out] at H
        exact absurd H (by generalize kj13 = q_; cases q_ <;> simp [laws_FnOrdersTurn.j1])
      rw [if_pos c120] at H
      have c120b0 : (t716 == t688) = true := beq_iff_eq.mpr c120
      have c120b1 : (t716 != t688) = false := bne_eq_false_iff_eq.mpr c120
      clear c120
      (first | rw [c120b0] | (simp only [i64_w, i32_w]; rw [c120b0]) | skip)
      by_cases c121 : t719 = true
      rotate_left
      · replace c121 := Bool.eq_false_iff.mpr c121
        subst c121
        rw [if_neg (show ¬ (false = true) by decide)] at H
        rw [HRT.out] at H
        exact absurd H (by generalize kj13 = q_; cases q_ <;> simp [laws_FnOrdersTurn.j1])
      subst c121
      rw [if_pos rfl] at H
      by_cases c122 : t718 = t688
      rotate_left
      · rw [if_neg c122] at H
        have c122b0 : (t718 == t688) = false := beq_eq_false_iff_ne.mpr c122
        have c122b1 : (t718 != t688) = true := bne_iff_ne.mpr c122
        rw [HRT.out] at H
        exact absurd H (by generalize kj13 = q_; cases q_ <;> simp [laws_FnOrdersTurn.j1])
      rw [if_pos c122] at H
      have c122b0 : (t718 == t688) = true := beq_iff_eq.mpr c122
      have c122b1 : (t718 != t688) = false := bne_eq_false_iff_eq.mpr c122
      clear c122
      by_cases c123 : t721 = true
      rotate_left
      · replace c123 := Bool.eq_false_iff.mpr c123
        subst c123
        rw [if_neg (show ¬ (false = true) by decide)] at H
        rw [HRT.out] at H
        exact absurd H (by generalize kj13 = q_; cases q_ <;> simp [laws_FnOrdersTurn.j1])
      subst c123
      rw [if_pos rfl] at H
      by_cases c124 : t723 = true
      rotate_left
      · replace c124 := Bool.eq_false_iff.mpr c124
        subst c124
        rw [if_neg (show ¬ (false = true) by decide)] at H
        rw [HRT.out] at H
        exact absurd H (by generalize kj13 = q_; cases q_ <;> simp [laws_FnOrdersTurn.j1])
      subst c124
      rw [if_pos rfl] at H
      by_cases c125 : t720.toList = t722.toList
      rotate_left
      · rw [if_neg c125] at H
        have c125b0 : (t720.toList == t722.toList) = false := beq_eq_false_iff_ne.mpr c125
        have c125b1 : (t720.toList != t722.toList) = true := bne_iff_ne.mpr c125
        rw [HRT.out] at H
        exact absurd H (by generalize kj13 = q_; cases q_ <;> simp [laws_FnOrdersTurn.j1])
      rw [if_pos c125] at H
      have c125b0 : (t720.toList == t722.toList) = true := beq_iff_eq.mpr c125
      have c125b1 : (t720.toList != t722.toList) = false := bne_eq_false_iff_eq.mpr c125
      clear c125
      by_cases c126 : t699 = 1
      rotate_left
      · rw [if_neg c126] at H
        have c126b0 : (t699 == 1) = false := beq_eq_false_iff_ne.mpr c126
        have c126b1 : (t699 != 1) = true := bne_iff_ne.mpr c126
        rw [HRT.out] at H
        exact absurd H (by generalize kj13 = q_; cases q_ <;> simp [laws_FnOrdersTurn.j1])
      rw [if_pos c126] at H
      have c126b0 : (t699 == 1) = true := beq_iff_eq.mpr c126
      have c126b1 : (t699 != 1) = false := bne_eq_false_iff_eq.mpr c126
      clear c126
      have H' := Aside0.mk H
      clear H
      have hnb127 := eq_false NB701_689.out
      have hnc127 := eq_false NB689_701.out
      have hnb128 := eq_false NB701_705.out
      have hnc128 := eq_false NB705_701.out
      have hnb129 := eq_false NB701_709.out
      have hnc129 := eq_false NB709_701.out
      have hnb130 := eq_false NB701_713.out
      have hnc130 := eq_false NB713_701.out
      have hcz131_0 := cz0 BK701
      have hcz131_1 := cz1 BK701
      have hfz131_0 := blk_frozen BK701.out 0
      have hfz131_1 := blk_frozen BK701.out 1
      go_wp2
      go_meet
      case rel => refine ⟨_, ((t708 != (decide (t688 < (wrap64 (t714 - 1)))))), (by first | rfl | (simp; done) | (simp [*]; done)), H', ⟨by have := HJ13.out; first | omega | exact Nat.le_refl _⟩, ⟨?_⟩, ⟨?_⟩, ⟨?_⟩, ⟨?_⟩, ⟨?_⟩, ⟨bB HB⟩⟩ <;> (with_reducible repeat (first | refine g_d ?_ _ | refine g_e ?_ | refine g_a ?_ _)) <;> first | exact BK689.out | exact BK701.out | exact BK705.out | exact BK709.out | exact BK713.out
    clear HC99
    try clear c90
    try clear c92
    try clear c97
    try clear c97b0
    try clear c97b1
    try clear hcz104_0
    try clear hcz104_1
    try clear hcz106_0
    try clear hcz106_1
    try clear hcz108_0
    try clear hcz108_1
    try clear hcz110_0
    try clear hcz110_1
    try clear hcz114_0
    try clear hcz114_1
    try clear hfz104_0
    try clear hfz104_1
    try clear hfz106_0
    try clear hfz106_1
    try clear hfz108_0
    try clear hfz108_1
    try clear hfz110_0
    try clear hfz110_1
    try clear hfz114_0
    try clear hfz114_1
    obtain ⟨kq, x268_98, rfl, HA, HJ98, BK689, BK701, BK705, BK709, BK713, HB⟩ := hcut
    rcases kq with _ | kj98
    · exact absurd HA.out (by simp [laws_FnOrdersTurn.j1])
    have H := HA.out
    clear HA
    simp only [laws_FnOrdersTurn.j1] at H
    by_cases c132 : x268_98 = true
    · subst c132
      rw [if_pos rfl] at H
      rw [HRT.out] at H
      exact absurd H (by simp)
    replace c132 := Bool.eq_false_iff.mpr c132
    subst c132
    rw [if_neg (show ¬ (false = true) by decide)] at H
    by_cases c133 : t708 = true
    rotate_left
    · replace c133 := Bool.eq_false_iff.mpr c133
      subst c133
      rw [if_neg (show ¬ (false = true) by decide)] at H
      have H' := Aside0.mk H
      clear H
      go_wp2
      go_meet
      case rel => refine ⟨_, H', ⟨by have := HJ13.out; have := HJ98.out; first | omega | exact Nat.le_refl _⟩, ⟨?_⟩, ⟨?_⟩, ⟨?_⟩, ⟨?_⟩, ⟨?_⟩, ⟨bB HB⟩⟩ <;> (with_reducible repeat (first | refine g_d ?_ _ | refine g_e ?_ | refine g_a ?_ _)) <;> first | exact BK689.out | exact BK701.out | exact BK705.out | exact BK709.out | exact BK713.out
    subst c133
    rw [if_pos rfl] at H
    replace H := Option.bind_eq_some_iff.mp H
    obtain ⟨⟨t724, t725⟩, A1340, H⟩ := H
    try dsimp only at H
    have A134 := Aside0.mk A1340
    clear A1340
    replace H := Option.bind_eq_some_iff.mp H
    obtain ⟨⟨t726, t727⟩, A1350, H⟩ := H
    try dsimp only at H
    have A135 := Aside0.mk A1350
    clear A1350
    by_cases c136 : t725 = true
    rotate_left
    · replace c136 := Bool.eq_false_iff.mpr c136
      subst c136
      rw [if_neg (show ¬ (false = true) by decide)] at H
      rw [HRT.out] at H
      exact absurd H (by simp)
    subst c136
    rw [if_pos rfl] at H
    by_cases c137 : t727 = true
    rotate_left
    · replace c137 := Bool.eq_false_iff.mpr c137
      subst c137
      rw [if_neg (show ¬ (false = true) by decide)] at H
      rw [HRT.out] at H
      exact absurd H (by simp)
    subst c137
    rw [if_pos rfl] at H
    by_cases c138 : t724.toList = t726.toList
    rotate_left
    · rw [if_neg c138] at H
      have c138b0 : (t724.toList == t726.toList) = false := beq_eq_false_iff_ne.mpr c138
      have c138b1 : (t724.toList != t726.toList) = true := bne_iff_ne.mpr c138
      rw [HRT.out] at H
      exact absurd H (by simp)
    rw [if_pos c138] at H
    have c138b0 : (t724.toList == t726.toList) = true := beq_iff_eq.mpr c138
    have c138b1 : (t724.toList != t726.toList) = false := bne_eq_false_iff_eq.mpr c138
    clear c138
    have H' := Aside0.mk H
    clear H
    have hnb139 := eq_false NB689_701.out
    have hnc139 := eq_false NB701_689.out
    have hnb140 := eq_false NB689_705.out
    have hnc140 := eq_false NB705_689.out
    have hnb141 := eq_false NB689_709.out
    have hnc141 := eq_false NB709_689.out
    have hnb142 := eq_false NB689_713.out
    have hnc142 := eq_false NB713_689.out
    have hcz143_0 := cz0 BK689
    have hcz143_1 := cz1 BK689
    have hfz143_0 := blk_frozen BK689.out 0
    have hfz143_1 := blk_frozen BK689.out 1
    have hnb144 := eq_false NB709_701.out
    have hnc144 := eq_false NB701_709.out
    have hnb145 := eq_false NB709_705.out
    have hnc145 := eq_false NB705_709.out
    have hnb146 := eq_false NB709_713.out
    have hnc146 := eq_false NB713_709.out
    have hcz147_0 := cz0 BK709
    have hcz147_1 := cz1 BK709
    have hfz147_0 := blk_frozen BK709.out 0
    have hfz147_1 := blk_frozen BK709.out 1
    go_wp2_with (first | ((with_reducible refine gate_callee (f := 19) rfl ?_); refine goesL_ (some 274) rfl rfl Try.func19 (by kernel_rfl) rfl #[.agg #[.int .i64 t686, .int .i64 t687], .string t694, .agg #[.int .i64 t706, .int .i64 t707]] rfl (by (try simp only [m_1, m_2, m_3]); first | done | rfl | (simp only [m_4, m_5]; rfl)) ?_; (with_reducible refine (impl_TurnWheel.calls kj98 t686 t687 t694 t706 t707 t724 true _ A134.out).mono ?_); rintro e w148 ⟨rfl, hb⟩; refine ⟨_, rfl, ?_⟩; replace BK689 := bbx hb BK689; replace BK701 := bbx hb BK701; replace BK705 := bbx hb BK705; replace BK709 := bbx hb BK709; replace BK713 := bbx hb BK713; replace HB := bsx hb HB; skip; (try clear hb); (try clear hb2); (try clear hk); (try clear hi); have hcz149_0 := cz0 BK689; have hcz149_1 := cz1 BK689; have hfz149_0 := blk_frozen BK689.out 0; have hfz149_1 := blk_frozen BK689.out 1) | ((with_reducible refine gate_callee (f := 11) rfl ?_); refine goesL_ (some 281) rfl rfl Try.func11 (by kernel_rfl) rfl #[.agg #[.int .i64 t686, .int .i64 t687], .int .i64 (wrap64 (t688 + 1))] rfl (by (try simp only [m_1, m_2, m_3]); first | done | rfl | (simp only [m_4, m_5]; rfl)) ?_; (with_reducible refine (impl_ForthCode.calls kj98 t686 t687 (wrap64 (t688 + 1)) t726 true _ A135.out).mono ?_); rintro e w150 ⟨rfl, hb⟩; refine ⟨_, rfl, ?_⟩; replace BK689 := bbx hb BK689; replace BK701 := bbx hb BK701; replace BK705 := bbx hb BK705; replace BK709 := bbx hb BK709; replace BK713 := bbx hb BK713; replace HB := bsx hb HB; skip; (try clear hb); (try clear hb2); (try clear hk); (try clear hi)))
    go_meet
    case rel => refine ⟨_, H', ⟨by have := HJ13.out; have := HJ98.out; first | omega | exact Nat.le_refl _⟩, ⟨?_⟩, ⟨?_⟩, ⟨?_⟩, ⟨?_⟩, ⟨?_⟩, ⟨bB HB⟩⟩ <;> (with_reducible repeat (first | refine g_d ?_ _ | refine g_e ?_ | refine g_a ?_ _)) <;> first | exact BK689.out | exact BK701.out | exact BK705.out | exact BK709.out | exact BK713.out
  clear HC91
  obtain ⟨kq, HA, HJ90, BK689, BK701, BK705, BK709, BK713, HB⟩ := hcut
  rcases kq with _ | kj90
  · exact absurd HA.out (by simp [laws_FnOrdersTurn.j2])
  have H := HA.out
  clear HA
  simp only [laws_FnOrdersTurn.j2] at H
  replace H := Option.bind_eq_some_iff.mp H
  obtain ⟨⟨t728, t729, t730⟩, A1510, H⟩ := H
  try dsimp only at H
  have A151 := Aside0.mk A1510
  clear A1510
  replace H := Option.bind_eq_some_iff.mp H
  obtain ⟨⟨t732, t733⟩, A1520, H⟩ := H
  try dsimp only at H
  have A152 := Aside0.mk A1520
  clear A1520
  replace H := Option.bind_eq_some_iff.mp H
  obtain ⟨⟨t734, t735⟩, A1530, H⟩ := H
  try dsimp only at H
  have A153 := Aside0.mk A1530
  clear A1530
  replace H := Option.bind_eq_some_iff.mp H
  obtain ⟨⟨t736, t737⟩, A1540, H⟩ := H
  try dsimp only at H
  have A154 := Aside0.mk A1540
  clear A1540
  replace H := Option.bind_eq_some_iff.mp H
  obtain ⟨⟨t738, t739⟩, A1550, H⟩ := H
  try dsimp only at H
  have A155 := Aside0.mk A1550
  clear A1550
  replace H := Option.bind_eq_some_iff.mp H
  obtain ⟨⟨t740, t741, t742, t743⟩, A1560, H⟩ := H
  try dsimp only at H
  have A156 := Aside0.mk A1560
  clear A1560
  replace H := Option.bind_eq_some_iff.mp H
  obtain ⟨⟨t745, t748⟩, A1570, H⟩ := H
  try dsimp only at H
  have A157 := Aside0.mk A1570
  clear A1570
  replace H := Option.bind_eq_some_iff.mp H
  obtain ⟨⟨t749, t752⟩, A1580, H⟩ := H
  try dsimp only at H
  have A158 := Aside0.mk A1580
  clear A1580
  replace H := Option.bind_eq_some_iff.mp H
  obtain ⟨⟨t753, t756⟩, A1590, H⟩ := H
  try dsimp only at H
  have A159 := Aside0.mk A1590
  clear A1590
  replace H := Option.bind_eq_some_iff.mp H
  obtain ⟨⟨t757, t760⟩, A1600, H⟩ := H
  try dsimp only at H
  have A160 := Aside0.mk A1600
  clear A1600
  replace H := Option.bind_eq_some_iff.mp H
  obtain ⟨⟨t761, t762⟩, A1610, H⟩ := H
  try dsimp only at H
  have A161 := Aside0.mk A1610
  clear A1610
  replace H := Option.bind_eq_some_iff.mp H
  obtain ⟨⟨t764, t767⟩, A1620, H⟩ := H
  try dsimp only at H
  have A162 := Aside0.mk A1620
  clear A1620
  replace H := Option.bind_eq_some_iff.mp H
  obtain ⟨⟨t768, t771⟩, A1630, H⟩ := H
  try dsimp only at H
  have A163 := Aside0.mk A1630
  clear A1630
  have HC164 := Aside0.mk H
  clear H
  go_upto_region 40 with (first | ((with_reducible refine gate_callee (f := 32) rfl ?_); refine goesL_ (some 297) rfl rfl Try.func32 (by kernel_rfl) rfl #[.slice A1 l1.length c1] rfl (by (try simp only [m_1, m_2, m_3]); first | done | rfl | (simp only [m_4, m_5]; rfl)) ?_; (with_reducible refine (spec_DrawForthRank.calls kj90 _ _ l1 t728 t729 t730 _ ?side1 ?side2 A151.out).mono ?_); (case side1 => repeat (first | exact (Kd.C_below HR1.out HB.out) | (with_reducible refine Kd.C_alloc ?_ _) | (with_reducible refine Kd.C_drewN ?_ _) | (with_reducible refine Kd.C_drew ?_))); (case side2 => exact HC1.out); rintro e w165 ⟨rfl, hb⟩; refine ⟨_, rfl, ?_⟩; replace BK689 := bbx hb BK689; replace BK701 := bbx hb BK701; replace BK705 := bbx hb BK705; replace BK709 := bbx hb BK709; replace BK713 := bbx hb BK713; replace HB := bsx hb HB; skip; (try clear hb); (try clear hb2); (try clear hk); (try clear hi)) | ((with_reducible refine gate_dst (N := 37) rfl ?_); (try (refine gate_guard (by rfl) ?_; dsimp only)); refine box_event ?hg (N := 37) ?hd (cs := #[.int .i64 0, .int .i64 0]) (t := 26) ?hr ?_; (case hd => rfl); (case hg => rfl); (case hr => first | (go_simp; done) | (go_simp; rfl)); intro gb731 hg w166 hbox hb; have n0_ := bbx hb BK689; have n1_ := bbx hb BK701; have n2_ := bbx hb BK705; have n3_ := bbx hb BK709; have n4_ := bbx hb BK713; have n5_ := bsx hb HB; have n6_ := Aside0.mk (hbox); have n7_ := gwx hg HB; have n8_ := gwx hg HB; have n9_ := nlx hg BK689; have n10_ := ngx hg BK689; have n11_ := nlx hg BK701; have n12_ := ngx hg BK701; have n13_ := nlx hg BK705; have n14_ := ngx hg BK705; have n15_ := nlx hg BK709; have n16_ := ngx hg BK709; have n17_ := nlx hg BK713; have n18_ := ngx hg BK713; clear BK689; clear BK701; clear BK705; clear BK709; clear BK713; clear HB; have BK689 := n0_; have BK701 := n1_; have BK705 := n2_; have BK709 := n3_; have BK713 := n4_; have HB := n5_; have BK731 := n6_; have GW731 := n7_; have GE731 := n8_; have NB689_731 := n9_; have NB731_689 := n10_; have NB701_731 := n11_; have NB731_701 := n12_; have NB705_731 := n13_; have NB731_705 := n14_; have NB709_731 := n15_; have NB731_709 := n16_; have NB713_731 := n17_; have NB731_713 := n18_; clear n0_ n1_ n2_ n3_ n4_ n5_ n6_ n7_ n8_ n9_ n10_ n11_ n12_ n13_ n14_ n15_ n16_ n17_ n18_; clear hb hbox hg; have hnb167 := eq_false NB731_689.out; have hnc167 := eq_false NB689_731.out; have hnb168 := eq_false NB731_701.out; have hnc168 := eq_false NB701_731.out; have hnb169 := eq_false NB731_705.out; have hnc169 := eq_false NB705_731.out; have hnb170 := eq_false NB731_709.out; have hnc170 := eq_false NB709_731.out; have hnb171 := eq_false NB731_713.out; have hnc171 := eq_false NB713_731.out; have hcz172_0 := cz0 BK731; have hcz172_1 := cz1 BK731; have hfz172_0 := blk_frozen BK731.out 0; have hfz172_1 := blk_frozen BK731.out 1) | ((with_reducible refine gate_callee (f := 8) rfl ?_); refine goesL_ (some 303) rfl rfl Try.func8 (by kernel_rfl) rfl #[.agg #[.int .i64 t728, .int .i64 t729], .string t730] rfl (by (try simp only [m_1, m_2, m_3]); first | done | rfl | (simp only [m_4, m_5]; rfl)) ?_; (with_reducible refine (impl_ForthRank.calls kj90 t728 t729 t730 t732 t733 _ A152.out).mono ?_); rintro e w173 ⟨rfl, hb⟩; refine ⟨_, rfl, ?_⟩; have n0_ := Aside0.mk (blk_below (g := gb689) (o := .cells #[.int .i64 t686, .int .i64 t687] 26 (0, 0)) (bF) hb); have n1_ := Aside0.mk (blk_below (g := gb701) (o := .cells #[.int .i64 t698, .int .i64 t699] 32 (0, 0)) (bF) hb); have n2_ := Aside0.mk (blk_below (g := gb705) (o := .cells #[.int .i64 t702, .int .i64 t703] 32 (0, 0)) (bF) hb); have n3_ := Aside0.mk (blk_below (g := gb709) (o := .cells #[.int .i64 t706, .int .i64 t707] 32 (0, 0)) (bF) hb); have n4_ := Aside0.mk (blk_below (g := gb713) (o := .cells #[.int .i64 t710, .int .i64 t711] 32 (0, 0)) (bF) hb); have n5_ := Aside0.mk (blk_below (g := gb731) (o := .cells #[.int .i64 t728, .int .i64 t729] 26 (0, 0)) (by (with_reducible repeat (first | refine g_d ?_ _ | refine g_e ?_ | refine g_a ?_ _)); refine blk_put (cs := #[.int .i64 t728, .int .i64 0]) ?_ 1 _ rfl; (with_reducible repeat (first | refine g_d ?_ _ | refine g_e ?_ | refine g_a ?_ _)); refine blk_put (cs := #[.int .i64 0, .int .i64 0]) ?_ 0 _ rfl; (with_reducible repeat (first | refine g_d ?_ _ | refine g_e ?_ | refine g_a ?_ _)); exact BK731.out) hb); replace HB := bsx hb HB; clear BK689; clear BK701; clear BK705; clear BK709; clear BK713; clear BK731; have BK689 := n0_; have BK701 := n1_; have BK705 := n2_; have BK709 := n3_; have BK713 := n4_; have BK731 := n5_; clear n0_ n1_ n2_ n3_ n4_ n5_; (try clear hb); (try clear hb2); (try clear hk); (try clear hi); have hcz174_0 := cz0 BK731; have hcz174_1 := cz1 BK731; have hfz174_0 := blk_frozen BK731.out 0; have hfz174_1 := blk_frozen BK731.out 1) | ((with_reducible refine gate_callee (f := 6) rfl ?_); refine goesL_ (some 309) rfl rfl Try.func6 (by kernel_rfl) rfl #[.agg #[.int .i64 t728, .int .i64 t729], .string t730] rfl (by (try simp only [m_1, m_2, m_3]); first | done | rfl | (simp only [m_4, m_5]; rfl)) ?_; (with_reducible refine (spec_ForthRank.calls kj90 t728 t729 t730 t734 t735 _ A153.out).mono ?_); rintro e w175 ⟨rfl, hb⟩; refine ⟨_, rfl, ?_⟩; replace BK689 := bbx hb BK689; replace BK701 := bbx hb BK701; replace BK705 := bbx hb BK705; replace BK709 := bbx hb BK709; replace BK713 := bbx hb BK713; replace BK731 := bbx hb BK731; replace HB := bsx hb HB; skip; (try clear hb); (try clear hb2); (try clear hk); (try clear hi); have hcz176_0 := cz0 BK731; have hcz176_1 := cz1 BK731; have hfz176_0 := blk_frozen BK731.out 0; have hfz176_1 := blk_frozen BK731.out 1) | ((with_reducible refine gate_callee (f := 18) rfl ?_); refine goesL_ (some 315) rfl rfl Try.func18 (by kernel_rfl) rfl #[.agg #[.int .i64 t728, .int .i64 t729], .string t730] rfl (by (try simp only [m_1, m_2, m_3]); first | done | rfl | (simp only [m_4, m_5]; rfl)) ?_; (with_reducible refine (impl_RoundRank.calls kj90 t728 t729 t730 t736 t737 _ A154.out).mono ?_); rintro e w177 ⟨rfl, hb⟩; refine ⟨_, rfl, ?_⟩; replace BK689 := bbx hb BK689; replace BK701 := bbx hb BK701; replace BK705 := bbx hb BK705; replace BK709 := bbx hb BK709; replace BK713 := bbx hb BK713; replace BK731 := bbx hb BK731; replace HB := bsx hb HB; skip; (try clear hb); (try clear hb2); (try clear hk); (try clear hi); have hcz178_0 := cz0 BK731; have hcz178_1 := cz1 BK731; have hfz178_0 := blk_frozen BK731.out 0; have hfz178_1 := blk_frozen BK731.out 1) | ((with_reducible refine gate_callee (f := 20) rfl ?_); refine goesL_ (some 321) rfl rfl Try.func20 (by kernel_rfl) rfl #[.agg #[.int .i64 t728, .int .i64 t729], .string t730] rfl (by (try simp only [m_1, m_2, m_3]); first | done | rfl | (simp only [m_4, m_5]; rfl)) ?_; (with_reducible refine (spec_RoundRank.calls kj90 t728 t729 t730 t738 t739 _ A155.out).mono ?_); rintro e w179 ⟨rfl, hb⟩; refine ⟨_, rfl, ?_⟩; replace BK689 := bbx hb BK689; replace BK701 := bbx hb BK701; replace BK705 := bbx hb BK705; replace BK709 := bbx hb BK709; replace BK713 := bbx hb BK713; replace BK731 := bbx hb BK731; replace HB := bsx hb HB; skip; (try clear hb); (try clear hb2); (try clear hk); (try clear hi)) | ((with_reducible refine gate_callee (f := 33) rfl ?_); refine goesL_ (some 326) rfl rfl Try.func33 (by kernel_rfl) rfl #[.slice A1 l1.length c1] rfl (by (try simp only [m_1, m_2, m_3]); first | done | rfl | (simp only [m_4, m_5]; rfl)) ?_; (with_reducible refine (spec_DrawForthPart.calls kj90 _ _ l1 t740 t741 t742 t743 _ ?side1 ?side2 A156.out).mono ?_); (case side1 => repeat (first | exact (Kd.C_below HR1.out HB.out) | (with_reducible refine Kd.C_alloc ?_ _) | (with_reducible refine Kd.C_drewN ?_ _) | (with_reducible refine Kd.C_drew ?_))); (case side2 => exact HC1.out); rintro e w180 ⟨rfl, hb⟩; refine ⟨_, rfl, ?_⟩; replace BK689 := bbx hb BK689; replace BK701 := bbx hb BK701; replace BK705 := bbx hb BK705; replace BK709 := bbx hb BK709; replace BK713 := bbx hb BK713; replace BK731 := bbx hb BK731; replace HB := bsx hb HB; skip; (try clear hb); (try clear hb2); (try clear hk); (try clear hi)) | ((with_reducible refine gate_dst (N := 47) rfl ?_); (try (refine gate_guard (by rfl) ?_; dsimp only)); refine box_event ?hg (N := 47) ?hd (cs := #[.int .i64 0, .int .i64 0]) (t := 26) ?hr ?_; (case hd => rfl); (case hg => rfl); (case hr => first | (go_simp; done) | (go_simp; rfl)); intro gb744 hg w181 hbox hb; have n0_ := bbx hb BK689; have n1_ := bbx hb BK701; have n2_ := bbx hb BK705; have n3_ := bbx hb BK709; have n4_ := bbx hb BK713; have n5_ := bbx hb BK731; have n6_ := bsx hb HB; have n7_ := Aside0.mk (hbox); have n8_ := gwx hg HB; have n9_ := gwx hg HB; have n10_ := nlx hg BK689; have n11_ := ngx hg BK689; have n12_ := nlx hg BK701; have n13_ := ngx hg BK701; have n14_ := nlx hg BK705; have n15_ := ngx hg BK705; have n16_ := nlx hg BK709; have n17_ := ngx hg BK709; have n18_ := nlx hg BK713; have n19_ := ngx hg BK713; have n20_ := nlx hg BK731; have n21_ := ngx hg BK731; clear BK689; clear BK701; clear BK705; clear BK709; clear BK713; clear BK731; clear HB; have BK689 := n0_; have BK701 := n1_; have BK705 := n2_; have BK709 := n3_; have BK713 := n4_; have BK731 := n5_; have HB := n6_; have BK744 := n7_; have GW744 := n8_; have GE744 := n9_; have NB689_744 := n10_; have NB744_689 := n11_; have NB701_744 := n12_; have NB744_701 := n13_; have NB705_744 := n14_; have NB744_705 := n15_; have NB709_744 := n16_; have NB744_709 := n17_; have NB713_744 := n18_; have NB744_713 := n19_; have NB731_744 := n20_; have NB744_731 := n21_; clear n0_ n1_ n2_ n3_ n4_ n5_ n6_ n7_ n8_ n9_ n10_ n11_ n12_ n13_ n14_ n15_ n16_ n17_ n18_ n19_ n20_ n21_; clear hb hbox hg; have hnb182 := eq_false NB744_689.out; have hnc182 := eq_false NB689_744.out; have hnb183 := eq_false NB744_701.out; have hnc183 := eq_false NB701_744.out; have hnb184 := eq_false NB744_705.out; have hnc184 := eq_false NB705_744.out; have hnb185 := eq_false NB744_709.out; have hnc185 := eq_false NB709_744.out; have hnb186 := eq_false NB744_713.out; have hnc186 := eq_false NB713_744.out; have hnb187 := eq_false NB744_731.out; have hnc187 := eq_false NB731_744.out; have hcz188_0 := cz0 BK744; have hcz188_1 := cz1 BK744; have hfz188_0 := blk_frozen BK744.out 0; have hfz188_1 := blk_frozen BK744.out 1) | ((with_reducible refine gate_callee (f := 21) rfl ?_); refine goesL_ (some 334) rfl rfl Try.func21 (by kernel_rfl) rfl #[.agg #[.int .i64 t740, .int .i64 t741], .int .i64 t742, .int .i64 t743] rfl (by (try simp only [m_1, m_2, m_3]); first | done | rfl | (simp only [m_4, m_5]; rfl)) ?_; (with_reducible refine (impl_ForthPart.calls kj90 t740 t741 t742 t743 t745 t748 _ A157.out).mono ?_); rintro e w189 ⟨v746, rfl, ho0, hb⟩; refine ⟨_, rfl, ?_⟩; have n0_ := Aside0.mk (Kd.R_lower ho0 (below_size (bB HB))); have n1_ := Aside0.mk (blk_below (g := gb689) (o := .cells #[.int .i64 t686, .int .i64 t687] 26 (0, 0)) (bF) hb); have n2_ := Aside0.mk (blk_below (g := gb701) (o := .cells #[.int .i64 t698, .int .i64 t699] 32 (0, 0)) (bF) hb); have n3_ := Aside0.mk (blk_below (g := gb705) (o := .cells #[.int .i64 t702, .int .i64 t703] 32 (0, 0)) (bF) hb); have n4_ := Aside0.mk (blk_below (g := gb709) (o := .cells #[.int .i64 t706, .int .i64 t707] 32 (0, 0)) (bF) hb); have n5_ := Aside0.mk (blk_below (g := gb713) (o := .cells #[.int .i64 t710, .int .i64 t711] 32 (0, 0)) (bF) hb); have n6_ := Aside0.mk (blk_below (g := gb731) (o := .cells #[.int .i64 t728, .int .i64 t729] 26 (0, 0)) (bF) hb); have n7_ := Aside0.mk (blk_below (g := gb744) (o := .cells #[.int .i64 t740, .int .i64 t741] 26 (0, 0)) (by (with_reducible repeat (first | refine g_d ?_ _ | refine g_e ?_ | refine g_a ?_ _)); refine blk_put (cs := #[.int .i64 t740, .int .i64 0]) ?_ 1 _ rfl; (with_reducible repeat (first | refine g_d ?_ _ | refine g_e ?_ | refine g_a ?_ _)); refine blk_put (cs := #[.int .i64 0, .int .i64 0]) ?_ 0 _ rfl; (with_reducible repeat (first | refine g_d ?_ _ | refine g_e ?_ | refine g_a ?_ _)); exact BK744.out) hb); have n8_ := bsx hb HB; clear BK689; clear BK701; clear BK705; clear BK709; clear BK713; clear BK731; clear BK744; clear HB; have HO747 := n0_; have BK689 := n1_; have BK701 := n2_; have BK705 := n3_; have BK709 := n4_; have BK713 := n5_; have BK731 := n6_; have BK744 := n7_; have HB := n8_; clear n0_ n1_ n2_ n3_ n4_ n5_ n6_ n7_ n8_; (try clear hb); (try clear hb2); (try clear hk); (try clear hi); (try clear ho0); have hcz190_0 := cz0 BK744; have hcz190_1 := cz1 BK744; have hfz190_0 := blk_frozen BK744.out 0; have hfz190_1 := blk_frozen BK744.out 1) | ((with_reducible refine gate_callee (f := 22) rfl ?_); refine goesL_ (some 341) rfl rfl Try.func22 (by kernel_rfl) rfl #[.agg #[.int .i64 t740, .int .i64 t741], .int .i64 t742, .int .i64 t743] rfl (by (try simp only [m_1, m_2, m_3]); first | done | rfl | (simp only [m_4, m_5]; rfl)) ?_; (with_reducible refine (spec_ForthPart.calls kj90 t740 t741 t742 t743 t749 t752 _ A158.out).mono ?_); rintro e w191 ⟨v750, rfl, ho0, hb⟩; refine ⟨_, rfl, ?_⟩; have n0_ := Aside0.mk (Kd.R_elder' (by (with_reducible repeat (first | apply r_a | apply r_d | apply r_e)); exact HO747.out) (Kd.R_base ho0) hb); have n1_ := Aside0.mk (Kd.R_lower (Kd.R_new' ho0 (Kd.R_lt (by (with_reducible repeat (first | apply r_a | apply r_d | apply r_e)); exact HO747.out))) (below_size (bB HB))); replace BK689 := bbx hb BK689; replace BK701 := bbx hb BK701; replace BK705 := bbx hb BK705; replace BK709 := bbx hb BK709; replace BK713 := bbx hb BK713; replace BK731 := bbx hb BK731; replace BK744 := bbx hb BK744; have n9_ := bsx hb HB; clear HO747; clear HB; have HO747 := n0_; have HO751 := n1_; have HB := n9_; clear n0_ n1_ n9_; (try clear hb); (try clear hb2); (try clear hk); (try clear hi); (try clear ho0); have hcz192_0 := cz0 BK744; have hcz192_1 := cz1 BK744; have hfz192_0 := blk_frozen BK744.out 0; have hfz192_1 := blk_frozen BK744.out 1) | ((with_reducible refine gate_callee (f := 23) rfl ?_); refine goesL_ (some 348) rfl rfl Try.func23 (by kernel_rfl) rfl #[.agg #[.int .i64 t740, .int .i64 t741], .int .i64 t742, .int .i64 t743] rfl (by (try simp only [m_1, m_2, m_3]); first | done | rfl | (simp only [m_4, m_5]; rfl)) ?_; (with_reducible refine (impl_RoundPart.calls kj90 t740 t741 t742 t743 t753 t756 _ A159.out).mono ?_); rintro e w193 ⟨v754, rfl, ho0, hb⟩; refine ⟨_, rfl, ?_⟩; have n0_ := Aside0.mk (Kd.R_elder' (by (with_reducible repeat (first | apply r_a | apply r_d | apply r_e)); exact HO747.out) (Kd.R_base ho0) hb); have n1_ := Aside0.mk (Kd.R_elder' (by (with_reducible repeat (first | apply r_a | apply r_d | apply r_e)); exact HO751.out) (Kd.R_base ho0) hb); have n2_ := Aside0.mk (Kd.R_lower (Kd.R_new' (Kd.R_new' ho0 (Kd.R_lt (by (with_reducible repeat (first | apply r_a | apply r_d | apply r_e)); exact HO747.out))) (Kd.R_lt (by (with_reducible repeat (first | apply r_a | apply r_d | apply r_e)); exact HO751.out))) (below_size (bB HB))); replace BK689 := bbx hb BK689; replace BK701 := bbx hb BK701; replace BK705 := bbx hb BK705; replace BK709 := bbx hb BK709; replace BK713 := bbx hb BK713; replace BK731 := bbx hb BK731; replace BK744 := bbx hb BK744; have n10_ := bsx hb HB; clear HO747; clear HO751; clear HB; have HO747 := n0_; have HO751 := n1_; have HO755 := n2_; have HB := n10_; clear n0_ n1_ n2_ n10_; (try clear hb); (try clear hb2); (try clear hk); (try clear hi); (try clear ho0); have hcz194_0 := cz0 BK744; have hcz194_1 := cz1 BK744; have hfz194_0 := blk_frozen BK744.out 0; have hfz194_1 := blk_frozen BK744.out 1) | ((with_reducible refine gate_callee (f := 24) rfl ?_); refine goesL_ (some 355) rfl rfl Try.func24 (by kernel_rfl) rfl #[.agg #[.int .i64 t740, .int .i64 t741], .int .i64 t742, .int .i64 t743] rfl (by (try simp only [m_1, m_2, m_3]); first | done | rfl | (simp only [m_4, m_5]; rfl)) ?_; (with_reducible refine (spec_RoundPart.calls kj90 t740 t741 t742 t743 t757 t760 _ A160.out).mono ?_); rintro e w195 ⟨v758, rfl, ho0, hb⟩; refine ⟨_, rfl, ?_⟩; have n0_ := Aside0.mk (Kd.R_elder' (by (with_reducible repeat (first | apply r_a | apply r_d | apply r_e)); exact HO747.out) (Kd.R_base ho0) hb); have n1_ := Aside0.mk (Kd.R_elder' (by (with_reducible repeat (first | apply r_a | apply r_d | apply r_e)); exact HO751.out) (Kd.R_base ho0) hb); have n2_ := Aside0.mk (Kd.R_elder' (by (with_reducible repeat (first | apply r_a | apply r_d | apply r_e)); exact HO755.out) (Kd.R_base ho0) hb); have n3_ := Aside0.mk (Kd.R_lower (Kd.R_new' (Kd.R_new' (Kd.R_new' ho0 (Kd.R_lt (by (with_reducible repeat (first | apply r_a | apply r_d | apply r_e)); exact HO747.out))) (Kd.R_lt (by (with_reducible repeat (first | apply r_a | apply r_d | apply r_e)); exact HO751.out))) (Kd.R_lt (by (with_reducible repeat (first | apply r_a | apply r_d | apply r_e)); exact HO755.out))) (below_size (bB HB))); replace BK689 := bbx hb BK689; replace BK701 := bbx hb BK701; replace BK705 := bbx hb BK705; replace BK709 := bbx hb BK709; replace BK713 := bbx hb BK713; replace BK731 := bbx hb BK731; replace BK744 := bbx hb BK744; have n11_ := bsx hb HB; clear HO747; clear HO751; clear HO755; clear HB; have HO747 := n0_; have HO751 := n1_; have HO755 := n2_; have HO759 := n3_; have HB := n11_; clear n0_ n1_ n2_ n3_ n11_; (try clear hb); (try clear hb2); (try clear hk); (try clear hi); (try clear ho0)) | ((with_reducible refine gate_callee (f := 34) rfl ?_); refine goesL_ (some 359) rfl rfl Try.func34 (by kernel_rfl) rfl #[.slice A1 l1.length c1] rfl (by (try simp only [m_1, m_2, m_3]); first | done | rfl | (simp only [m_4, m_5]; rfl)) ?_; (with_reducible refine (spec_DrawWheelTurns.calls _ _ l1 t761 t762 _ ?side1 ?side2 A161.out).mono ?_); (case side1 => repeat (first | exact (Kd.C_below HR1.out HB.out) | (with_reducible refine Kd.C_alloc ?_ _) | (with_reducible refine Kd.C_drewN ?_ _) | (with_reducible refine Kd.C_drew ?_))); (case side2 => exact HC1.out); rintro e w196 ⟨rfl, hb⟩; refine ⟨_, rfl, ?_⟩; have n0_ := Aside0.mk (Kd.R_below (by (with_reducible repeat (first | apply r_a | apply r_d | apply r_e)); exact HO747.out) hb); have n1_ := Aside0.mk (Kd.R_below (by (with_reducible repeat (first | apply r_a | apply r_d | apply r_e)); exact HO751.out) hb); have n2_ := Aside0.mk (Kd.R_below (by (with_reducible repeat (first | apply r_a | apply r_d | apply r_e)); exact HO755.out) hb); have n3_ := Aside0.mk (Kd.R_below (by (with_reducible repeat (first | apply r_a | apply r_d | apply r_e)); exact HO759.out) hb); replace BK689 := bbx hb BK689; replace BK701 := bbx hb BK701; replace BK705 := bbx hb BK705; replace BK709 := bbx hb BK709; replace BK713 := bbx hb BK713; replace BK731 := bbx hb BK731; replace BK744 := bbx hb BK744; replace HB := bsx hb HB; clear HO747; clear HO751; clear HO755; clear HO759; have HO747 := n0_; have HO751 := n1_; have HO755 := n2_; have HO759 := n3_; clear n0_ n1_ n2_ n3_; (try clear hb); (try clear hb2); (try clear hk); (try clear hi)) | ((with_reducible refine gate_dst (N := 58) rfl ?_); (try (refine gate_guard (by rfl) ?_; dsimp only)); refine box_event ?hg (N := 58) ?hd (cs := #[.int .i64 0, .int .i64 0]) (t := 26) ?hr ?_; (case hd => rfl); (case hg => rfl); (case hr => first | (go_simp; done) | (go_simp; rfl)); intro gb763 hg w197 hbox hb; have n0_ := Aside0.mk (Kd.R_below (by (with_reducible repeat (first | apply r_a | apply r_d | apply r_e)); exact HO747.out) hb); have n1_ := Aside0.mk (Kd.R_below (by (with_reducible repeat (first | apply r_a | apply r_d | apply r_e)); exact HO751.out) hb); have n2_ := Aside0.mk (Kd.R_below (by (with_reducible repeat (first | apply r_a | apply r_d | apply r_e)); exact HO755.out) hb); have n3_ := Aside0.mk (Kd.R_below (by (with_reducible repeat (first | apply r_a | apply r_d | apply r_e)); exact HO759.out) hb); have n4_ := bbx hb BK689; have n5_ := bbx hb BK701; have n6_ := bbx hb BK705; have n7_ := bbx hb BK709; have n8_ := bbx hb BK713; have n9_ := bbx hb BK731; have n10_ := bbx hb BK744; have n11_ := bsx hb HB; have n12_ := Aside0.mk (hbox); have n13_ := gwx hg HB; have n14_ := gwx hg HB; have n15_ := nlx hg BK689; have n16_ := ngx hg BK689; have n17_ := nlx hg BK701; have n18_ := ngx hg BK701; have n19_ := nlx hg BK705; have n20_ := ngx hg BK705; have n21_ := nlx hg BK709; have n22_ := ngx hg BK709; have n23_ := nlx hg BK713; have n24_ := ngx hg BK713; have n25_ := nlx hg BK731; have n26_ := ngx hg BK731; have n27_ := nlx hg BK744; have n28_ := ngx hg BK744; clear HO747; clear HO751; clear HO755; clear HO759; clear BK689; clear BK701; clear BK705; clear BK709; clear BK713; clear BK731; clear BK744; clear HB; have HO747 := n0_; have HO751 := n1_; have HO755 := n2_; have HO759 := n3_; have BK689 := n4_; have BK701 := n5_; have BK705 := n6_; have BK709 := n7_; have BK713 := n8_; have BK731 := n9_; have BK744 := n10_; have HB := n11_; have BK763 := n12_; have GW763 := n13_; have GE763 := n14_; have NB689_763 := n15_; have NB763_689 := n16_; have NB701_763 := n17_; have NB763_701 := n18_; have NB705_763 := n19_; have NB763_705 := n20_; have NB709_763 := n21_; have NB763_709 := n22_; have NB713_763 := n23_; have NB763_713 := n24_; have NB731_763 := n25_; have NB763_731 := n26_; have NB744_763 := n27_; have NB763_744 := n28_; clear n0_ n1_ n2_ n3_ n4_ n5_ n6_ n7_ n8_ n9_ n10_ n11_ n12_ n13_ n14_ n15_ n16_ n17_ n18_ n19_ n20_ n21_ n22_ n23_ n24_ n25_ n26_ n27_ n28_; clear hb hbox hg; have hnb198 := eq_false NB763_689.out; have hnc198 := eq_false NB689_763.out; have hnb199 := eq_false NB763_701.out; have hnc199 := eq_false NB701_763.out; have hnb200 := eq_false NB763_705.out; have hnc200 := eq_false NB705_763.out; have hnb201 := eq_false NB763_709.out; have hnc201 := eq_false NB709_763.out; have hnb202 := eq_false NB763_713.out; have hnc202 := eq_false NB713_763.out; have hnb203 := eq_false NB763_731.out; have hnc203 := eq_false NB731_763.out; have hnb204 := eq_false NB763_744.out; have hnc204 := eq_false NB744_763.out; have hcz205_0 := cz0 BK763; have hcz205_1 := cz1 BK763; have hfz205_0 := blk_frozen BK763.out 0; have hfz205_1 := blk_frozen BK763.out 1) | ((with_reducible refine gate_callee (f := 25) rfl ?_); refine goesL_ (some 362) rfl rfl Try.func25 (by kernel_rfl) rfl #[.agg #[.int .i64 t761, .int .i64 t762]] rfl (by (try simp only [m_1, m_2, m_3]); first | done | rfl | (simp only [m_4, m_5]; rfl)) ?_; (with_reducible refine (impl_WheelTurns.calls kj90 t761 t762 t764 t767 _ A162.out).mono ?_); rintro e w206 ⟨v765, rfl, ho0, hb⟩; refine ⟨_, rfl, ?_⟩; have n0_ := Aside0.mk (Kd.R_below (by (with_reducible repeat (first | apply r_a | apply r_d | apply r_e)); exact (Kd.R_mono (Kd.R_far (p := ⟨gb763, 1, none⟩) (Kd.R_far (p := ⟨gb763, 0, none⟩) (Kd.R_types HO747.out BK763.out (by decide)) (fun _ hk => hk.2) (.int .i64 t761)) (fun _ hk => hk.2) (.int .i64 t762)) (fun _ h_ => h_.1))) hb); have n1_ := Aside0.mk (Kd.R_below (by (with_reducible repeat (first | apply r_a | apply r_d | apply r_e)); exact (Kd.R_mono (Kd.R_far (p := ⟨gb763, 1, none⟩) (Kd.R_far (p := ⟨gb763, 0, none⟩) (Kd.R_types HO751.out BK763.out (by decide)) (fun _ hk => hk.2) (.int .i64 t761)) (fun _ hk => hk.2) (.int .i64 t762)) (fun _ h_ => h_.1))) hb); have n2_ := Aside0.mk (Kd.R_below (by (with_reducible repeat (first | apply r_a | apply r_d | apply r_e)); exact (Kd.R_mono (Kd.R_far (p := ⟨gb763, 1, none⟩) (Kd.R_far (p := ⟨gb763, 0, none⟩) (Kd.R_types HO755.out BK763.out (by decide)) (fun _ hk => hk.2) (.int .i64 t761)) (fun _ hk => hk.2) (.int .i64 t762)) (fun _ h_ => h_.1))) hb); have n3_ := Aside0.mk (Kd.R_below (by (with_reducible repeat (first | apply r_a | apply r_d | apply r_e)); exact (Kd.R_mono (Kd.R_far (p := ⟨gb763, 1, none⟩) (Kd.R_far (p := ⟨gb763, 0, none⟩) (Kd.R_types HO759.out BK763.out (by decide)) (fun _ hk => hk.2) (.int .i64 t761)) (fun _ hk => hk.2) (.int .i64 t762)) (fun _ h_ => h_.1))) hb); have n4_ := Aside0.mk (Kd.R_lower ho0 (below_size (bB HB))); have n5_ := Aside0.mk (blk_below (g := gb689) (o := .cells #[.int .i64 t686, .int .i64 t687] 26 (0, 0)) (bF) hb); have n6_ := Aside0.mk (blk_below (g := gb701) (o := .cells #[.int .i64 t698, .int .i64 t699] 32 (0, 0)) (bF) hb); have n7_ := Aside0.mk (blk_below (g := gb705) (o := .cells #[.int .i64 t702, .int .i64 t703] 32 (0, 0)) (bF) hb); have n8_ := Aside0.mk (blk_below (g := gb709) (o := .cells #[.int .i64 t706, .int .i64 t707] 32 (0, 0)) (bF) hb); have n9_ := Aside0.mk (blk_below (g := gb713) (o := .cells #[.int .i64 t710, .int .i64 t711] 32 (0, 0)) (bF) hb); have n10_ := Aside0.mk (blk_below (g := gb731) (o := .cells #[.int .i64 t728, .int .i64 t729] 26 (0, 0)) (bF) hb); have n11_ := Aside0.mk (blk_below (g := gb744) (o := .cells #[.int .i64 t740, .int .i64 t741] 26 (0, 0)) (bF) hb); have n12_ := Aside0.mk (blk_below (g := gb763) (o := .cells #[.int .i64 t761, .int .i64 t762] 26 (0, 0)) (by (with_reducible repeat (first | refine g_d ?_ _ | refine g_e ?_ | refine g_a ?_ _)); refine blk_put (cs := #[.int .i64 t761, .int .i64 0]) ?_ 1 _ rfl; (with_reducible repeat (first | refine g_d ?_ _ | refine g_e ?_ | refine g_a ?_ _)); refine blk_put (cs := #[.int .i64 0, .int .i64 0]) ?_ 0 _ rfl; (with_reducible repeat (first | refine g_d ?_ _ | refine g_e ?_ | refine g_a ?_ _)); exact BK763.out) hb); have n13_ := bsx hb HB; clear HO747; clear HO751; clear HO755; clear HO759; clear BK689; clear BK701; clear BK705; clear BK709; clear BK713; clear BK731; clear BK744; clear BK763; clear HB; have HO747 := n0_; have HO751 := n1_; have HO755 := n2_; have HO759 := n3_; have HO766 := n4_; have BK689 := n5_; have BK701 := n6_; have BK705 := n7_; have BK709 := n8_; have BK713 := n9_; have BK731 := n10_; have BK744 := n11_; have BK763 := n12_; have HB := n13_; clear n0_ n1_ n2_ n3_ n4_ n5_ n6_ n7_ n8_ n9_ n10_ n11_ n12_ n13_; (try clear hb); (try clear hb2); (try clear hk); (try clear hi); (try clear ho0); have hcz207_0 := cz0 BK763; have hcz207_1 := cz1 BK763; have hfz207_0 := blk_frozen BK763.out 0; have hfz207_1 := blk_frozen BK763.out 1) | ((with_reducible refine gate_callee (f := 26) rfl ?_); refine goesL_ (some 367) rfl rfl Try.func26 (by kernel_rfl) rfl #[.agg #[.int .i64 t761, .int .i64 t762]] rfl (by (try simp only [m_1, m_2, m_3]); first | done | rfl | (simp only [m_4, m_5]; rfl)) ?_; (with_reducible refine (spec_WheelTurns.calls kj90 t761 t762 t768 t771 _ A163.out).mono ?_); rintro e w208 ⟨v769, rfl, ho0, hb⟩; refine ⟨_, rfl, ?_⟩; have n0_ := Aside0.mk (Kd.R_below (by (with_reducible repeat (first | apply r_a | apply r_d | apply r_e)); exact HO747.out) hb); have n1_ := Aside0.mk (Kd.R_below (by (with_reducible repeat (first | apply r_a | apply r_d | apply r_e)); exact HO751.out) hb); have n2_ := Aside0.mk (Kd.R_below (by (with_reducible repeat (first | apply r_a | apply r_d | apply r_e)); exact HO755.out) hb); have n3_ := Aside0.mk (Kd.R_below (by (with_reducible repeat (first | apply r_a | apply r_d | apply r_e)); exact HO759.out) hb); have n4_ := Aside0.mk (Kd.R_elder' (by (with_reducible repeat (first | apply r_a | apply r_d | apply r_e)); exact HO766.out) (Kd.R_base ho0) hb); have n5_ := Aside0.mk (Kd.R_lower (Kd.R_new' ho0 (Kd.R_lt (by (with_reducible repeat (first | apply r_a | apply r_d | apply r_e)); exact HO766.out))) (below_size (bB HB))); replace BK689 := bbx hb BK689; replace BK701 := bbx hb BK701; replace BK705 := bbx hb BK705; replace BK709 := bbx hb BK709; replace BK713 := bbx hb BK713; replace BK731 := bbx hb BK731; replace BK744 := bbx hb BK744; replace BK763 := bbx hb BK763; have n14_ := bsx hb HB; clear HO747; clear HO751; clear HO755; clear HO759; clear HO766; clear HB; have HO747 := n0_; have HO751 := n1_; have HO755 := n2_; have HO759 := n3_; have HO766 := n4_; have HO770 := n5_; have HB := n14_; clear n0_ n1_ n2_ n3_ n4_ n5_ n14_; (try clear hb); (try clear hb2); (try clear hk); (try clear hi); (try clear ho0)))
  (try simp only [Act.put, s_1, s_2, s_3])
  go_cut [432] from 1 to 0 (fun v432 wc => ∃ (kq : Nat) (x432_163 : Bool), v432 = .bool x432_163 ∧ Aside0 (laws_FnOrdersTurn.j3 kq t730 t732 t733 t736 t743 t745 t748 t753 t756 t764 t767 x432_163 t728 t729 t740 t741 t761 t762 = some r) ∧ Aside0 (kq ≤ kj90) ∧ Aside0 (Kd.R Kd.string 9 wc w.heap.size (fun k_ => some k_ ≠ (v754 : Value).ownBlock) v746 t745) ∧ Aside0 (Kd.R Kd.string 9 wc w.heap.size (fun k_ => some k_ ≠ (v746 : Value).ownBlock) v754 t753) ∧ Aside0 (Kd.R (Kd.int .i64) 3 wc w.heap.size (fun _ => True) v765 t764) ∧ Aside0 (wc.heap[gb689]? = some (.cells #[.int .i64 t686, .int .i64 t687] 26 (0, 0))) ∧ Aside0 (wc.heap[gb701]? = some (.cells #[.int .i64 t698, .int .i64 t699] 32 (0, 0))) ∧ Aside0 (wc.heap[gb705]? = some (.cells #[.int .i64 t702, .int .i64 t703] 32 (0, 0))) ∧ Aside0 (wc.heap[gb709]? = some (.cells #[.int .i64 t706, .int .i64 t707] 32 (0, 0))) ∧ Aside0 (wc.heap[gb713]? = some (.cells #[.int .i64 t710, .int .i64 t711] 32 (0, 0))) ∧ Aside0 (wc.heap[gb731]? = some (.cells #[.int .i64 t728, .int .i64 t729] 26 (0, 0))) ∧ Aside0 (wc.heap[gb744]? = some (.cells #[.int .i64 t740, .int .i64 t741] 26 (0, 0))) ∧ Aside0 (wc.heap[gb763]? = some (.cells #[.int .i64 t761, .int .i64 t762] 26 (0, 0))) ∧ Aside0 (Below w.heap.size w wc))
  case first => as_aux_lemma =>
    have H := HC164.out
    clear HC164
    by_cases c209 : (t733 != t735) = true
    · rw [if_pos c209] at H
      have c209b0 : (t733 != t735) = true := c209
      (try (have c209b1 : decide (t733 = t735) = false := by simpa using c209))
      (try (have c209b2 : (t733 == t735) = false := by simpa using c209))
      (try (have c209b3 : ¬ (t733 = t735) := by simpa using c209))
      clear c209
      (first | rw [c209b0] | (simp only [i64_w, i32_w]; rw [c209b0]) | skip)
      rw [HRT.out] at H
      exact absurd H (by generalize kj90 = q_; cases q_ <;> simp [laws_FnOrdersTurn.j3])
    rw [if_neg c209] at H
    have c209b0 : (t733 != t735) = false := by simpa using c209
    (try (have c209b1 : decide (t733 = t735) = true := by simpa using c209))
    (try (have c209b2 : (t733 == t735) = true := by simpa using c209))
    clear c209
    (first | rw [c209b0] | (simp only [i64_w, i32_w]; rw [c209b0]) | skip)
    by_cases c210 : t732 = t734
    rotate_left
    · rw [if_neg c210] at H
      have c210b0 : (t732 == t734) = false := beq_eq_false_iff_ne.mpr c210
      have c210b1 : (t732 != t734) = true := bne_iff_ne.mpr c210
      rw [HRT.out] at H
      exact absurd H (by generalize kj90 = q_; cases q_ <;> simp [laws_FnOrdersTurn.j3])
    rw [if_pos c210] at H
    have c210b0 : (t732 == t734) = true := beq_iff_eq.mpr c210
    have c210b1 : (t732 != t734) = false := bne_eq_false_iff_eq.mpr c210
    clear c210
    by_cases c211 : (t737 != t739) = true
    · rw [if_pos c211] at H
      have c211b0 : (t737 != t739) = true := c211
      (try (have c211b1 : decide (t737 = t739) = false := by simpa using c211))
      (try (have c211b2 : (t737 == t739) = false := by simpa using c211))
      (try (have c211b3 : ¬ (t737 = t739) := by simpa using c211))
      clear c211
      rw [HRT.out] at H
      exact absurd H (by generalize kj90 = q_; cases q_ <;> simp [laws_FnOrdersTurn.j3])
    rw [if_neg c211] at H
    have c211b0 : (t737 != t739) = false := by simpa using c211
    (try (have c211b1 : decide (t737 = t739) = true := by simpa using c211))
    (try (have c211b2 : (t737 == t739) = true := by simpa using c211))
    clear c211
    by_cases c212 : t736 = t738
    rotate_left
    · rw [if_neg c212] at H
      have c212b0 : (t736 == t738) = false := beq_eq_false_iff_ne.mpr c212
      have c212b1 : (t736 != t738) = true := bne_iff_ne.mpr c212
      rw [HRT.out] at H
      exact absurd H (by generalize kj90 = q_; cases q_ <;> simp [laws_FnOrdersTurn.j3])
    rw [if_pos c212] at H
    have c212b0 : (t736 == t738) = true := beq_iff_eq.mpr c212
    have c212b1 : (t736 != t738) = false := bne_eq_false_iff_eq.mpr c212
    clear c212
    by_cases c213 : (t737 != t733) = true
    · rw [if_pos c213] at H
      have c213b0 : (t737 != t733) = true := c213
      (try (have c213b1 : decide (t737 = t733) = false := by simpa using c213))
      (try (have c213b2 : (t737 == t733) = false := by simpa using c213))
      (try (have c213b3 : ¬ (t737 = t733) := by simpa using c213))
      clear c213
      rw [HRT.out] at H
      exact absurd H (by generalize kj90 = q_; cases q_ <;> simp [laws_FnOrdersTurn.j3])
    rw [if_neg c213] at H
    have c213b0 : (t737 != t733) = false := by simpa using c213
    (try (have c213b1 : decide (t737 = t733) = true := by simpa using c213))
    (try (have c213b2 : (t737 == t733) = true := by simpa using c213))
    clear c213
    by_cases c214 : (t748 != t752) = true
    · rw [if_pos c214] at H
      have c214b0 : (t748 != t752) = true := c214
      (try (have c214b1 : decide (t748 = t752) = false := by simpa using c214))
      (try (have c214b2 : (t748 == t752) = false := by simpa using c214))
      (try (have c214b3 : ¬ (t748 = t752) := by simpa using c214))
      clear c214
      rw [HRT.out] at H
      exact absurd H (by generalize kj90 = q_; cases q_ <;> simp [laws_FnOrdersTurn.j3])
    rw [if_neg c214] at H
    have c214b0 : (t748 != t752) = false := by simpa using c214
    (try (have c214b1 : decide (t748 = t752) = true := by simpa using c214))
    (try (have c214b2 : (t748 == t752) = true := by simpa using c214))
    clear c214
    replace H := Option.bind_eq_some_iff.mp H
    obtain ⟨t772, A2150, H⟩ := H
    try dsimp only at H
    have A215 := Aside0.mk A2150
    clear A2150
    by_cases c216 : t772 = true
    rotate_left
    · replace c216 := Bool.eq_false_iff.mpr c216
      subst c216
      rw [if_neg (show ¬ (false = true) by decide)] at H
      rw [HRT.out] at H
      exact absurd H (by generalize kj90 = q_; cases q_ <;> simp [laws_FnOrdersTurn.j3])
    subst c216
    rw [if_pos rfl] at H
    by_cases c217 : (t756 != t760) = true
    · rw [if_pos c217] at H
      have c217b0 : (t756 != t760) = true := c217
      (try (have c217b1 : decide (t756 = t760) = false := by simpa using c217))
      (try (have c217b2 : (t756 == t760) = false := by simpa using c217))
      (try (have c217b3 : ¬ (t756 = t760) := by simpa using c217))
      clear c217
      rw [HRT.out] at H
      exact absurd H (by generalize kj90 = q_; cases q_ <;> simp [laws_FnOrdersTurn.j3])
    rw [if_neg c217] at H
    have c217b0 : (t756 != t760) = false := by simpa using c217
    (try (have c217b1 : decide (t756 = t760) = true := by simpa using c217))
    (try (have c217b2 : (t756 == t760) = true := by simpa using c217))
    clear c217
    replace H := Option.bind_eq_some_iff.mp H
    obtain ⟨t773, A2180, H⟩ := H
    try dsimp only at H
    have A218 := Aside0.mk A2180
    clear A2180
    by_cases c219 : t773 = true
    rotate_left
    · replace c219 := Bool.eq_false_iff.mpr c219
      subst c219
      rw [if_neg (show ¬ (false = true) by decide)] at H
      rw [HRT.out] at H
      exact absurd H (by generalize kj90 = q_; cases q_ <;> simp [laws_FnOrdersTurn.j3])
    subst c219
    rw [if_pos rfl] at H
    by_cases c220 : t748 = true
    rotate_left
    · replace c220 := Bool.eq_false_iff.mpr c220
      subst c220
      rw [if_neg (show ¬ (false = true) by decide)] at H
      by_cases c230 : (t767 != t771) = true
      · rw [if_pos c230] at H
        have c230b0 : (t767 != t771) = true := c230
        (try (have c230b1 : decide (t767 = t771) = false := by simpa using c230))
        (try (have c230b2 : (t767 == t771) = false := by simpa using c230))
        (try (have c230b3 : ¬ (t767 = t771) := by simpa using c230))
        clear c230
        rw [HRT.out] at H
        exact absurd H (by generalize kj90 = q_; cases q_ <;> simp [laws_FnOrdersTurn.j3])
      rw [if_neg c230] at H
      have c230b0 : (t767 != t771) = false := by simpa using c230
      (try (have c230b1 : decide (t767 = t771) = true := by simpa using c230))
      (try (have c230b2 : (t767 == t771) = true := by simpa using c230))
      clear c230
      replace H := Option.bind_eq_some_iff.mp H
      obtain ⟨t775, A2310, H⟩ := H
      try dsimp only at H
      have A231 := Aside0.mk A2310
      clear A2310
      have H' := Aside0.mk H
      clear H
      obtain ⟨Ao232, co232, eo232⟩ := Kd.R_slice HO747.out
      subst eo232
      obtain ⟨Ao233, co233, eo233⟩ := Kd.R_slice HO751.out
      subst eo233
      go_wp2_with (first | (go_at_call 27; (with_reducible refine (laws_aTexts.calls kj90 _ _ t745 _ _ t749 true _ ?side1 ?side2 ?side3 ?side4 A215.out).mono ?_); (case side1 => repeat (first | exact (Kd.R_reads' HO747.out).2.2 | (with_reducible refine Kd.C_alloc ?_ _) | (with_reducible refine Kd.C_drewN ?_ _) | (with_reducible refine Kd.C_drew ?_))); (case side2 => exact (Kd.R_reads' HO747.out).2.1); (case side3 => repeat (first | exact (Kd.R_reads' HO751.out).2.2 | (with_reducible refine Kd.C_alloc ?_ _) | (with_reducible refine Kd.C_drewN ?_ _) | (with_reducible refine Kd.C_drew ?_))); (case side4 => exact (Kd.R_reads' HO751.out).2.1); rintro e w' ⟨rfl, ⟨nd, rfl⟩⟩; obtain ⟨Ao234, co234, eo234⟩ := Kd.R_slice HO755.out; subst eo234; obtain ⟨Ao235, co235, eo235⟩ := Kd.R_slice HO759.out; subst eo235) | (go_at_call 27; (with_reducible refine (laws_aTexts.calls kj90 _ _ t753 _ _ t757 true _ ?side1 ?side2 ?side3 ?side4 A218.out).mono ?_); (case side1 => repeat (first | exact (Kd.R_reads' HO755.out).2.2 | (with_reducible refine Kd.C_alloc ?_ _) | (with_reducible refine Kd.C_drewN ?_ _) | (with_reducible refine Kd.C_drew ?_))); (case side2 => exact (Kd.R_reads' HO755.out).2.1); (case side3 => repeat (first | exact (Kd.R_reads' HO759.out).2.2 | (with_reducible refine Kd.C_alloc ?_ _) | (with_reducible refine Kd.C_drewN ?_ _) | (with_reducible refine Kd.C_drew ?_))); (case side4 => exact (Kd.R_reads' HO759.out).2.1); rintro e w' ⟨rfl, ⟨nd, rfl⟩⟩; obtain ⟨Ao236, co236, eo236⟩ := Kd.R_slice HO766.out; subst eo236; obtain ⟨Ao237, co237, eo237⟩ := Kd.R_slice HO770.out; subst eo237) | (go_at_call 28; (with_reducible refine (laws_aSame.calls kj90 _ _ t764 _ _ t768 t775 _ ?side1 ?side2 ?side3 ?side4 A231.out).mono ?_); (case side1 => repeat (first | exact (Kd.R_reads' HO766.out).2.2 | (with_reducible refine Kd.C_alloc ?_ _) | (with_reducible refine Kd.C_drewN ?_ _) | (with_reducible refine Kd.C_drew ?_))); (case side2 => exact (Kd.R_reads' HO766.out).2.1); (case side3 => repeat (first | exact (Kd.R_reads' HO770.out).2.2 | (with_reducible refine Kd.C_alloc ?_ _) | (with_reducible refine Kd.C_drewN ?_ _) | (with_reducible refine Kd.C_drew ?_))); (case side4 => exact (Kd.R_reads' HO770.out).2.1); rintro e w' ⟨rfl, ⟨nd, rfl⟩⟩))
      go_meet
      case rel => refine ⟨_, (!t775), (by first | rfl | (simp; done) | (simp [*]; done)), H', ⟨by have := HJ13.out; have := HJ90.out; first | omega | exact Nat.le_refl _⟩, ⟨by (with_reducible repeat (first | apply r_a | apply r_d | apply r_e)); exact Kd.R_mono HO747.out (fun _ hk => hk.1.2)⟩, ⟨by (with_reducible repeat (first | apply r_a | apply r_d | apply r_e)); exact Kd.R_mono HO755.out (fun _ hk => hk.1.1.2)⟩, ⟨by (with_reducible repeat (first | apply r_a | apply r_d | apply r_e)); exact Kd.R_mono HO766.out (fun _ hk => trivial)⟩, ⟨?_⟩, ⟨?_⟩, ⟨?_⟩, ⟨?_⟩, ⟨?_⟩, ⟨?_⟩, ⟨?_⟩, ⟨?_⟩, ⟨bB HB⟩⟩ <;> (with_reducible repeat (first | refine g_d ?_ _ | refine g_e ?_ | refine g_a ?_ _)) <;> first | exact BK689.out | exact BK701.out | exact BK705.out | exact BK709.out | exact BK713.out | exact BK731.out | exact BK744.out | exact BK763.out
    subst c220
    rw [if_pos rfl] at H
    by_cases c221 : t756 = true
    rotate_left
    · replace c221 := Bool.eq_false_iff.mpr c221
      subst c221
      rw [if_neg (show ¬ (false = true) by decide)] at H
      rw [HRT.out] at H
      exact absurd H (by generalize kj90 = q_; cases q_ <;> simp [laws_FnOrdersTurn.j3])
    subst c221
    rw [if_pos rfl] at H
    by_cases c222 : (t767 != t771) = true
    · rw [if_pos c222] at H
      have c222b0 : (t767 != t771) = true := c222
      (try (have c222b1 : decide (t767 = t771) = false := by simpa using c222))
      (try (have c222b2 : (t767 == t771) = false := by simpa using c222))
      (try (have c222b3 : ¬ (t767 = t771) := by simpa using c222))
      clear c222
      rw [HRT.out] at H
      exact absurd H (by generalize kj90 = q_; cases q_ <;> simp [laws_FnOrdersTurn.j3])
    rw [if_neg c222] at H
    have c222b0 : (t767 != t771) = false := by simpa using c222
    (try (have c222b1 : decide (t767 = t771) = true := by simpa using c222))
    (try (have c222b2 : (t767 == t771) = true := by simpa using c222))
    clear c222
    replace H := Option.bind_eq_some_iff.mp H
    obtain ⟨t774, A2230, H⟩ := H
    try dsimp only at H
    have A223 := Aside0.mk A2230
    clear A2230
    have H' := Aside0.mk H
    clear H
    obtain ⟨Ao224, co224, eo224⟩ := Kd.R_slice HO747.out
    subst eo224
    obtain ⟨Ao225, co225, eo225⟩ := Kd.R_slice HO751.out
    subst eo225
    go_wp2_with (first | (go_at_call 27; (with_reducible refine (laws_aTexts.calls kj90 _ _ t745 _ _ t749 true _ ?side1 ?side2 ?side3 ?side4 A215.out).mono ?_); (case side1 => repeat (first | exact (Kd.R_reads' HO747.out).2.2 | (with_reducible refine Kd.C_alloc ?_ _) | (with_reducible refine Kd.C_drewN ?_ _) | (with_reducible refine Kd.C_drew ?_))); (case side2 => exact (Kd.R_reads' HO747.out).2.1); (case side3 => repeat (first | exact (Kd.R_reads' HO751.out).2.2 | (with_reducible refine Kd.C_alloc ?_ _) | (with_reducible refine Kd.C_drewN ?_ _) | (with_reducible refine Kd.C_drew ?_))); (case side4 => exact (Kd.R_reads' HO751.out).2.1); rintro e w' ⟨rfl, ⟨nd, rfl⟩⟩; obtain ⟨Ao226, co226, eo226⟩ := Kd.R_slice HO755.out; subst eo226; obtain ⟨Ao227, co227, eo227⟩ := Kd.R_slice HO759.out; subst eo227) | (go_at_call 27; (with_reducible refine (laws_aTexts.calls kj90 _ _ t753 _ _ t757 true _ ?side1 ?side2 ?side3 ?side4 A218.out).mono ?_); (case side1 => repeat (first | exact (Kd.R_reads' HO755.out).2.2 | (with_reducible refine Kd.C_alloc ?_ _) | (with_reducible refine Kd.C_drewN ?_ _) | (with_reducible refine Kd.C_drew ?_))); (case side2 => exact (Kd.R_reads' HO755.out).2.1); (case side3 => repeat (first | exact (Kd.R_reads' HO759.out).2.2 | (with_reducible refine Kd.C_alloc ?_ _) | (with_reducible refine Kd.C_drewN ?_ _) | (with_reducible refine Kd.C_drew ?_))); (case side4 => exact (Kd.R_reads' HO759.out).2.1); rintro e w' ⟨rfl, ⟨nd, rfl⟩⟩; obtain ⟨Ao228, co228, eo228⟩ := Kd.R_slice HO766.out; subst eo228; obtain ⟨Ao229, co229, eo229⟩ := Kd.R_slice HO770.out; subst eo229) | (go_at_call 28; (with_reducible refine (laws_aSame.calls kj90 _ _ t764 _ _ t768 t774 _ ?side1 ?side2 ?side3 ?side4 A223.out).mono ?_); (case side1 => repeat (first | exact (Kd.R_reads' HO766.out).2.2 | (with_reducible refine Kd.C_alloc ?_ _) | (with_reducible refine Kd.C_drewN ?_ _) | (with_reducible refine Kd.C_drew ?_))); (case side2 => exact (Kd.R_reads' HO766.out).2.1); (case side3 => repeat (first | exact (Kd.R_reads' HO770.out).2.2 | (with_reducible refine Kd.C_alloc ?_ _) | (with_reducible refine Kd.C_drewN ?_ _) | (with_reducible refine Kd.C_drew ?_))); (case side4 => exact (Kd.R_reads' HO770.out).2.1); rintro e w' ⟨rfl, ⟨nd, rfl⟩⟩))
    go_meet
    case rel => refine ⟨_, (!t774), (by first | rfl | (simp; done) | (simp [*]; done)), H', ⟨by have := HJ13.out; have := HJ90.out; first | omega | exact Nat.le_refl _⟩, ⟨by (with_reducible repeat (first | apply r_a | apply r_d | apply r_e)); exact Kd.R_mono HO747.out (fun _ hk => hk.1.2)⟩, ⟨by (with_reducible repeat (first | apply r_a | apply r_d | apply r_e)); exact Kd.R_mono HO755.out (fun _ hk => hk.1.1.2)⟩, ⟨by (with_reducible repeat (first | apply r_a | apply r_d | apply r_e)); exact Kd.R_mono HO766.out (fun _ hk => trivial)⟩, ⟨?_⟩, ⟨?_⟩, ⟨?_⟩, ⟨?_⟩, ⟨?_⟩, ⟨?_⟩, ⟨?_⟩, ⟨?_⟩, ⟨bB HB⟩⟩ <;> (with_reducible repeat (first | refine g_d ?_ _ | refine g_e ?_ | refine g_a ?_ _)) <;> first | exact BK689.out | exact BK701.out | exact BK705.out | exact BK709.out | exact BK713.out | exact BK731.out | exact BK744.out | exact BK763.out
  clear HC164
  try clear c1
  try clear hcz172_0
  try clear hcz172_1
  try clear hcz174_0
  try clear hcz174_1
  try clear hcz176_0
  try clear hcz176_1
  try clear hcz178_0
  try clear hcz178_1
  try clear hcz188_0
  try clear hcz188_1
  try clear hcz190_0
  try clear hcz190_1
  try clear hcz192_0
  try clear hcz192_1
  try clear hcz194_0
  try clear hcz194_1
  try clear hcz205_0
  try clear hcz205_1
  try clear hcz207_0
  try clear hcz207_1
  try clear hfz172_0
  try clear hfz172_1
  try clear hfz174_0
  try clear hfz174_1
  try clear hfz176_0
  try clear hfz176_1
  try clear hfz178_0
  try clear hfz178_1
  try clear hfz188_0
  try clear hfz188_1
  try clear hfz190_0
  try clear hfz190_1
  try clear hfz192_0
  try clear hfz192_1
  try clear hfz194_0
  try clear hfz194_1
  try clear hfz205_0
  try clear hfz205_1
  try clear hfz207_0
  try clear hfz207_1
  obtain ⟨kq, x432_163, rfl, HA, HJ163, HO_50, HO_54, HO_59, BK689, BK701, BK705, BK709, BK713, BK731, BK744, BK763, HB⟩ := hcut
  rcases kq with _ | kj163
  · exact absurd HA.out (by simp [laws_FnOrdersTurn.j3])
  have H := HA.out
  clear HA
  simp only [laws_FnOrdersTurn.j3] at H
  by_cases c238 : x432_163 = true
  · subst c238
    rw [if_pos rfl] at H
    rw [HRT.out] at H
    exact absurd H (by simp)
  replace c238 := Bool.eq_false_iff.mpr c238
  subst c238
  rw [if_neg (show ¬ (false = true) by decide)] at H
  have HC239 := Aside0.mk H
  clear H
  go_upto_if 433 with (fail)
  go_cut [] from 1 to 0 (fun wc => ∃ (kq : Nat), Aside0 (laws_FnOrdersTurn.j4 kq t743 t745 t748 t753 t756 t764 t767 t740 t741 t761 t762 = some r) ∧ Aside0 (kq ≤ kj163) ∧ Aside0 (Kd.R Kd.string 9 wc w.heap.size (fun k_ => some k_ ≠ (v754 : Value).ownBlock) v746 t745) ∧ Aside0 (Kd.R Kd.string 9 wc w.heap.size (fun k_ => some k_ ≠ (v746 : Value).ownBlock) v754 t753) ∧ Aside0 (Kd.R (Kd.int .i64) 3 wc w.heap.size (fun _ => True) v765 t764) ∧ Aside0 (wc.heap[gb689]? = some (.cells #[.int .i64 t686, .int .i64 t687] 26 (0, 0))) ∧ Aside0 (wc.heap[gb701]? = some (.cells #[.int .i64 t698, .int .i64 t699] 32 (0, 0))) ∧ Aside0 (wc.heap[gb705]? = some (.cells #[.int .i64 t702, .int .i64 t703] 32 (0, 0))) ∧ Aside0 (wc.heap[gb709]? = some (.cells #[.int .i64 t706, .int .i64 t707] 32 (0, 0))) ∧ Aside0 (wc.heap[gb713]? = some (.cells #[.int .i64 t710, .int .i64 t711] 32 (0, 0))) ∧ Aside0 (wc.heap[gb731]? = some (.cells #[.int .i64 t728, .int .i64 t729] 26 (0, 0))) ∧ Aside0 (wc.heap[gb744]? = some (.cells #[.int .i64 t740, .int .i64 t741] 26 (0, 0))) ∧ Aside0 (wc.heap[gb763]? = some (.cells #[.int .i64 t761, .int .i64 t762] 26 (0, 0))) ∧ Aside0 (Below w.heap.size w wc))
  case first => as_aux_lemma =>
    have H := HC239.out
    clear HC239
    by_cases c240 : t733 = true
    rotate_left
    · replace c240 := Bool.eq_false_iff.mpr c240
      subst c240
      rw [if_neg (show ¬ (false = true) by decide)] at H
      have H' := Aside0.mk H
      clear H
      go_wp2
      go_meet
      case rel => refine ⟨_, H', ⟨by have := HJ13.out; have := HJ90.out; have := HJ163.out; first | omega | exact Nat.le_refl _⟩, ⟨?_⟩, ⟨?_⟩, ⟨?_⟩, ⟨?_⟩, ⟨?_⟩, ⟨?_⟩, ⟨?_⟩, ⟨?_⟩, ⟨?_⟩, ⟨?_⟩, ⟨?_⟩, ⟨bB HB⟩⟩ <;> (with_reducible repeat (first | refine g_d ?_ _ | refine g_e ?_ | refine g_a ?_ _ | apply r_a | apply r_d | apply r_e)) <;> first | exact BK689.out | exact BK701.out | exact BK705.out | exact BK709.out | exact BK713.out | exact BK731.out | exact BK744.out | exact BK763.out | exact HO_50.out | exact HO_54.out | exact HO_59.out
    subst c240
    rw [if_pos rfl] at H
    replace H := Option.bind_eq_some_iff.mp H
    obtain ⟨⟨t776, t777⟩, A2410, H⟩ := H
    try dsimp only at H
    have A241 := Aside0.mk A2410
    clear A2410
    replace H := Option.bind_eq_some_iff.mp H
    obtain ⟨⟨t778, t779⟩, A2420, H⟩ := H
    try dsimp only at H
    have A242 := Aside0.mk A2420
    clear A2420
    by_cases c243 : t777 = true
    rotate_left
    · replace c243 := Bool.eq_false_iff.mpr c243
      subst c243
      rw [if_neg (show ¬ (false = true) by decide)] at H
      rw [HRT.out] at H
      exact absurd H (by simp)
    subst c243
    rw [if_pos rfl] at H
    by_cases c244 : t776.toList = t730.toList
    rotate_left
    · rw [if_neg c244] at H
      have c244b0 : (t776.toList == t730.toList) = false := beq_eq_false_iff_ne.mpr c244
      have c244b1 : (t776.toList != t730.toList) = true := bne_iff_ne.mpr c244
      (first | rw [c244b0] | (simp only [i64_w, i32_w]; rw [c244b0]) | skip)
      rw [HRT.out] at H
      exact absurd H (by simp)
    rw [if_pos c244] at H
    have c244b0 : (t776.toList == t730.toList) = true := beq_iff_eq.mpr c244
    have c244b1 : (t776.toList != t730.toList) = false := bne_eq_false_iff_eq.mpr c244
    clear c244
    (first | rw [c244b0] | (simp only [i64_w, i32_w]; rw [c244b0]) | skip)
    by_cases c245 : t779 = true
    rotate_left
    · replace c245 := Bool.eq_false_iff.mpr c245
      subst c245
      rw [if_neg (show ¬ (false = true) by decide)] at H
      rw [HRT.out] at H
      exact absurd H (by simp)
    subst c245
    rw [if_pos rfl] at H
    by_cases c246 : t778.toList = t730.toList
    rotate_left
    · rw [if_neg c246] at H
      have c246b0 : (t778.toList == t730.toList) = false := beq_eq_false_iff_ne.mpr c246
      have c246b1 : (t778.toList != t730.toList) = true := bne_iff_ne.mpr c246
      rw [HRT.out] at H
      exact absurd H (by simp)
    rw [if_pos c246] at H
    have c246b0 : (t778.toList == t730.toList) = true := beq_iff_eq.mpr c246
    have c246b1 : (t778.toList != t730.toList) = false := bne_eq_false_iff_eq.mpr c246
    clear c246
    have H' := Aside0.mk H
    clear H
    have hnb247 := eq_false NB731_689.out
    have hnc247 := eq_false NB689_731.out
    have hnb248 := eq_false NB731_701.out
    have hnc248 := eq_false NB701_731.out
    have hnb249 := eq_false NB731_705.out
    have hnc249 := eq_false NB705_731.out
    have hnb250 := eq_false NB731_709.out
    have hnc250 := eq_false NB709_731.out
    have hnb251 := eq_false NB731_713.out
    have hnc251 := eq_false NB713_731.out
    have hnb252 := eq_false NB731_744.out
    have hnc252 := eq_false NB744_731.out
    have hnb253 := eq_false NB731_763.out
    have hnc253 := eq_false NB763_731.out
    have hcz254_0 := cz0 BK731
    have hcz254_1 := cz1 BK731
    have hfz254_0 := blk_frozen BK731.out 0
    have hfz254_1 := blk_frozen BK731.out 1
    go_wp2_with (first | ((with_reducible refine gate_callee (f := 11) rfl ?_); refine goesL_ (some 437) rfl rfl Try.func11 (by kernel_rfl) rfl #[.agg #[.int .i64 t728, .int .i64 t729], .int .i64 t732] rfl (by (try simp only [m_1, m_2, m_3]); first | done | rfl | (simp only [m_4, m_5]; rfl)) ?_; (with_reducible refine (impl_ForthCode.calls kj163 t728 t729 t732 t776 true _ A241.out).mono ?_); rintro e w255 ⟨rfl, hb⟩; refine ⟨_, rfl, ?_⟩; have n0_ := Aside0.mk (Kd.R_below (by (with_reducible repeat (first | apply r_a | apply r_d | apply r_e)); exact HO_50.out) hb); have n1_ := Aside0.mk (Kd.R_below (by (with_reducible repeat (first | apply r_a | apply r_d | apply r_e)); exact HO_54.out) hb); have n2_ := Aside0.mk (Kd.R_below (by (with_reducible repeat (first | apply r_a | apply r_d | apply r_e)); exact HO_59.out) hb); replace BK689 := bbx hb BK689; replace BK701 := bbx hb BK701; replace BK705 := bbx hb BK705; replace BK709 := bbx hb BK709; replace BK713 := bbx hb BK713; replace BK731 := bbx hb BK731; replace BK744 := bbx hb BK744; replace BK763 := bbx hb BK763; replace HB := bsx hb HB; clear HO_50; clear HO_54; clear HO_59; have HO_50 := n0_; have HO_54 := n1_; have HO_59 := n2_; clear n0_ n1_ n2_; (try clear hb); (try clear hb2); (try clear hk); (try clear hi); have hcz256_0 := cz0 BK731; have hcz256_1 := cz1 BK731; have hfz256_0 := blk_frozen BK731.out 0; have hfz256_1 := blk_frozen BK731.out 1) | ((with_reducible refine gate_callee (f := 9) rfl ?_); refine goesL_ (some 443) rfl rfl Try.func9 (by kernel_rfl) rfl #[.agg #[.int .i64 t728, .int .i64 t729], .int .i64 t736] rfl (by (try simp only [m_1, m_2, m_3]); first | done | rfl | (simp only [m_4, m_5]; rfl)) ?_; (with_reducible refine (impl_RoundCode.calls kj163 t728 t729 t736 t778 true _ A242.out).mono ?_); rintro e w257 ⟨rfl, hb⟩; refine ⟨_, rfl, ?_⟩; have n0_ := Aside0.mk (Kd.R_below (by (with_reducible repeat (first | apply r_a | apply r_d | apply r_e)); exact HO_50.out) hb); have n1_ := Aside0.mk (Kd.R_below (by (with_reducible repeat (first | apply r_a | apply r_d | apply r_e)); exact HO_54.out) hb); have n2_ := Aside0.mk (Kd.R_below (by (with_reducible repeat (first | apply r_a | apply r_d | apply r_e)); exact HO_59.out) hb); replace BK689 := bbx hb BK689; replace BK701 := bbx hb BK701; replace BK705 := bbx hb BK705; replace BK709 := bbx hb BK709; replace BK713 := bbx hb BK713; replace BK731 := bbx hb BK731; replace BK744 := bbx hb BK744; replace BK763 := bbx hb BK763; replace HB := bsx hb HB; clear HO_50; clear HO_54; clear HO_59; have HO_50 := n0_; have HO_54 := n1_; have HO_59 := n2_; clear n0_ n1_ n2_; (try clear hb); (try clear hb2); (try clear hk); (try clear hi)))
    go_meet
    case rel => refine ⟨_, H', ⟨by have := HJ13.out; have := HJ90.out; have := HJ163.out; first | omega | exact Nat.le_refl _⟩, ⟨?_⟩, ⟨?_⟩, ⟨?_⟩, ⟨?_⟩, ⟨?_⟩, ⟨?_⟩, ⟨?_⟩, ⟨?_⟩, ⟨?_⟩, ⟨?_⟩, ⟨?_⟩, ⟨bB HB⟩⟩ <;> (with_reducible repeat (first | refine g_d ?_ _ | refine g_e ?_ | refine g_a ?_ _ | apply r_a | apply r_d | apply r_e)) <;> first | exact BK689.out | exact BK701.out | exact BK705.out | exact BK709.out | exact BK713.out | exact BK731.out | exact BK744.out | exact BK763.out | exact HO_50.out | exact HO_54.out | exact HO_59.out
  clear HC239
  try clear c238
  obtain ⟨kq, HA, HJ238, HO_50, HO_54, HO_59, BK689, BK701, BK705, BK709, BK713, BK731, BK744, BK763, HB⟩ := hcut
  rcases kq with _ | kj238
  · exact absurd HA.out (by simp [laws_FnOrdersTurn.j4])
  have H := HA.out
  clear HA
  simp only [laws_FnOrdersTurn.j4] at H
  have HC258 := Aside0.mk H
  clear H
  go_upto_if 462 with (fail)
  go_cut [] from 1 to 0 (fun wc => ∃ (kq : Nat), Aside0 (laws_FnOrdersTurn.j5 kq t743 t753 t756 t764 t767 t740 t741 t761 t762 = some r) ∧ Aside0 (kq ≤ kj238) ∧ Aside0 (Kd.R Kd.string 9 wc w.heap.size (fun _ => True) v754 t753) ∧ Aside0 (Kd.R (Kd.int .i64) 3 wc w.heap.size (fun _ => True) v765 t764) ∧ Aside0 (wc.heap[gb689]? = some (.cells #[.int .i64 t686, .int .i64 t687] 26 (0, 0))) ∧ Aside0 (wc.heap[gb701]? = some (.cells #[.int .i64 t698, .int .i64 t699] 32 (0, 0))) ∧ Aside0 (wc.heap[gb705]? = some (.cells #[.int .i64 t702, .int .i64 t703] 32 (0, 0))) ∧ Aside0 (wc.heap[gb709]? = some (.cells #[.int .i64 t706, .int .i64 t707] 32 (0, 0))) ∧ Aside0 (wc.heap[gb713]? = some (.cells #[.int .i64 t710, .int .i64 t711] 32 (0, 0))) ∧ Aside0 (wc.heap[gb731]? = some (.cells #[.int .i64 t728, .int .i64 t729] 26 (0, 0))) ∧ Aside0 (wc.heap[gb744]? = some (.cells #[.int .i64 t740, .int .i64 t741] 26 (0, 0))) ∧ Aside0 (wc.heap[gb763]? = some (.cells #[.int .i64 t761, .int .i64 t762] 26 (0, 0))) ∧ Aside0 (Below w.heap.size w wc))
  case first => as_aux_lemma =>
    have H := HC258.out
    clear HC258
    by_cases c259 : t748 = true
    rotate_left
    · replace c259 := Bool.eq_false_iff.mpr c259
      subst c259
      rw [if_neg (show ¬ (false = true) by decide)] at H
      have H' := Aside0.mk H
      clear H
      go_wp2
      go_meet
      case rel => refine ⟨_, H', ⟨by have := HJ13.out; have := HJ90.out; have := HJ163.out; have := HJ238.out; first | omega | exact Nat.le_refl _⟩, ⟨by (with_reducible repeat (first | apply r_a | apply r_d | apply r_e)); exact Kd.R_mono HO_54.out (fun _ hk => trivial)⟩, ⟨?_⟩, ⟨?_⟩, ⟨?_⟩, ⟨?_⟩, ⟨?_⟩, ⟨?_⟩, ⟨?_⟩, ⟨?_⟩, ⟨?_⟩, ⟨bB HB⟩⟩ <;> (with_reducible repeat (first | refine g_d ?_ _ | refine g_e ?_ | refine g_a ?_ _ | apply r_a | apply r_d | apply r_e)) <;> first | exact BK689.out | exact BK701.out | exact BK705.out | exact BK709.out | exact BK713.out | exact BK731.out | exact BK744.out | exact BK763.out | exact HO_59.out
    subst c259
    rw [if_pos rfl] at H
    replace H := Option.bind_eq_some_iff.mp H
    obtain ⟨⟨t780, t781⟩, A2600, H⟩ := H
    try dsimp only at H
    have A260 := Aside0.mk A2600
    clear A2600
    by_cases c261 : (t745.length : Int) = t743
    rotate_left
    · rw [if_neg c261] at H
      have c261b0 : ((t745.length : Int) == t743) = false := beq_eq_false_iff_ne.mpr c261
      have c261b1 : ((t745.length : Int) != t743) = true := bne_iff_ne.mpr c261
      (first | rw [c261b0] | (simp only [i64_w, i32_w]; rw [c261b0]) | skip)
      rw [HRT.out] at H
      exact absurd H (by simp)
    rw [if_pos c261] at H
    have c261b0 : ((t745.length : Int) == t743) = true := beq_iff_eq.mpr c261
    have c261b1 : ((t745.length : Int) != t743) = false := bne_eq_false_iff_eq.mpr c261
    clear c261
    (first | rw [c261b0] | (simp only [i64_w, i32_w]; rw [c261b0]) | skip)
    by_cases c262 : t781 = true
    rotate_left
    · replace c262 := Bool.eq_false_iff.mpr c262
      subst c262
      rw [if_neg (show ¬ (false = true) by decide)] at H
      rw [HRT.out] at H
      exact absurd H (by simp)
    subst c262
    rw [if_pos rfl] at H
    by_cases c263 : t780 = true
    rotate_left
    · replace c263 := Bool.eq_false_iff.mpr c263
      subst c263
      rw [if_neg (show ¬ (false = true) by decide)] at H
      rw [HRT.out] at H
      exact absurd H (by simp)
    subst c263
    rw [if_pos rfl] at H
    have H' := Aside0.mk H
    clear H
    have hnb264 := eq_false NB744_689.out
    have hnc264 := eq_false NB689_744.out
    have hnb265 := eq_false NB744_701.out
    have hnc265 := eq_false NB701_744.out
    have hnb266 := eq_false NB744_705.out
    have hnc266 := eq_false NB705_744.out
    have hnb267 := eq_false NB744_709.out
    have hnc267 := eq_false NB709_744.out
    have hnb268 := eq_false NB744_713.out
    have hnc268 := eq_false NB713_744.out
    have hnb269 := eq_false NB744_731.out
    have hnc269 := eq_false NB731_744.out
    have hnb270 := eq_false NB744_763.out
    have hnc270 := eq_false NB763_744.out
    have hcz271_0 := cz0 BK744
    have hcz271_1 := cz1 BK744
    have hfz271_0 := blk_frozen BK744.out 0
    have hfz271_1 := blk_frozen BK744.out 1
    obtain ⟨Ao272, co272, eo272⟩ := Kd.R_slice HO_50.out
    subst eo272
    go_wp2_with (first | ((with_reducible refine gate_callee (f := 29) rfl ?_); refine goesL_ (some 466) rfl rfl Try.func29 (by kernel_rfl) rfl #[.agg #[.int .i64 t740, .int .i64 t741], .slice Ao272 t745.length co272] rfl (by (try simp only [m_1, m_2, m_3]); first | done | rfl | (simp only [m_4, m_5]; rfl)) ?_; (with_reducible refine (impl_IsTurnOrder.calls kj238 t740 t741 _ _ t745 true true _ ?side1 ?side2 A260.out).mono ?_); (case side1 => repeat (first | exact (Kd.R_reads' HO_50.out).2.2 | (with_reducible refine Kd.C_alloc ?_ _) | (with_reducible refine Kd.C_drewN ?_ _) | (with_reducible refine Kd.C_drew ?_))); (case side2 => exact (Kd.R_reads' HO_50.out).2.1); rintro e w273 ⟨rfl, hb⟩; refine ⟨_, rfl, ?_⟩; have n0_ := Aside0.mk (Kd.R_below (by (with_reducible repeat (first | apply r_a | apply r_d | apply r_e)); exact HO_50.out) hb); have n1_ := Aside0.mk (Kd.R_below (by (with_reducible repeat (first | apply r_a | apply r_d | apply r_e)); exact HO_54.out) hb); have n2_ := Aside0.mk (Kd.R_below (by (with_reducible repeat (first | apply r_a | apply r_d | apply r_e)); exact HO_59.out) hb); replace BK689 := bbx hb BK689; replace BK701 := bbx hb BK701; replace BK705 := bbx hb BK705; replace BK709 := bbx hb BK709; replace BK713 := bbx hb BK713; replace BK731 := bbx hb BK731; replace BK744 := bbx hb BK744; replace BK763 := bbx hb BK763; replace HB := bsx hb HB; clear HO_50; clear HO_54; clear HO_59; have HO_50 := n0_; have HO_54 := n1_; have HO_59 := n2_; clear n0_ n1_ n2_; (try clear hb); (try clear hb2); (try clear hk); (try clear hi)))
    go_meet
    case rel => refine ⟨_, H', ⟨by have := HJ13.out; have := HJ90.out; have := HJ163.out; have := HJ238.out; first | omega | exact Nat.le_refl _⟩, ⟨by (with_reducible repeat (first | apply r_a | apply r_d | apply r_e)); exact Kd.R_mono HO_54.out (fun _ hk => trivial)⟩, ⟨?_⟩, ⟨?_⟩, ⟨?_⟩, ⟨?_⟩, ⟨?_⟩, ⟨?_⟩, ⟨?_⟩, ⟨?_⟩, ⟨?_⟩, ⟨bB HB⟩⟩ <;> (with_reducible repeat (first | refine g_d ?_ _ | refine g_e ?_ | refine g_a ?_ _ | apply r_a | apply r_d | apply r_e)) <;> first | exact BK689.out | exact BK701.out | exact BK705.out | exact BK709.out | exact BK713.out | exact BK731.out | exact BK744.out | exact BK763.out | exact HO_59.out
  clear HC258
  obtain ⟨kq, HA, HJ257, HO_54, HO_59, BK689, BK701, BK705, BK709, BK713, BK731, BK744, BK763, HB⟩ := hcut
  rcases kq with _ | kj257
  · exact absurd HA.out (by simp [laws_FnOrdersTurn.j5])
  have H := HA.out
  clear HA
  simp only [laws_FnOrdersTurn.j5] at H
  have HC274 := Aside0.mk H
  clear H
  go_upto_if 481 with (fail)
  go_cut [] from 1 to 0 (fun wc => ∃ (kq : Nat), Aside0 (laws_FnOrdersTurn.j6 kq t764 t767 t761 t762 = some r) ∧ Aside0 (kq ≤ kj257) ∧ Aside0 (Kd.R (Kd.int .i64) 3 wc w.heap.size (fun _ => True) v765 t764) ∧ Aside0 (wc.heap[gb689]? = some (.cells #[.int .i64 t686, .int .i64 t687] 26 (0, 0))) ∧ Aside0 (wc.heap[gb701]? = some (.cells #[.int .i64 t698, .int .i64 t699] 32 (0, 0))) ∧ Aside0 (wc.heap[gb705]? = some (.cells #[.int .i64 t702, .int .i64 t703] 32 (0, 0))) ∧ Aside0 (wc.heap[gb709]? = some (.cells #[.int .i64 t706, .int .i64 t707] 32 (0, 0))) ∧ Aside0 (wc.heap[gb713]? = some (.cells #[.int .i64 t710, .int .i64 t711] 32 (0, 0))) ∧ Aside0 (wc.heap[gb731]? = some (.cells #[.int .i64 t728, .int .i64 t729] 26 (0, 0))) ∧ Aside0 (wc.heap[gb744]? = some (.cells #[.int .i64 t740, .int .i64 t741] 26 (0, 0))) ∧ Aside0 (wc.heap[gb763]? = some (.cells #[.int .i64 t761, .int .i64 t762] 26 (0, 0))) ∧ Aside0 (Below w.heap.size w wc))
  case first => as_aux_lemma =>
    have H := HC274.out
    clear HC274
    by_cases c275 : t756 = true
    rotate_left
    · replace c275 := Bool.eq_false_iff.mpr c275
      subst c275
      rw [if_neg (show ¬ (false = true) by decide)] at H
      have H' := Aside0.mk H
      clear H
      go_wp2
      go_meet
      case rel => refine ⟨_, H', ⟨by have := HJ13.out; have := HJ90.out; have := HJ163.out; have := HJ238.out; have := HJ257.out; first | omega | exact Nat.le_refl _⟩, ⟨?_⟩, ⟨?_⟩, ⟨?_⟩, ⟨?_⟩, ⟨?_⟩, ⟨?_⟩, ⟨?_⟩, ⟨?_⟩, ⟨?_⟩, ⟨bB HB⟩⟩ <;> (with_reducible repeat (first | refine g_d ?_ _ | refine g_e ?_ | refine g_a ?_ _ | apply r_a | apply r_d | apply r_e)) <;> first | exact BK689.out | exact BK701.out | exact BK705.out | exact BK709.out | exact BK713.out | exact BK731.out | exact BK744.out | exact BK763.out | exact HO_59.out
    subst c275
    rw [if_pos rfl] at H
    replace H := Option.bind_eq_some_iff.mp H
    obtain ⟨⟨t782, t783⟩, A2760, H⟩ := H
    try dsimp only at H
    have A276 := Aside0.mk A2760
    clear A2760
    replace H := Option.bind_eq_some_iff.mp H
    obtain ⟨⟨t784, t785⟩, A2770, H⟩ := H
    try dsimp only at H
    have A277 := Aside0.mk A2770
    clear A2770
    by_cases c278 : (t753.length : Int) = t743
    rotate_left
    · rw [if_neg c278] at H
      have c278b0 : ((t753.length : Int) == t743) = false := beq_eq_false_iff_ne.mpr c278
      have c278b1 : ((t753.length : Int) != t743) = true := bne_iff_ne.mpr c278
      (first | rw [c278b0] | (simp only [i64_w, i32_w]; rw [c278b0]) | skip)
      rw [HRT.out] at H
      exact absurd H (by simp)
    rw [if_pos c278] at H
    have c278b0 : ((t753.length : Int) == t743) = true := beq_iff_eq.mpr c278
    have c278b1 : ((t753.length : Int) != t743) = false := bne_eq_false_iff_eq.mpr c278
    clear c278
    (first | rw [c278b0] | (simp only [i64_w, i32_w]; rw [c278b0]) | skip)
    by_cases c279 : t783 = true
    rotate_left
    · replace c279 := Bool.eq_false_iff.mpr c279
      subst c279
      rw [if_neg (show ¬ (false = true) by decide)] at H
      rw [HRT.out] at H
      exact absurd H (by simp)
    subst c279
    rw [if_pos rfl] at H
    by_cases c280 : t785 = true
    rotate_left
    · replace c280 := Bool.eq_false_iff.mpr c280
      subst c280
      rw [if_neg (show ¬ (false = true) by decide)] at H
      rw [HRT.out] at H
      exact absurd H (by simp)
    subst c280
    rw [if_pos rfl] at H
    by_cases c281 : t743 ≤ t782
    rotate_left
    · rw [if_neg c281] at H
      have c281b0 : decide (t743 ≤ t782) = false := decide_eq_false c281
      clear c281
      have H' := Aside0.mk H
      clear H
      have hnb295 := eq_false NB744_689.out
      have hnc295 := eq_false NB689_744.out
      have hnb296 := eq_false NB744_701.out
      have hnc296 := eq_false NB701_744.out
      have hnb297 := eq_false NB744_705.out
      have hnc297 := eq_false NB705_744.out
      have hnb298 := eq_false NB744_709.out
      have hnc298 := eq_false NB709_744.out
      have hnb299 := eq_false NB744_713.out
      have hnc299 := eq_false NB713_744.out
      have hnb300 := eq_false NB744_731.out
      have hnc300 := eq_false NB731_744.out
      have hnb301 := eq_false NB744_763.out
      have hnc301 := eq_false NB763_744.out
      have hcz302_0 := cz0 BK744
      have hcz302_1 := cz1 BK744
      have hfz302_0 := blk_frozen BK744.out 0
      have hfz302_1 := blk_frozen BK744.out 1
      go_wp2_with (first | ((with_reducible refine gate_callee (f := 17) rfl ?_); refine goesL_ (some 484) rfl rfl Try.func17 (by kernel_rfl) rfl #[.agg #[.int .i64 t740, .int .i64 t741]] rfl (by (try simp only [m_1, m_2, m_3]); first | done | rfl | (simp only [m_4, m_5]; rfl)) ?_; (with_reducible refine (impl_CountCodes.calls kj257 t740 t741 t782 true _ A276.out).mono ?_); rintro e w303 ⟨rfl, hb⟩; refine ⟨_, rfl, ?_⟩; have n0_ := Aside0.mk (Kd.R_below (by (with_reducible repeat (first | apply r_a | apply r_d | apply r_e)); exact HO_54.out) hb); have n1_ := Aside0.mk (Kd.R_below (by (with_reducible repeat (first | apply r_a | apply r_d | apply r_e)); exact HO_59.out) hb); replace BK689 := bbx hb BK689; replace BK701 := bbx hb BK701; replace BK705 := bbx hb BK705; replace BK709 := bbx hb BK709; replace BK713 := bbx hb BK713; replace BK731 := bbx hb BK731; replace BK744 := bbx hb BK744; replace BK763 := bbx hb BK763; replace HB := bsx hb HB; clear HO_54; clear HO_59; have HO_54 := n0_; have HO_59 := n1_; clear n0_ n1_; (try clear hb); (try clear hb2); (try clear hk); (try clear hi); have hcz304_0 := cz0 BK744; have hcz304_1 := cz1 BK744; have hfz304_0 := blk_frozen BK744.out 0; have hfz304_1 := blk_frozen BK744.out 1; obtain ⟨Ao305, co305, eo305⟩ := Kd.R_slice HO_54.out; subst eo305) | ((with_reducible refine gate_callee (f := 29) rfl ?_); refine goesL_ (some 490) rfl rfl Try.func29 (by kernel_rfl) rfl #[.agg #[.int .i64 t740, .int .i64 t741], .slice Ao305 t753.length co305] rfl (by (try simp only [m_1, m_2, m_3]); first | done | rfl | (simp only [m_4, m_5]; rfl)) ?_; (with_reducible refine (impl_IsTurnOrder.calls kj257 t740 t741 _ _ t753 t784 true _ ?side1 ?side2 A277.out).mono ?_); (case side1 => repeat (first | exact (Kd.R_reads' HO_54.out).2.2 | (with_reducible refine Kd.C_alloc ?_ _) | (with_reducible refine Kd.C_drewN ?_ _) | (with_reducible refine Kd.C_drew ?_))); (case side2 => exact (Kd.R_reads' HO_54.out).2.1); rintro e w306 ⟨rfl, hb⟩; refine ⟨_, rfl, ?_⟩; have n0_ := Aside0.mk (Kd.R_below (by (with_reducible repeat (first | apply r_a | apply r_d | apply r_e)); exact HO_54.out) hb); have n1_ := Aside0.mk (Kd.R_below (by (with_reducible repeat (first | apply r_a | apply r_d | apply r_e)); exact HO_59.out) hb); replace BK689 := bbx hb BK689; replace BK701 := bbx hb BK701; replace BK705 := bbx hb BK705; replace BK709 := bbx hb BK709; replace BK713 := bbx hb BK713; replace BK731 := bbx hb BK731; replace BK744 := bbx hb BK744; replace BK763 := bbx hb BK763; replace HB := bsx hb HB; clear HO_54; clear HO_59; have HO_54 := n0_; have HO_59 := n1_; clear n0_ n1_; (try clear hb); (try clear hb2); (try clear hk); (try clear hi)))
      go_meet
      case rel => refine ⟨_, H', ⟨by have := HJ13.out; have := HJ90.out; have := HJ163.out; have := HJ238.out; have := HJ257.out; first | omega | exact Nat.le_refl _⟩, ⟨?_⟩, ⟨?_⟩, ⟨?_⟩, ⟨?_⟩, ⟨?_⟩, ⟨?_⟩, ⟨?_⟩, ⟨?_⟩, ⟨?_⟩, ⟨bB HB⟩⟩ <;> (with_reducible repeat (first | refine g_d ?_ _ | refine g_e ?_ | refine g_a ?_ _ | apply r_a | apply r_d | apply r_e)) <;> first | exact BK689.out | exact BK701.out | exact BK705.out | exact BK709.out | exact BK713.out | exact BK731.out | exact BK744.out | exact BK763.out | exact HO_59.out
    rw [if_pos c281] at H
    have c281b0 : decide (t743 ≤ t782) = true := decide_eq_true c281
    clear c281
    by_cases c282 : t784 = true
    rotate_left
    · replace c282 := Bool.eq_false_iff.mpr c282
      subst c282
      rw [if_neg (show ¬ (false = true) by decide)] at H
      rw [HRT.out] at H
      exact absurd H (by simp)
    subst c282
    rw [if_pos rfl] at H
    have H' := Aside0.mk H
    clear H
    have hnb283 := eq_false NB744_689.out
    have hnc283 := eq_false NB689_744.out
    have hnb284 := eq_false NB744_701.out
    have hnc284 := eq_false NB701_744.out
    have hnb285 := eq_false NB744_705.out
    have hnc285 := eq_false NB705_744.out
    have hnb286 := eq_false NB744_709.out
    have hnc286 := eq_false NB709_744.out
    have hnb287 := eq_false NB744_713.out
    have hnc287 := eq_false NB713_744.out
    have hnb288 := eq_false NB744_731.out
    have hnc288 := eq_false NB731_744.out
    have hnb289 := eq_false NB744_763.out
    have hnc289 := eq_false NB763_744.out
    have hcz290_0 := cz0 BK744
    have hcz290_1 := cz1 BK744
    have hfz290_0 := blk_frozen BK744.out 0
    have hfz290_1 := blk_frozen BK744.out 1
    go_wp2_with (first | ((with_reducible refine gate_callee (f := 17) rfl ?_); refine goesL_ (some 484) rfl rfl Try.func17 (by kernel_rfl) rfl #[.agg #[.int .i64 t740, .int .i64 t741]] rfl (by (try simp only [m_1, m_2, m_3]); first | done | rfl | (simp only [m_4, m_5]; rfl)) ?_; (with_reducible refine (impl_CountCodes.calls kj257 t740 t741 t782 true _ A276.out).mono ?_); rintro e w291 ⟨rfl, hb⟩; refine ⟨_, rfl, ?_⟩; have n0_ := Aside0.mk (Kd.R_below (by (with_reducible repeat (first | apply r_a | apply r_d | apply r_e)); exact HO_54.out) hb); have n1_ := Aside0.mk (Kd.R_below (by (with_reducible repeat (first | apply r_a | apply r_d | apply r_e)); exact HO_59.out) hb); replace BK689 := bbx hb BK689; replace BK701 := bbx hb BK701; replace BK705 := bbx hb BK705; replace BK709 := bbx hb BK709; replace BK713 := bbx hb BK713; replace BK731 := bbx hb BK731; replace BK744 := bbx hb BK744; replace BK763 := bbx hb BK763; replace HB := bsx hb HB; clear HO_54; clear HO_59; have HO_54 := n0_; have HO_59 := n1_; clear n0_ n1_; (try clear hb); (try clear hb2); (try clear hk); (try clear hi); have hcz292_0 := cz0 BK744; have hcz292_1 := cz1 BK744; have hfz292_0 := blk_frozen BK744.out 0; have hfz292_1 := blk_frozen BK744.out 1; obtain ⟨Ao293, co293, eo293⟩ := Kd.R_slice HO_54.out; subst eo293) | ((with_reducible refine gate_callee (f := 29) rfl ?_); refine goesL_ (some 490) rfl rfl Try.func29 (by kernel_rfl) rfl #[.agg #[.int .i64 t740, .int .i64 t741], .slice Ao293 t753.length co293] rfl (by (try simp only [m_1, m_2, m_3]); first | done | rfl | (simp only [m_4, m_5]; rfl)) ?_; (with_reducible refine (impl_IsTurnOrder.calls kj257 t740 t741 _ _ t753 true true _ ?side1 ?side2 A277.out).mono ?_); (case side1 => repeat (first | exact (Kd.R_reads' HO_54.out).2.2 | (with_reducible refine Kd.C_alloc ?_ _) | (with_reducible refine Kd.C_drewN ?_ _) | (with_reducible refine Kd.C_drew ?_))); (case side2 => exact (Kd.R_reads' HO_54.out).2.1); rintro e w294 ⟨rfl, hb⟩; refine ⟨_, rfl, ?_⟩; have n0_ := Aside0.mk (Kd.R_below (by (with_reducible repeat (first | apply r_a | apply r_d | apply r_e)); exact HO_54.out) hb); have n1_ := Aside0.mk (Kd.R_below (by (with_reducible repeat (first | apply r_a | apply r_d | apply r_e)); exact HO_59.out) hb); replace BK689 := bbx hb BK689; replace BK701 := bbx hb BK701; replace BK705 := bbx hb BK705; replace BK709 := bbx hb BK709; replace BK713 := bbx hb BK713; replace BK731 := bbx hb BK731; replace BK744 := bbx hb BK744; replace BK763 := bbx hb BK763; replace HB := bsx hb HB; clear HO_54; clear HO_59; have HO_54 := n0_; have HO_59 := n1_; clear n0_ n1_; (try clear hb); (try clear hb2); (try clear hk); (try clear hi)))
    go_meet
    case rel => refine ⟨_, H', ⟨by have := HJ13.out; have := HJ90.out; have := HJ163.out; have := HJ238.out; have := HJ257.out; first | omega | exact Nat.le_refl _⟩, ⟨?_⟩, ⟨?_⟩, ⟨?_⟩, ⟨?_⟩, ⟨?_⟩, ⟨?_⟩, ⟨?_⟩, ⟨?_⟩, ⟨?_⟩, ⟨bB HB⟩⟩ <;> (with_reducible repeat (first | refine g_d ?_ _ | refine g_e ?_ | refine g_a ?_ _ | apply r_a | apply r_d | apply r_e)) <;> first | exact BK689.out | exact BK701.out | exact BK705.out | exact BK709.out | exact BK713.out | exact BK731.out | exact BK744.out | exact BK763.out | exact HO_59.out
  clear HC274
  obtain ⟨kq, HA, HJ273, HO_59, BK689, BK701, BK705, BK709, BK713, BK731, BK744, BK763, HB⟩ := hcut
  rcases kq with _ | kj273
  · exact absurd HA.out (by simp [laws_FnOrdersTurn.j6])
  have H := HA.out
  clear HA
  simp only [laws_FnOrdersTurn.j6] at H
  by_cases c307 : t767 = true
  rotate_left
  · replace c307 := Bool.eq_false_iff.mpr c307
    subst c307
    rw [if_neg (show ¬ (false = true) by decide)] at H
    obtain rfl := Option.some.inj H
    go_wp2
    go_ret
    exact ⟨by first | rfl | (simp [errW_none, errW_some] <;> rfl) | (simp [*, errW_none, errW_some] <;> rfl), bB HB⟩

  subst c307
  rw [if_pos rfl] at H
  replace H := Option.bind_eq_some_iff.mp H
  obtain ⟨⟨t786, t787⟩, A3080, H⟩ := H
  try dsimp only at H
  have A308 := Aside0.mk A3080
  clear A3080
  have H' := Aside0.mk H
  clear H
  have hnb309 := eq_false NB763_689.out
  have hnc309 := eq_false NB689_763.out
  have hnb310 := eq_false NB763_701.out
  have hnc310 := eq_false NB701_763.out
  have hnb311 := eq_false NB763_705.out
  have hnc311 := eq_false NB705_763.out
  have hnb312 := eq_false NB763_709.out
  have hnc312 := eq_false NB709_763.out
  have hnb313 := eq_false NB763_713.out
  have hnc313 := eq_false NB713_763.out
  have hnb314 := eq_false NB763_731.out
  have hnc314 := eq_false NB731_763.out
  have hnb315 := eq_false NB763_744.out
  have hnc315 := eq_false NB744_763.out
  have hcz316_0 := cz0 BK763
  have hcz316_1 := cz1 BK763
  have hfz316_0 := blk_frozen BK763.out 0
  have hfz316_1 := blk_frozen BK763.out 1
  go_wp2_with (first | ((with_reducible refine gate_callee (f := 17) rfl ?_); refine goesL_ (some 517) rfl rfl Try.func17 (by kernel_rfl) rfl #[.agg #[.int .i64 t761, .int .i64 t762]] rfl (by (try simp only [m_1, m_2, m_3]); first | done | rfl | (simp only [m_4, m_5]; rfl)) ?_; (with_reducible refine (impl_CountCodes.calls kj273 t761 t762 t786 t787 _ A308.out).mono ?_); rintro e w317 ⟨rfl, hb⟩; refine ⟨_, rfl, ?_⟩; have n0_ := Aside0.mk (Kd.R_below (by (with_reducible repeat (first | apply r_a | apply r_d | apply r_e)); exact HO_59.out) hb); replace BK689 := bbx hb BK689; replace BK701 := bbx hb BK701; replace BK705 := bbx hb BK705; replace BK709 := bbx hb BK709; replace BK713 := bbx hb BK713; replace BK731 := bbx hb BK731; replace BK744 := bbx hb BK744; replace BK763 := bbx hb BK763; replace HB := bsx hb HB; clear HO_59; have HO_59 := n0_; clear n0_; (try clear hb); (try clear hb2); (try clear hk); (try clear hi); obtain ⟨Ao318, co318, eo318⟩ := Kd.R_slice HO_59.out; subst eo318))
  go_loopg [75, 522] kj273 (fun kq v75 v522 w' => ∃ (x75_7 : Int) (x522_7 : Int), v75 = .int .i64 x75_7 ∧ v522 = .int .i64 x522_7 ∧ Aside0 (laws_FnOrdersTurn.l0 kq t764 t786 t787 x75_7 t764 (t764.length : Int) x522_7 t761 t762 = some r) ∧ Aside0 (kq ≤ kj273) ∧ Aside0 (Kd.R (Kd.int .i64) 3 w' w.heap.size (fun _ => True) (.slice Ao318 t764.length co318) t764) ∧ Aside0 (Kd.R (Kd.int .i64) 3 w' w.heap.size (fun _ => True) (.slice Ao318 t764.length co318) t764) ∧ Aside0 (w'.heap[gb689]? = some (.cells #[.int .i64 t686, .int .i64 t687] 26 (0, 0))) ∧ Aside0 (w'.heap[gb701]? = some (.cells #[.int .i64 t698, .int .i64 t699] 32 (0, 0))) ∧ Aside0 (w'.heap[gb705]? = some (.cells #[.int .i64 t702, .int .i64 t703] 32 (0, 0))) ∧ Aside0 (w'.heap[gb709]? = some (.cells #[.int .i64 t706, .int .i64 t707] 32 (0, 0))) ∧ Aside0 (w'.heap[gb713]? = some (.cells #[.int .i64 t710, .int .i64 t711] 32 (0, 0))) ∧ Aside0 (w'.heap[gb731]? = some (.cells #[.int .i64 t728, .int .i64 t729] 26 (0, 0))) ∧ Aside0 (w'.heap[gb744]? = some (.cells #[.int .i64 t740, .int .i64 t741] 26 (0, 0))) ∧ Aside0 (w'.heap[gb763]? = some (.cells #[.int .i64 t761, .int .i64 t762] 26 (0, 0))) ∧ Aside0 (Below w.heap.size w w'))
  case atStart => refine ⟨(0), (0), (by first | rfl | (simp; done) | (simp [*]; done)), (by first | rfl | (simp; done) | (simp [*]; done)), H', ⟨Nat.le_refl _⟩, ⟨?_⟩, ⟨?_⟩, ⟨?_⟩, ⟨?_⟩, ⟨?_⟩, ⟨?_⟩, ⟨?_⟩, ⟨?_⟩, ⟨?_⟩, ⟨?_⟩, ⟨bB HB⟩⟩ <;> (with_reducible repeat (first | refine g_d ?_ _ | refine g_e ?_ | refine g_a ?_ _ | apply r_a | apply r_d | apply r_e)) <;> first | exact BK689.out | exact BK701.out | exact BK705.out | exact BK709.out | exact BK713.out | exact BK731.out | exact BK744.out | exact BK763.out | exact HO_59.out
  clear H'
  try clear c307
  try clear hcz316_0
  try clear hcz316_1
  try clear hfz316_0
  try clear hfz316_1
  obtain ⟨x75_7, x522_7, rfl, rfl, HA, HK7, HO_59, HO_520, BK689, BK701, BK705, BK709, BK713, BK731, BK744, BK763, HB⟩ := hrel
  rcases gk with _ | k7
  · exact absurd HA.out (by simp [laws_FnOrdersTurn.l0])
  have H := HA.out
  clear HA
  simp only [laws_FnOrdersTurn.l0] at H
  by_cases c319 : x522_7 < (t764.length : Int)
  · rw [if_pos c319] at H
    have c319b0 : decide (x522_7 < (t764.length : Int)) = true := decide_eq_true c319
    clear c319
    by_cases c320 : 0 ≤ x522_7
    · rw [if_pos c320] at H
      have c320b0 : decide (0 ≤ x522_7) = true := decide_eq_true c320
      clear c320
      by_cases c321 : x522_7 < (t764.length : Int)
      · rw [if_pos c321] at H
        have c321b0 : decide (x522_7 < (t764.length : Int)) = true := decide_eq_true c321
        clear c321
        have H' := Aside0.mk H
        clear H
        have p788 : 0 ≤ (x522_7 : Int) := of_decide_eq_true (by first | (with_reducible assumption) | assumption)
        have q788 : x522_7 < (t764.length : Int) := of_decide_eq_true (by first | (with_reducible assumption) | assumption)
        obtain ⟨ad788, e788, hx788_0⟩ := Kd.at_int (Kd.R_reads' HO_520.out).2.2 x522_7 p788 q788
        cases e788
        replace p788 := eq_true p788
        replace q788 := eq_true q788
        go_wp2
        go_roundg k7
        case measure => have := HJ13.out; have := HJ90.out; have := HJ163.out; have := HJ238.out; have := HJ257.out; have := HJ273.out; have := HK7.out; omega
        case rel => refine ⟨(wrap64 (x75_7 + (rd t764 x522_7))), (wrap64 (x522_7 + 1)), (by first | rfl | (simp; done) | (simp [*]; done)), (by first | rfl | (simp; done) | (simp [*]; done)), H', ⟨by have := HJ13.out; have := HJ90.out; have := HJ163.out; have := HJ238.out; have := HJ257.out; have := HJ273.out; have := HK7.out; omega⟩, ⟨?_⟩, ⟨?_⟩, ⟨?_⟩, ⟨?_⟩, ⟨?_⟩, ⟨?_⟩, ⟨?_⟩, ⟨?_⟩, ⟨?_⟩, ⟨?_⟩, ⟨bB HB⟩⟩ <;> (with_reducible repeat (first | refine g_d ?_ _ | refine g_e ?_ | refine g_a ?_ _ | apply r_a | apply r_d | apply r_e)) <;> first | exact BK689.out | exact BK701.out | exact BK705.out | exact BK709.out | exact BK713.out | exact BK731.out | exact BK744.out | exact BK763.out | exact HO_59.out | exact HO_520.out
      · rw [if_neg c321] at H
        exact absurd H (by simp)
    · rw [if_neg c320] at H
      exact absurd H (by simp)
  rw [if_neg c319] at H
  have c319b0 : decide (x522_7 < (t764.length : Int)) = false := decide_eq_false c319
  clear c319
  by_cases c322 : t787 = true
  rotate_left
  · replace c322 := Bool.eq_false_iff.mpr c322
    subst c322
    rw [if_neg (show ¬ (false = true) by decide)] at H
    rw [HRT.out] at H
    exact absurd H (by simp)
  subst c322
  rw [if_pos rfl] at H
  by_cases c323 : x75_7 = t786
  rotate_left
  · rw [if_neg c323] at H
    have c323b0 : (x75_7 == t786) = false := beq_eq_false_iff_ne.mpr c323
    have c323b1 : (x75_7 != t786) = true := bne_iff_ne.mpr c323
    rw [HRT.out] at H
    exact absurd H (by simp)
  rw [if_pos c323] at H
  have c323b0 : (x75_7 == t786) = true := beq_iff_eq.mpr c323
  have c323b1 : (x75_7 != t786) = false := bne_eq_false_iff_eq.mpr c323
  clear c323
  by_cases c324 : (t764.length : Int) = t761
  rotate_left
  · rw [if_neg c324] at H
    have c324b0 : ((t764.length : Int) == t761) = false := beq_eq_false_iff_ne.mpr c324
    have c324b1 : ((t764.length : Int) != t761) = true := bne_iff_ne.mpr c324
    rw [HRT.out] at H
    exact absurd H (by simp)
  rw [if_pos c324] at H
  have c324b0 : ((t764.length : Int) == t761) = true := beq_iff_eq.mpr c324
  have c324b1 : ((t764.length : Int) != t761) = false := bne_eq_false_iff_eq.mpr c324
  clear c324
  by_cases c325 : 0 < (t764.length : Int)
  rotate_left
  · rw [if_neg c325] at H
    exact absurd H (by simp)
  rw [if_pos c325] at H
  have c325b0 : decide (0 < (t764.length : Int)) = true := decide_eq_true c325
  have c325b1 : decide (0 < t764.length) = true := decide_eq_true (by omega)
  clear c325
  obtain rfl := Option.some.inj H
  try go_wp2
  have n0_ := Aside0.mk (r_e HO_59.out)
  have n1_ := Aside0.mk (r_e HO_520.out)
  have n2_ := Aside0.mk (g_e BK689.out)
  have n3_ := Aside0.mk (g_e BK701.out)
  have n4_ := Aside0.mk (g_e BK705.out)
  have n5_ := Aside0.mk (g_e BK709.out)
  have n6_ := Aside0.mk (g_e BK713.out)
  have n7_ := Aside0.mk (g_e BK731.out)
  have n8_ := Aside0.mk (g_e BK744.out)
  have n9_ := Aside0.mk (g_e BK763.out)
  have n10_ := Aside0.mk (b_e HB.out)
  clear HO_59
  clear HO_520
  clear BK689
  clear BK701
  clear BK705
  clear BK709
  clear BK713
  clear BK731
  clear BK744
  clear BK763
  clear HB
  have HO_59 := n0_
  have HO_520 := n1_
  have BK689 := n2_
  have BK701 := n3_
  have BK705 := n4_
  have BK709 := n5_
  have BK713 := n6_
  have BK731 := n7_
  have BK744 := n8_
  have BK763 := n9_
  have HB := n10_
  clear n0_ n1_ n2_ n3_ n4_ n5_ n6_ n7_ n8_ n9_ n10_
  have p789 : 0 ≤ (0 : Int) := (by omega)
  have q789 : 0 < (t764.length : Int) := of_decide_eq_true (by first | (with_reducible assumption) | assumption)
  obtain ⟨ad789, e789, hx789_0⟩ := Kd.at_int (Kd.R_reads' HO_59.out).2.2 0 p789 q789
  cases e789
  have qi789 : (0 < t764.length) = True := eq_true (by omega)
  (try rw [show ((0 : Int)).toNat = 0 from rfl] at hx789_0)
  (try rw [Addr.add_zero'] at hx789_0)
  replace p789 := eq_true p789
  replace q789 := eq_true q789
  refine start_ (n := 22) (S := fun w' => w'.cell? ⟨gb763, 0, none⟩ = some (.int .i64 t761) ∧ w'.cell? ⟨gb763, 1, none⟩ = some (.int .i64 t762) ∧ w'.cell? ad789 = some (.int .i64 (rd t764 0))) (ds := []) (bs_ 22 0) (by kernel_rfl) rfl rfl ⟨(blk_cell BK763.out 0).trans rfl, (blk_cell BK763.out 1).trans rfl, hx789_0⟩ (fun hHeld => ?_); refine with_tabW laws_FnOrdersTurn.tab64 laws_FnOrdersTurn.bits64 (fun HT_ HW_ => ?_)
  generalize wr.drew = w326 at HO_59 HO_520 BK689 BK701 BK705 BK709 BK713 BK731 BK744 BK763 HB hx789_0 hHeld ⊢
  refine pua 0 530 (bs_ 22 1) HT_ ?_
  refine pua 1 531 (bs_ 22 3) HT_ ?_
  refine pua 2 532 (bs_ 22 7) HT_ ?_
  refine pua 3 533 (bs_ 22 15) HT_ ?_
  refine pua 4 534 (bs_ 22 31) HT_ ?_
  refine pua 5 535 (bs_ 22 63) HT_ ?_
  refine pua 6 536 (bs_ 22 127) HT_ ?_
  refine pua 7 537 (bs_ 22 255) HT_ ?_
  refine pua 8 538 (bs_ 22 511) HT_ ?_
  refine pua 9 539 (bs_ 22 1023) HT_ ?_
  refine tk_ 10 540 (bs_ 22 2047) rfl rfl HT_ HW_ (by kernel_rfl) (fun _ _ _ h => h) (by rfl) hHeld (by rintro w' ⟨s0, s1, s2⟩; go_simp; with_reducible rfl) (by simp only [Act.put, s_1, s_2, s_3, i64_w, i32_w]; rfl) ?_
  refine pua 11 541 (bs_ 22 4095) HT_ ?_
  refine pua 12 542 (bs_ 22 8191) HT_ ?_
  refine pua 13 543 (bs_ 22 16383) HT_ ?_
  refine pua 14 544 (bs_ 22 32767) HT_ ?_
  refine pua 15 545 (bs_ 22 65535) HT_ ?_
  refine pua 17 547 (bs_ 22 196607) HT_ ?_
  refine tk_ 16 546 (bs_ 22 262143) rfl rfl HT_ HW_ (by kernel_rfl) (fun _ _ _ h => h) (by rfl) hHeld (by rintro w' ⟨s0, s1, s2⟩; go_simp; with_reducible rfl) (by simp only [Act.put, s_1, s_2, s_3, i64_w, i32_w]; rfl) ?_
  refine tk_ 18 548 (bs_ 22 524287) rfl rfl HT_ HW_ (by kernel_rfl) (fun _ _ _ h => h) (by rfl) hHeld (by rintro w' ⟨s0, s1, s2⟩; go_simp; with_reducible rfl) (by simp only [Act.put, s_1, s_2, s_3, i64_w, i32_w]; rfl) ?_
  refine pua 19 549 (bs_ 22 1048575) HT_ ?_
  refine pua 20 550 (bs_ 22 2097151) HT_ ?_
  refine pua 21 4 (bs_ 22 4194303) HT_ ?_
  refine done_ (done_of HT_.out (by kernel_rfl)) ?_
  try go_wp2
  go_ret
  exact ⟨by first | rfl | (simp [errW_none, errW_some] <;> rfl) | (simp [*, errW_none, errW_some] <;> rfl), bB HB⟩
/-- THE ONE PURE STATEMENT of laws_FnOrdersTurn: yours. -/
def laws_FnOrdersTurn.Pure : Prop := ∀ (l0 : List Int) (l1 : List Int), l0.length ≤ maxLen → l0.length * 1 ≤ 140737488351232 → (∀ x ∈ l0, (Lit.int .u8 x).wf = true) → l1.length ≤ maxLen → l1.length * 1 ≤ 140737488351232 → (∀ x ∈ l1, (Lit.int .u8 x).wf = true) → ∃ k, laws_FnOrdersTurn.f k l0 l1 = some true
theorem laws_FnOrdersTurn.walk (P : laws_FnOrdersTurn.Pure) (a0 : Option Addr) (len0 cap0 : Nat) (z0 : List Int) (a1 : Option Addr) (len1 cap1 : Nat) (z1 : List Int) (w : World) (w0 : (a0 = none ∧ len0 = 0 ∧ cap0 = 0 ∧ z0 = []) ∨ ∃ x, a0 = some x ∧ len0 ≤ cap0 ∧ cap0 ≤ maxLen ∧ z0.length = cap0 ∧ (∀ i, i < z0.length → w.cell? (x.add i) = some (.int .u8 (z0.getD i 0))) ∧ ∀ n ∈ z0, (Lit.int .u8 n).wf = true) (y0 : len0 * 1 ≤ 140737488351232) (w1 : (a1 = none ∧ len1 = 0 ∧ cap1 = 0 ∧ z1 = []) ∨ ∃ x, a1 = some x ∧ len1 ≤ cap1 ∧ cap1 ≤ maxLen ∧ z1.length = cap1 ∧ (∀ i, i < z1.length → w.cell? (x.add i) = some (.int .u8 (z1.getD i 0))) ∧ ∀ n ∈ z1, (Lit.int .u8 n).wf = true) (y1 : len1 * 1 ≤ 140737488351232) :
    Calls Try.prog 5 #[.slice a0 len0 cap0, .slice a1 len1 cap1] w fun e w' => e = .returned (.bool true) ∧ Below w.heap.size w w' := by
  obtain ⟨l0, rfl, hr0, hm0, hw0, hc0⟩ := ReadsInt.ofRowC w0
  obtain ⟨l1, rfl, hr1, hm1, hw1, hc1⟩ := ReadsInt.ofRowC w1
  obtain ⟨k, h⟩ := P l0 l1 hm0 y0 hw0 hm1 y1 hw1
  refine (laws_FnOrdersTurn.calls k _ _ l0 _ _ l1 true w (Kd.C_of_reads (d := (0 : Int)) (h1 := fun _ => rfl) hr0) hc0 (Kd.C_of_reads (d := (0 : Int)) (h1 := fun _ => rfl) hr1) hc1 h).mono ?_
  rintro e w' ⟨rfl, hd⟩
  exact ⟨rfl, hd⟩

end Go.Proofs.Ytijbngmlaggclaa.P
