-- Texts of this session's own program (wip/dr.py), which runs the kit's printer.
import Derived.Test.YtiacdekbleebjaaPx0
import Derived.Test.YtiacdekbleebjaaPx20
import Derived.Test.YtiacdekbleebjaaPx31
import Derived.Test.YtiacdekbleebjaaPx46
import Derived.Test.YtiacdekbleebjaaPx60
import Derived.Test.YtiacdekbleebjaaPx64
import Derived.Test.YtiacdekbleebjaaPx72
namespace Go.Proofs.Ytiacdekbleebjaa.P
open Go.RowKit Go.Proofs.YtiacdekbleebjaaW.PrintWords Go.Proofs.YtiacdekbleebjaaW.PrintLast Go.Proofs.YtiacdekbleebjaaW.PrintMore
attribute [local go_sem] max2_int min2_int max_two min_two max_three min_three max_four min_four   -- for this text's walks alone
set_option linter.unusedVariables false
set_option linter.unusedSimpArgs false

/-! ### laws_FnKnobsTurnOfAll: function 4 -/
mutual
def laws_FnKnobsTurnOfAll.j0 : Nat → ByteArray → ByteArray → ByteArray → Int → Int → ByteArray → List Int → Bool → Int → Int → List (List Int) → Int → Int → List (List Int) → Int → Int → List (List Int) → Option (Bool)
  | 0, _, _, _, _, _, _, _, _, _, _, _, _, _, _, _, _, _ => none
  | k + 1, x1, x2, x4, x5, x6, x8, x9, x89, x526000, x526001, x526002, x527000, x527001, x527002, x528000, x528001, x528002 => if x89 = true then (some true) else ((impl_FewestKnobs.f k x526000 x526001 x526002 x1 x2).bind fun bt528 => ((spec_FewestKnobs.f k x526000 x526001 x526002 x1 x2).bind fun bt530 => ((impl_FirstKnobs.f k x526000 x526001 x526002 x1 x2).bind fun bt532 => ((spec_FirstKnobs.f k x526000 x526001 x526002 x1 x2).bind fun bt536 => ((impl_TimesFor.f k x526000 x526001 x526002 x1 x2).bind fun bt540 => ((spec_TimesFor.f k x526000 x526001 x526002 x1 x2).bind fun bt544 => (if (bt528.2 != bt530.2) = true then (laws_FnKnobsTurnOfAll.j1 k x1 x2 x4 x5 x6 x8 x9 bt528.1 bt528.2 bt532.1 bt540.1 true x526000 x526001 x526002 x527000 x527001 x527002 x528000 x528001 x528002) else (if bt528.1 = bt530.1 then (if (bt532.2 != bt536.2) = true then (laws_FnKnobsTurnOfAll.j1 k x1 x2 x4 x5 x6 x8 x9 bt528.1 bt528.2 bt532.1 bt540.1 true x526000 x526001 x526002 x527000 x527001 x527002 x528000 x528001 x528002) else ((laws_eTurns.f k bt532.1 bt536.1).bind fun t548 => (if t548 = true then (if (bt540.2 != bt544.2) = true then (laws_FnKnobsTurnOfAll.j1 k x1 x2 x4 x5 x6 x8 x9 bt528.1 bt528.2 bt532.1 bt540.1 true x526000 x526001 x526002 x527000 x527001 x527002 x528000 x528001 x528002) else ((laws_eSame.f k bt540.1 bt544.1).bind fun t549 => (if t549 = true then (if (bt532.2 != bt528.2) = true then (laws_FnKnobsTurnOfAll.j1 k x1 x2 x4 x5 x6 x8 x9 bt528.1 bt528.2 bt532.1 bt540.1 true x526000 x526001 x526002 x527000 x527001 x527002 x528000 x528001 x528002) else (if (bt540.2 != bt528.2) = true then (laws_FnKnobsTurnOfAll.j1 k x1 x2 x4 x5 x6 x8 x9 bt528.1 bt528.2 bt532.1 bt540.1 true x526000 x526001 x526002 x527000 x527001 x527002 x528000 x528001 x528002) else ((impl_AreGears.f k x526000 x526001 x526002).bind fun t550 => ((spec_AreGears.f k x526000 x526001 x526002).bind fun t551 => (if (t550 != t551) = true then (laws_FnKnobsTurnOfAll.j1 k x1 x2 x4 x5 x6 x8 x9 bt528.1 bt528.2 bt532.1 bt540.1 true x526000 x526001 x526002 x527000 x527001 x527002 x528000 x528001 x528002) else (if bt528.2 = true then ((impl_AreGears.f k x526000 x526001 x526002).bind fun t552 => (laws_FnKnobsTurnOfAll.j1 k x1 x2 x4 x5 x6 x8 x9 bt528.1 bt528.2 bt532.1 bt540.1 (!t552) x526000 x526001 x526002 x527000 x527001 x527002 x528000 x528001 x528002)) else (laws_FnKnobsTurnOfAll.j1 k x1 x2 x4 x5 x6 x8 x9 bt528.1 bt528.2 bt532.1 bt540.1 false x526000 x526001 x526002 x527000 x527001 x527002 x528000 x528001 x528002))))))) else (laws_FnKnobsTurnOfAll.j1 k x1 x2 x4 x5 x6 x8 x9 bt528.1 bt528.2 bt532.1 bt540.1 true x526000 x526001 x526002 x527000 x527001 x527002 x528000 x528001 x528002)))) else (laws_FnKnobsTurnOfAll.j1 k x1 x2 x4 x5 x6 x8 x9 bt528.1 bt528.2 bt532.1 bt540.1 true x526000 x526001 x526002 x527000 x527001 x527002 x528000 x528001 x528002)))) else (laws_FnKnobsTurnOfAll.j1 k x1 x2 x4 x5 x6 x8 x9 bt528.1 bt528.2 bt532.1 bt540.1 true x526000 x526001 x526002 x527000 x527001 x527002 x528000 x528001 x528002)))))))))
def laws_FnKnobsTurnOfAll.j1 : Nat → ByteArray → ByteArray → ByteArray → Int → Int → ByteArray → List Int → Int → Bool → List (S48) → List Int → Bool → Int → Int → List (List Int) → Int → Int → List (List Int) → Int → Int → List (List Int) → Option (Bool)
  | 0, _, _, _, _, _, _, _, _, _, _, _, _, _, _, _, _, _, _, _, _, _ => none
  | k + 1, x1, x2, x4, x5, x6, x8, x9, x21, x22, x25, x29, x186, x526000, x526001, x526002, x527000, x527001, x527002, x528000, x528001, x528002 => if x186 = true then (some false) else (if x22 = true then (laws_FnKnobsTurnOfAll.l0 k x1 x2 x4 x5 x6 x8 x9 x21 x25 x29 x1 x25 (x25.length : Int) 0 x526000 x526001 x526002 x527000 x527001 x527002 x528000 x528001 x528002) else (laws_FnKnobsTurnOfAll.j5 k x4 x5 x6 x8 x9 x527000 x527001 x527002 x528000 x528001 x528002))
def laws_FnKnobsTurnOfAll.j5 : Nat → ByteArray → Int → Int → ByteArray → List Int → Int → Int → List (List Int) → Int → Int → List (List Int) → Option (Bool)
  | 0, _, _, _, _, _, _, _, _, _, _, _ => none
  | k + 1, x4, x5, x6, x8, x9, x527000, x527001, x527002, x528000, x528001, x528002 => (impl_TurnKnob.f k x527000 x527001 x527002 x4 x5 x6).bind fun bt566 => ((spec_TurnKnob.f k x527000 x527001 x527002 x4 x5 x6).bind fun bt568 => ((impl_KnobsAfter.f k x528000 x528001 x528002 x8 x9).bind fun bt570 => ((spec_KnobsAfter.f k x528000 x528001 x528002 x8 x9).bind fun bt572 => (if (bt566.2 != bt568.2) = true then (laws_FnKnobsTurnOfAll.j6 k x4 x5 x6 x8 x9 bt566.1 bt566.2 bt570.1 bt570.2 true x527000 x527001 x527002 x528000 x528001 x528002) else (if bt566.1.toList = bt568.1.toList then (if (bt570.2 != bt572.2) = true then (laws_FnKnobsTurnOfAll.j6 k x4 x5 x6 x8 x9 bt566.1 bt566.2 bt570.1 bt570.2 true x527000 x527001 x527002 x528000 x528001 x528002) else (laws_FnKnobsTurnOfAll.j6 k x4 x5 x6 x8 x9 bt566.1 bt566.2 bt570.1 bt570.2 (bt570.1.toList != bt572.1.toList) x527000 x527001 x527002 x528000 x528001 x528002)) else (laws_FnKnobsTurnOfAll.j6 k x4 x5 x6 x8 x9 bt566.1 bt566.2 bt570.1 bt570.2 true x527000 x527001 x527002 x528000 x528001 x528002))))))
def laws_FnKnobsTurnOfAll.j6 : Nat → ByteArray → Int → Int → ByteArray → List Int → ByteArray → Bool → ByteArray → Bool → Bool → Int → Int → List (List Int) → Int → Int → List (List Int) → Option (Bool)
  | 0, _, _, _, _, _, _, _, _, _, _, _, _, _, _, _, _ => none
  | k + 1, x4, x5, x6, x8, x9, x48, x49, x52, x53, x354, x527000, x527001, x527002, x528000, x528001, x528002 => if x354 = true then (some false) else (if x49 = true then ((impl_TurnKnob.f k x527000 x527001 x527002 x48 x5 (wrap64 (-x6))).bind fun bt574 => ((impl_PeriodOfKnob.f k x527000 x527001 x527002 x5).bind fun bt576 => ((impl_TurnKnob.f k x527000 x527001 x527002 x4 x5 bt576.1).bind fun bt578 => (if bt574.2 = true then (if bt574.1.toList = x4.toList then (if bt576.2 = true then (if bt576.1 < 1 then (some false) else (if bt576.1 > x527001 then (some false) else (if bt578.2 = true then (if bt578.1.toList = x4.toList then (laws_FnKnobsTurnOfAll.j7 k x8 x9 x52 x53 x528000 x528001 x528002) else (some false)) else (some false)))) else (some false)) else (some false)) else (some false))))) else (laws_FnKnobsTurnOfAll.j7 k x8 x9 x52 x53 x528000 x528001 x528002))
def laws_FnKnobsTurnOfAll.j7 : Nat → ByteArray → List Int → ByteArray → Bool → Int → Int → List (List Int) → Option (Bool)
  | 0, _, _, _, _, _, _, _ => none
  | k + 1, x8, x9, x52, x53, x528000, x528001, x528002 => if x53 = true then (laws_FnKnobsTurnOfAll.l2 k x52 x8 x9 (x9.length : Int) 0 x528000 x528001 x528002) else (some true)
def laws_FnKnobsTurnOfAll.l2 : Nat → ByteArray → ByteArray → List Int → Int → Int → Int → Int → List (List Int) → Option (Bool)
  | 0, _, _, _, _, _, _, _, _ => none
  | k + 1, x52, x62, x412, x413, x414, x528000, x528001, x528002 => if x414 < x413 then (if 0 ≤ x414 then (if x414 < (x412.length : Int) then ((impl_TurnKnob.f k x528000 x528001 x528002 x62 x414 (rd x412 x414)).bind fun bt581 => (if bt581.2 = true then (laws_FnKnobsTurnOfAll.l2 k x52 bt581.1 x412 x413 (wrap64 (x414 + 1)) x528000 x528001 x528002) else (some false))) else (none)) else (none)) else (some (x62.toList == x52.toList))
def laws_FnKnobsTurnOfAll.l0 : Nat → ByteArray → ByteArray → ByteArray → Int → Int → ByteArray → List Int → Int → List (S48) → List Int → ByteArray → List (S48) → Int → Int → Int → Int → List (List Int) → Int → Int → List (List Int) → Int → Int → List (List Int) → Option (Bool)
  | 0, _, _, _, _, _, _, _, _, _, _, _, _, _, _, _, _, _, _, _, _, _, _, _ => none
  | k + 1, x1, x2, x4, x5, x6, x8, x9, x21, x25, x29, x33, x189, x190, x191, x526000, x526001, x526002, x527000, x527001, x527002, x528000, x528001, x528002 => if x191 < x190 then (if 0 ≤ x191 then (if x191 < (x189.length : Int) then ((impl_TurnKnob.f k x526000 x526001 x526002 x33 ((rd_T48 x189 x191).f0) ((rd_T48 x189 x191).f1)).bind fun bt555 => (if bt555.2 = true then (laws_FnKnobsTurnOfAll.l0 k x1 x2 x4 x5 x6 x8 x9 x21 x25 x29 bt555.1 x189 x190 (wrap64 (x191 + 1)) x526000 x526001 x526002 x527000 x527001 x527002 x528000 x528001 x528002) else (some false))) else (none)) else (none)) else ((impl_KnobsAfter.f k x526000 x526001 x526002 x1 x29).bind fun bt557 => ((impl_FewestKnobs.f k x526000 x526001 x526002 x2 x1).bind fun bt559 => ((impl_FirstOfClass.f k x526000 x526001 x526002 x1).bind fun bt561 => ((impl_FirstOfClass.f k x526000 x526001 x526002 x2).bind fun bt563 => (if x33.toList = x2.toList then (if (x25.length : Int) = x21 then (if bt557.2 = true then (if bt557.1.toList = x2.toList then (if (x29.length : Int) = (x526002.length : Int) then (if bt559.2 = true then (if bt559.1 = x21 then (if bt561.2 = true then (if bt563.2 = true then (if bt561.1.toList = bt563.1.toList then (laws_FnKnobsTurnOfAll.j3 k x4 x5 x6 x8 x9 x29 ((x21 == 0) != (x1.toList == x2.toList)) x526000 x526001 x526002 x527000 x527001 x527002 x528000 x528001 x528002) else (laws_FnKnobsTurnOfAll.j3 k x4 x5 x6 x8 x9 x29 true x526000 x526001 x526002 x527000 x527001 x527002 x528000 x528001 x528002)) else (laws_FnKnobsTurnOfAll.j3 k x4 x5 x6 x8 x9 x29 true x526000 x526001 x526002 x527000 x527001 x527002 x528000 x528001 x528002)) else (laws_FnKnobsTurnOfAll.j3 k x4 x5 x6 x8 x9 x29 true x526000 x526001 x526002 x527000 x527001 x527002 x528000 x528001 x528002)) else (laws_FnKnobsTurnOfAll.j3 k x4 x5 x6 x8 x9 x29 true x526000 x526001 x526002 x527000 x527001 x527002 x528000 x528001 x528002)) else (laws_FnKnobsTurnOfAll.j3 k x4 x5 x6 x8 x9 x29 true x526000 x526001 x526002 x527000 x527001 x527002 x528000 x528001 x528002)) else (laws_FnKnobsTurnOfAll.j3 k x4 x5 x6 x8 x9 x29 true x526000 x526001 x526002 x527000 x527001 x527002 x528000 x528001 x528002)) else (laws_FnKnobsTurnOfAll.j3 k x4 x5 x6 x8 x9 x29 true x526000 x526001 x526002 x527000 x527001 x527002 x528000 x528001 x528002)) else (laws_FnKnobsTurnOfAll.j3 k x4 x5 x6 x8 x9 x29 true x526000 x526001 x526002 x527000 x527001 x527002 x528000 x528001 x528002)) else (laws_FnKnobsTurnOfAll.j3 k x4 x5 x6 x8 x9 x29 true x526000 x526001 x526002 x527000 x527001 x527002 x528000 x528001 x528002)) else (laws_FnKnobsTurnOfAll.j3 k x4 x5 x6 x8 x9 x29 true x526000 x526001 x526002 x527000 x527001 x527002 x528000 x528001 x528002))))))
def laws_FnKnobsTurnOfAll.j3 : Nat → ByteArray → Int → Int → ByteArray → List Int → List Int → Bool → Int → Int → List (List Int) → Int → Int → List (List Int) → Int → Int → List (List Int) → Option (Bool)
  | 0, _, _, _, _, _, _, _, _, _, _, _, _, _, _, _, _ => none
  | k + 1, x4, x5, x6, x8, x9, x29, x290, x526000, x526001, x526002, x527000, x527001, x527002, x528000, x528001, x528002 => if x290 = true then (some false) else (laws_FnKnobsTurnOfAll.l1 k x4 x5 x6 x8 x9 x29 (x29.length : Int) 0 x526000 x526001 x526002 x527000 x527001 x527002 x528000 x528001 x528002)
def laws_FnKnobsTurnOfAll.l1 : Nat → ByteArray → Int → Int → ByteArray → List Int → List Int → Int → Int → Int → Int → List (List Int) → Int → Int → List (List Int) → Int → Int → List (List Int) → Option (Bool)
  | 0, _, _, _, _, _, _, _, _, _, _, _, _, _, _, _, _, _ => none
  | k + 1, x4, x5, x6, x8, x9, x291, x292, x293, x526000, x526001, x526002, x527000, x527001, x527002, x528000, x528001, x528002 => if x293 < x292 then (if 0 ≤ x293 then (if x293 < (x291.length : Int) then (if (rd x291 x293) < 0 then (some false) else (if (rd x291 x293) ≥ x526001 then (some false) else (laws_FnKnobsTurnOfAll.l1 k x4 x5 x6 x8 x9 x291 x292 (wrap64 (x293 + 1)) x526000 x526001 x526002 x527000 x527001 x527002 x528000 x528001 x528002))) else (none)) else (none)) else (laws_FnKnobsTurnOfAll.j5 k x4 x5 x6 x8 x9 x527000 x527001 x527002 x528000 x528001 x528002)
end
def laws_FnKnobsTurnOfAll.f (k : Nat) (a0_0 : Int) (a0_1 : Int) (l0_2 : List (List Int)) (a1 : ByteArray) (a2 : ByteArray) (a3_0 : Int) (a3_1 : Int) (l3_2 : List (List Int)) (a4 : ByteArray) (a5 : Int) (a6 : Int) (a7_0 : Int) (a7_1 : Int) (l7_2 : List (List Int)) (a8 : ByteArray) (l9 : List Int) : Option (Bool) := if (a1.size : Int) > 1048576 then (laws_FnKnobsTurnOfAll.j0 k a1 a2 a4 a5 a6 a8 l9 true a0_0 a0_1 l0_2 a3_0 a3_1 l3_2 a7_0 a7_1 l7_2) else (if (a2.size : Int) > 1048576 then (laws_FnKnobsTurnOfAll.j0 k a1 a2 a4 a5 a6 a8 l9 true a0_0 a0_1 l0_2 a3_0 a3_1 l3_2 a7_0 a7_1 l7_2) else (if (a4.size : Int) > 1048576 then (laws_FnKnobsTurnOfAll.j0 k a1 a2 a4 a5 a6 a8 l9 true a0_0 a0_1 l0_2 a3_0 a3_1 l3_2 a7_0 a7_1 l7_2) else (if (a8.size : Int) > 1048576 then (laws_FnKnobsTurnOfAll.j0 k a1 a2 a4 a5 a6 a8 l9 true a0_0 a0_1 l0_2 a3_0 a3_1 l3_2 a7_0 a7_1 l7_2) else (laws_FnKnobsTurnOfAll.j0 k a1 a2 a4 a5 a6 a8 l9 (decide ((l9.length : Int) > 10000)) a0_0 a0_1 l0_2 a3_0 a3_1 l3_2 a7_0 a7_1 l7_2))))
theorem laws_FnKnobsTurnOfAll.mono_l : ∀ k, (∀ y0 y1 y2 y3 y4 y5 y6 y7 y8 y9 y10 y11 y12 y13 y14 y15 y16, LeO (laws_FnKnobsTurnOfAll.j0 k y0 y1 y2 y3 y4 y5 y6 y7 y8 y9 y10 y11 y12 y13 y14 y15 y16) (laws_FnKnobsTurnOfAll.j0 (k + 1) y0 y1 y2 y3 y4 y5 y6 y7 y8 y9 y10 y11 y12 y13 y14 y15 y16)) ∧ (∀ y0 y1 y2 y3 y4 y5 y6 y7 y8 y9 y10 y11 y12 y13 y14 y15 y16 y17 y18 y19 y20, LeO (laws_FnKnobsTurnOfAll.j1 k y0 y1 y2 y3 y4 y5 y6 y7 y8 y9 y10 y11 y12 y13 y14 y15 y16 y17 y18 y19 y20) (laws_FnKnobsTurnOfAll.j1 (k + 1) y0 y1 y2 y3 y4 y5 y6 y7 y8 y9 y10 y11 y12 y13 y14 y15 y16 y17 y18 y19 y20)) ∧ (∀ y0 y1 y2 y3 y4 y5 y6 y7 y8 y9 y10, LeO (laws_FnKnobsTurnOfAll.j5 k y0 y1 y2 y3 y4 y5 y6 y7 y8 y9 y10) (laws_FnKnobsTurnOfAll.j5 (k + 1) y0 y1 y2 y3 y4 y5 y6 y7 y8 y9 y10)) ∧ (∀ y0 y1 y2 y3 y4 y5 y6 y7 y8 y9 y10 y11 y12 y13 y14 y15, LeO (laws_FnKnobsTurnOfAll.j6 k y0 y1 y2 y3 y4 y5 y6 y7 y8 y9 y10 y11 y12 y13 y14 y15) (laws_FnKnobsTurnOfAll.j6 (k + 1) y0 y1 y2 y3 y4 y5 y6 y7 y8 y9 y10 y11 y12 y13 y14 y15)) ∧ (∀ y0 y1 y2 y3 y4 y5 y6, LeO (laws_FnKnobsTurnOfAll.j7 k y0 y1 y2 y3 y4 y5 y6) (laws_FnKnobsTurnOfAll.j7 (k + 1) y0 y1 y2 y3 y4 y5 y6)) ∧ (∀ y0 y1 y2 y3 y4 y5 y6 y7, LeO (laws_FnKnobsTurnOfAll.l2 k y0 y1 y2 y3 y4 y5 y6 y7) (laws_FnKnobsTurnOfAll.l2 (k + 1) y0 y1 y2 y3 y4 y5 y6 y7)) ∧ (∀ y0 y1 y2 y3 y4 y5 y6 y7 y8 y9 y10 y11 y12 y13 y14 y15 y16 y17 y18 y19 y20 y21 y22, LeO (laws_FnKnobsTurnOfAll.l0 k y0 y1 y2 y3 y4 y5 y6 y7 y8 y9 y10 y11 y12 y13 y14 y15 y16 y17 y18 y19 y20 y21 y22) (laws_FnKnobsTurnOfAll.l0 (k + 1) y0 y1 y2 y3 y4 y5 y6 y7 y8 y9 y10 y11 y12 y13 y14 y15 y16 y17 y18 y19 y20 y21 y22)) ∧ (∀ y0 y1 y2 y3 y4 y5 y6 y7 y8 y9 y10 y11 y12 y13 y14 y15, LeO (laws_FnKnobsTurnOfAll.j3 k y0 y1 y2 y3 y4 y5 y6 y7 y8 y9 y10 y11 y12 y13 y14 y15) (laws_FnKnobsTurnOfAll.j3 (k + 1) y0 y1 y2 y3 y4 y5 y6 y7 y8 y9 y10 y11 y12 y13 y14 y15)) ∧ (∀ y0 y1 y2 y3 y4 y5 y6 y7 y8 y9 y10 y11 y12 y13 y14 y15 y16, LeO (laws_FnKnobsTurnOfAll.l1 k y0 y1 y2 y3 y4 y5 y6 y7 y8 y9 y10 y11 y12 y13 y14 y15 y16) (laws_FnKnobsTurnOfAll.l1 (k + 1) y0 y1 y2 y3 y4 y5 y6 y7 y8 y9 y10 y11 y12 y13 y14 y15 y16))
  | 0 => ⟨fun _ _ _ _ _ _ _ _ _ _ _ _ _ _ _ _ _ r h => by simp [laws_FnKnobsTurnOfAll.j0] at h, fun _ _ _ _ _ _ _ _ _ _ _ _ _ _ _ _ _ _ _ _ _ r h => by simp [laws_FnKnobsTurnOfAll.j1] at h, fun _ _ _ _ _ _ _ _ _ _ _ r h => by simp [laws_FnKnobsTurnOfAll.j5] at h, fun _ _ _ _ _ _ _ _ _ _ _ _ _ _ _ _ r h => by simp [laws_FnKnobsTurnOfAll.j6] at h, fun _ _ _ _ _ _ _ r h => by simp [laws_FnKnobsTurnOfAll.j7] at h, fun _ _ _ _ _ _ _ _ r h => by simp [laws_FnKnobsTurnOfAll.l2] at h, fun _ _ _ _ _ _ _ _ _ _ _ _ _ _ _ _ _ _ _ _ _ _ _ r h => by simp [laws_FnKnobsTurnOfAll.l0] at h, fun _ _ _ _ _ _ _ _ _ _ _ _ _ _ _ _ r h => by simp [laws_FnKnobsTurnOfAll.j3] at h, fun _ _ _ _ _ _ _ _ _ _ _ _ _ _ _ _ _ r h => by simp [laws_FnKnobsTurnOfAll.l1] at h⟩
  | k + 1 => by
    obtain ⟨ih0, ih1, ih2, ih3, ih4, ih5, ih6, ih7, ih8⟩ := laws_FnKnobsTurnOfAll.mono_l k
    refine ⟨?_, ?_, ?_, ?_, ?_, ?_, ?_, ?_, ?_⟩
    · intro y0 y1 y2 y3 y4 y5 y6 y7 y8 y9 y10 y11 y12 y13 y14 y15 y16
      unfold laws_FnKnobsTurnOfAll.j0
      repeat' first
      | (with_reducible exact ih0 _ _ _ _ _ _ _ _ _ _ _ _ _ _ _ _ _)
      | (with_reducible exact ih1 _ _ _ _ _ _ _ _ _ _ _ _ _ _ _ _ _ _ _ _ _)
      | (with_reducible exact ih2 _ _ _ _ _ _ _ _ _ _ _)
      | (with_reducible exact ih3 _ _ _ _ _ _ _ _ _ _ _ _ _ _ _ _)
      | (with_reducible exact ih4 _ _ _ _ _ _ _)
      | (with_reducible exact ih5 _ _ _ _ _ _ _ _)
      | (with_reducible exact ih6 _ _ _ _ _ _ _ _ _ _ _ _ _ _ _ _ _ _ _ _ _ _ _)
      | (with_reducible exact ih7 _ _ _ _ _ _ _ _ _ _ _ _ _ _ _ _)
      | (with_reducible exact ih8 _ _ _ _ _ _ _ _ _ _ _ _ _ _ _ _ _)
      | (with_reducible exact impl_AreGears.mono _ _ _ _)
      | (with_reducible exact impl_FewestKnobs.mono _ _ _ _ _ _)
      | (with_reducible exact impl_FirstKnobs.mono _ _ _ _ _ _)
      | (with_reducible exact impl_FirstOfClass.mono _ _ _ _ _)
      | (with_reducible exact impl_KnobsAfter.mono _ _ _ _ _ _)
      | (with_reducible exact impl_PeriodOfKnob.mono _ _ _ _ _)
      | (with_reducible exact impl_TimesFor.mono _ _ _ _ _ _)
      | (with_reducible exact impl_TurnKnob.mono _ _ _ _ _ _ _)
      | (with_reducible exact laws_eSame.mono _ _ _)
      | (with_reducible exact laws_eTurns.mono _ _ _)
      | (with_reducible exact spec_AreGears.mono _ _ _ _)
      | (with_reducible exact spec_FewestKnobs.mono _ _ _ _ _ _)
      | (with_reducible exact spec_FirstKnobs.mono _ _ _ _ _ _)
      | (with_reducible exact spec_KnobsAfter.mono _ _ _ _ _ _)
      | (with_reducible exact spec_TimesFor.mono _ _ _ _ _ _)
      | (with_reducible exact spec_TurnKnob.mono _ _ _ _ _ _ _)
      | (with_reducible exact LeO.refl _)
      | (with_reducible exact LeO.none _)
      | (with_reducible refine LeO.ite ?_ ?_)
      | (with_reducible refine LeO.bind ?_ (fun _ => ?_))
      | exact ih0 _ _ _ _ _ _ _ _ _ _ _ _ _ _ _ _ _
      | exact ih1 _ _ _ _ _ _ _ _ _ _ _ _ _ _ _ _ _ _ _ _ _
      | exact ih2 _ _ _ _ _ _ _ _ _ _ _
      | exact ih3 _ _ _ _ _ _ _ _ _ _ _ _ _ _ _ _
      | exact ih4 _ _ _ _ _ _ _
      | exact ih5 _ _ _ _ _ _ _ _
      | exact ih6 _ _ _ _ _ _ _ _ _ _ _ _ _ _ _ _ _ _ _ _ _ _ _
      | exact ih7 _ _ _ _ _ _ _ _ _ _ _ _ _ _ _ _
      | exact ih8 _ _ _ _ _ _ _ _ _ _ _ _ _ _ _ _ _
      | exact impl_AreGears.mono _ _ _ _
      | exact impl_FewestKnobs.mono _ _ _ _ _ _
      | exact impl_FirstKnobs.mono _ _ _ _ _ _
      | exact impl_FirstOfClass.mono _ _ _ _ _
      | exact impl_KnobsAfter.mono _ _ _ _ _ _
      | exact impl_PeriodOfKnob.mono _ _ _ _ _
      | exact impl_TimesFor.mono _ _ _ _ _ _
      | exact impl_TurnKnob.mono _ _ _ _ _ _ _
      | exact laws_eSame.mono _ _ _
      | exact laws_eTurns.mono _ _ _
      | exact spec_AreGears.mono _ _ _ _
      | exact spec_FewestKnobs.mono _ _ _ _ _ _
      | exact spec_FirstKnobs.mono _ _ _ _ _ _
      | exact spec_KnobsAfter.mono _ _ _ _ _ _
      | exact spec_TimesFor.mono _ _ _ _ _ _
      | exact spec_TurnKnob.mono _ _ _ _ _ _ _
      | exact LeO.none _
      | refine LeO.ite ?_ ?_
      | refine LeO.bind ?_ (fun _ => ?_)
    · intro y0 y1 y2 y3 y4 y5 y6 y7 y8 y9 y10 y11 y12 y13 y14 y15 y16 y17 y18 y19 y20
      unfold laws_FnKnobsTurnOfAll.j1
      repeat' first
      | (with_reducible exact ih0 _ _ _ _ _ _ _ _ _ _ _ _ _ _ _ _ _)
      | (with_reducible exact ih1 _ _ _ _ _ _ _ _ _ _ _ _ _ _ _ _ _ _ _ _ _)
      | (with_reducible exact ih2 _ _ _ _ _ _ _ _ _ _ _)
      | (with_reducible exact ih3 _ _ _ _ _ _ _ _ _ _ _ _ _ _ _ _)
      | (with_reducible exact ih4 _ _ _ _ _ _ _)
      | (with_reducible exact ih5 _ _ _ _ _ _ _ _)
      | (with_reducible exact ih6 _ _ _ _ _ _ _ _ _ _ _ _ _ _ _ _ _ _ _ _ _ _ _)
      | (with_reducible exact ih7 _ _ _ _ _ _ _ _ _ _ _ _ _ _ _ _)
      | (with_reducible exact ih8 _ _ _ _ _ _ _ _ _ _ _ _ _ _ _ _ _)
      | (with_reducible exact impl_AreGears.mono _ _ _ _)
      | (with_reducible exact impl_FewestKnobs.mono _ _ _ _ _ _)
      | (with_reducible exact impl_FirstKnobs.mono _ _ _ _ _ _)
      | (with_reducible exact impl_FirstOfClass.mono _ _ _ _ _)
      | (with_reducible exact impl_KnobsAfter.mono _ _ _ _ _ _)
      | (with_reducible exact impl_PeriodOfKnob.mono _ _ _ _ _)
      | (with_reducible exact impl_TimesFor.mono _ _ _ _ _ _)
      | (with_reducible exact impl_TurnKnob.mono _ _ _ _ _ _ _)
      | (with_reducible exact laws_eSame.mono _ _ _)
      | (with_reducible exact laws_eTurns.mono _ _ _)
      | (with_reducible exact spec_AreGears.mono _ _ _ _)
      | (with_reducible exact spec_FewestKnobs.mono _ _ _ _ _ _)
      | (with_reducible exact spec_FirstKnobs.mono _ _ _ _ _ _)
      | (with_reducible exact spec_KnobsAfter.mono _ _ _ _ _ _)
      | (with_reducible exact spec_TimesFor.mono _ _ _ _ _ _)
      | (with_reducible exact spec_TurnKnob.mono _ _ _ _ _ _ _)
      | (with_reducible exact LeO.refl _)
      | (with_reducible exact LeO.none _)
      | (with_reducible refine LeO.ite ?_ ?_)
      | (with_reducible refine LeO.bind ?_ (fun _ => ?_))
      | exact ih0 _ _ _ _ _ _ _ _ _ _ _ _ _ _ _ _ _
      | exact ih1 _ _ _ _ _ _ _ _ _ _ _ _ _ _ _ _ _ _ _ _ _
      | exact ih2 _ _ _ _ _ _ _ _ _ _ _
      | exact ih3 _ _ _ _ _ _ _ _ _ _ _ _ _ _ _ _
      | exact ih4 _ _ _ _ _ _ _
      | exact ih5 _ _ _ _ _ _ _ _
      | exact ih6 _ _ _ _ _ _ _ _ _ _ _ _ _ _ _ _ _ _ _ _ _ _ _
      | exact ih7 _ _ _ _ _ _ _ _ _ _ _ _ _ _ _ _
      | exact ih8 _ _ _ _ _ _ _ _ _ _ _ _ _ _ _ _ _
      | exact impl_AreGears.mono _ _ _ _
      | exact impl_FewestKnobs.mono _ _ _ _ _ _
      | exact impl_FirstKnobs.mono _ _ _ _ _ _
      | exact impl_FirstOfClass.mono _ _ _ _ _
      | exact impl_KnobsAfter.mono _ _ _ _ _ _
      | exact impl_PeriodOfKnob.mono _ _ _ _ _
      | exact impl_TimesFor.mono _ _ _ _ _ _
      | exact impl_TurnKnob.mono _ _ _ _ _ _ _
      | exact laws_eSame.mono _ _ _
      | exact laws_eTurns.mono _ _ _
      | exact spec_AreGears.mono _ _ _ _
      | exact spec_FewestKnobs.mono _ _ _ _ _ _
      | exact spec_FirstKnobs.mono _ _ _ _ _ _
      | exact spec_KnobsAfter.mono _ _ _ _ _ _
      | exact spec_TimesFor.mono _ _ _ _ _ _
      | exact spec_TurnKnob.mono _ _ _ _ _ _ _
      | exact LeO.none _
      | refine LeO.ite ?_ ?_
      | refine LeO.bind ?_ (fun _ => ?_)
    · intro y0 y1 y2 y3 y4 y5 y6 y7 y8 y9 y10
      unfold laws_FnKnobsTurnOfAll.j5
      repeat' first
      | (with_reducible exact ih0 _ _ _ _ _ _ _ _ _ _ _ _ _ _ _ _ _)
      | (with_reducible exact ih1 _ _ _ _ _ _ _ _ _ _ _ _ _ _ _ _ _ _ _ _ _)
      | (with_reducible exact ih2 _ _ _ _ _ _ _ _ _ _ _)
      | (with_reducible exact ih3 _ _ _ _ _ _ _ _ _ _ _ _ _ _ _ _)
      | (with_reducible exact ih4 _ _ _ _ _ _ _)
      | (with_reducible exact ih5 _ _ _ _ _ _ _ _)
      | (with_reducible exact ih6 _ _ _ _ _ _ _ _ _ _ _ _ _ _ _ _ _ _ _ _ _ _ _)
      | (with_reducible exact ih7 _ _ _ _ _ _ _ _ _ _ _ _ _ _ _ _)
      | (with_reducible exact ih8 _ _ _ _ _ _ _ _ _ _ _ _ _ _ _ _ _)
      | (with_reducible exact impl_AreGears.mono _ _ _ _)
      | (with_reducible exact impl_FewestKnobs.mono _ _ _ _ _ _)
      | (with_reducible exact impl_FirstKnobs.mono _ _ _ _ _ _)
      | (with_reducible exact impl_FirstOfClass.mono _ _ _ _ _)
      | (with_reducible exact impl_KnobsAfter.mono _ _ _ _ _ _)
      | (with_reducible exact impl_PeriodOfKnob.mono _ _ _ _ _)
      | (with_reducible exact impl_TimesFor.mono _ _ _ _ _ _)
      | (with_reducible exact impl_TurnKnob.mono _ _ _ _ _ _ _)
      | (with_reducible exact laws_eSame.mono _ _ _)
      | (with_reducible exact laws_eTurns.mono _ _ _)
      | (with_reducible exact spec_AreGears.mono _ _ _ _)
      | (with_reducible exact spec_FewestKnobs.mono _ _ _ _ _ _)
      | (with_reducible exact spec_FirstKnobs.mono _ _ _ _ _ _)
      | (with_reducible exact spec_KnobsAfter.mono _ _ _ _ _ _)
      | (with_reducible exact spec_TimesFor.mono _ _ _ _ _ _)
      | (with_reducible exact spec_TurnKnob.mono _ _ _ _ _ _ _)
      | (with_reducible exact LeO.refl _)
      | (with_reducible exact LeO.none _)
      | (with_reducible refine LeO.ite ?_ ?_)
      | (with_reducible refine LeO.bind ?_ (fun _ => ?_))
      | exact ih0 _ _ _ _ _ _ _ _ _ _ _ _ _ _ _ _ _
      | exact ih1 _ _ _ _ _ _ _ _ _ _ _ _ _ _ _ _ _ _ _ _ _
      | exact ih2 _ _ _ _ _ _ _ _ _ _ _
      | exact ih3 _ _ _ _ _ _ _ _ _ _ _ _ _ _ _ _
      | exact ih4 _ _ _ _ _ _ _
      | exact ih5 _ _ _ _ _ _ _ _
      | exact ih6 _ _ _ _ _ _ _ _ _ _ _ _ _ _ _ _ _ _ _ _ _ _ _
      | exact ih7 _ _ _ _ _ _ _ _ _ _ _ _ _ _ _ _
      | exact ih8 _ _ _ _ _ _ _ _ _ _ _ _ _ _ _ _ _
      | exact impl_AreGears.mono _ _ _ _
      | exact impl_FewestKnobs.mono _ _ _ _ _ _
      | exact impl_FirstKnobs.mono _ _ _ _ _ _
      | exact impl_FirstOfClass.mono _ _ _ _ _
      | exact impl_KnobsAfter.mono _ _ _ _ _ _
      | exact impl_PeriodOfKnob.mono _ _ _ _ _
      | exact impl_TimesFor.mono _ _ _ _ _ _
      | exact impl_TurnKnob.mono _ _ _ _ _ _ _
      | exact laws_eSame.mono _ _ _
      | exact laws_eTurns.mono _ _ _
      | exact spec_AreGears.mono _ _ _ _
      | exact spec_FewestKnobs.mono _ _ _ _ _ _
      | exact spec_FirstKnobs.mono _ _ _ _ _ _
      | exact spec_KnobsAfter.mono _ _ _ _ _ _
      | exact spec_TimesFor.mono _ _ _ _ _ _
      | exact spec_TurnKnob.mono _ _ _ _ _ _ _
      | exact LeO.none _
      | refine LeO.ite ?_ ?_
      | refine LeO.bind ?_ (fun _ => ?_)
    · intro y0 y1 y2 y3 y4 y5 y6 y7 y8 y9 y10 y11 y12 y13 y14 y15
      unfold laws_FnKnobsTurnOfAll.j6
      repeat' first
      | (with_reducible exact ih0 _ _ _ _ _ _ _ _ _ _ _ _ _ _ _ _ _)
      | (with_reducible exact ih1 _ _ _ _ _ _ _ _ _ _ _ _ _ _ _ _ _ _ _ _ _)
      | (with_reducible exact ih2 _ _ _ _ _ _ _ _ _ _ _)
      | (with_reducible exact ih3 _ _ _ _ _ _ _ _ _ _ _ _ _ _ _ _)
      | (with_reducible exact ih4 _ _ _ _ _ _ _)
      | (with_reducible exact ih5 _ _ _ _ _ _ _ _)
      | (with_reducible exact ih6 _ _ _ _ _ _ _ _ _ _ _ _ _ _ _ _ _ _ _ _ _ _ _)
      | (with_reducible exact ih7 _ _ _ _ _ _ _ _ _ _ _ _ _ _ _ _)
      | (with_reducible exact ih8 _ _ _ _ _ _ _ _ _ _ _ _ _ _ _ _ _)
      | (with_reducible exact impl_AreGears.mono _ _ _ _)
      | (with_reducible exact impl_FewestKnobs.mono _ _ _ _ _ _)
      | (with_reducible exact impl_FirstKnobs.mono _ _ _ _ _ _)
      | (with_reducible exact impl_FirstOfClass.mono _ _ _ _ _)
      | (with_reducible exact impl_KnobsAfter.mono _ _ _ _ _ _)
      | (with_reducible exact impl_PeriodOfKnob.mono _ _ _ _ _)
      | (with_reducible exact impl_TimesFor.mono _ _ _ _ _ _)
      | (with_reducible exact impl_TurnKnob.mono _ _ _ _ _ _ _)
      | (with_reducible exact laws_eSame.mono _ _ _)
      | (with_reducible exact laws_eTurns.mono _ _ _)
      | (with_reducible exact spec_AreGears.mono _ _ _ _)
      | (with_reducible exact spec_FewestKnobs.mono _ _ _ _ _ _)
      | (with_reducible exact spec_FirstKnobs.mono _ _ _ _ _ _)
      | (with_reducible exact spec_KnobsAfter.mono _ _ _ _ _ _)
      | (with_reducible exact spec_TimesFor.mono _ _ _ _ _ _)
      | (with_reducible exact spec_TurnKnob.mono _ _ _ _ _ _ _)
      | (with_reducible exact LeO.refl _)
      | (with_reducible exact LeO.none _)
      | (with_reducible refine LeO.ite ?_ ?_)
      | (with_reducible refine LeO.bind ?_ (fun _ => ?_))
      | exact ih0 _ _ _ _ _ _ _ _ _ _ _ _ _ _ _ _ _
      | exact ih1 _ _ _ _ _ _ _ _ _ _ _ _ _ _ _ _ _ _ _ _ _
      | exact ih2 _ _ _ _ _ _ _ _ _ _ _
      | exact ih3 _ _ _ _ _ _ _ _ _ _ _ _ _ _ _ _
      | exact ih4 _ _ _ _ _ _ _
      | exact ih5 _ _ _ _ _ _ _ _
      | exact ih6 _ _ _ _ _ _ _ _ _ _ _ _ _ _ _ _ _ _ _ _ _ _ _
      | exact ih7 _ _ _ _ _ _ _ _ _ _ _ _ _ _ _ _
      | exact ih8 _ _ _ _ _ _ _ _ _ _ _ _ _ _ _ _ _
      | exact impl_AreGears.mono _ _ _ _
      | exact impl_FewestKnobs.mono _ _ _ _ _ _
      | exact impl_FirstKnobs.mono _ _ _ _ _ _
      | exact impl_FirstOfClass.mono _ _ _ _ _
      | exact impl_KnobsAfter.mono _ _ _ _ _ _
      | exact impl_PeriodOfKnob.mono _ _ _ _ _
      | exact impl_TimesFor.mono _ _ _ _ _ _
      | exact impl_TurnKnob.mono _ _ _ _ _ _ _
      | exact laws_eSame.mono _ _ _
      | exact laws_eTurns.mono _ _ _
      | exact spec_AreGears.mono _ _ _ _
      | exact spec_FewestKnobs.mono _ _ _ _ _ _
      | exact spec_FirstKnobs.mono _ _ _ _ _ _
      | exact spec_KnobsAfter.mono _ _ _ _ _ _
      | exact spec_TimesFor.mono _ _ _ _ _ _
      | exact spec_TurnKnob.mono _ _ _ _ _ _ _
      | exact LeO.none _
      | refine LeO.ite ?_ ?_
      | refine LeO.bind ?_ (fun _ => ?_)
    · intro y0 y1 y2 y3 y4 y5 y6
      unfold laws_FnKnobsTurnOfAll.j7
      repeat' first
      | (with_reducible exact ih0 _ _ _ _ _ _ _ _ _ _ _ _ _ _ _ _ _)
      | (with_reducible exact ih1 _ _ _ _ _ _ _ _ _ _ _ _ _ _ _ _ _ _ _ _ _)
      | (with_reducible exact ih2 _ _ _ _ _ _ _ _ _ _ _)
      | (with_reducible exact ih3 _ _ _ _ _ _ _ _ _ _ _ _ _ _ _ _)
      | (with_reducible exact ih4 _ _ _ _ _ _ _)
      | (with_reducible exact ih5 _ _ _ _ _ _ _ _)
      | (with_reducible exact ih6 _ _ _ _ _ _ _ _ _ _ _ _ _ _ _ _ _ _ _ _ _ _ _)
      | (with_reducible exact ih7 _ _ _ _ _ _ _ _ _ _ _ _ _ _ _ _)
      | (with_reducible exact ih8 _ _ _ _ _ _ _ _ _ _ _ _ _ _ _ _ _)
      | (with_reducible exact impl_AreGears.mono _ _ _ _)
      | (with_reducible exact impl_FewestKnobs.mono _ _ _ _ _ _)
      | (with_reducible exact impl_FirstKnobs.mono _ _ _ _ _ _)
      | (with_reducible exact impl_FirstOfClass.mono _ _ _ _ _)
      | (with_reducible exact impl_KnobsAfter.mono _ _ _ _ _ _)
      | (with_reducible exact impl_PeriodOfKnob.mono _ _ _ _ _)
      | (with_reducible exact impl_TimesFor.mono _ _ _ _ _ _)
      | (with_reducible exact impl_TurnKnob.mono _ _ _ _ _ _ _)
      | (with_reducible exact laws_eSame.mono _ _ _)
      | (with_reducible exact laws_eTurns.mono _ _ _)
      | (with_reducible exact spec_AreGears.mono _ _ _ _)
      | (with_reducible exact spec_FewestKnobs.mono _ _ _ _ _ _)
      | (with_reducible exact spec_FirstKnobs.mono _ _ _ _ _ _)
      | (with_reducible exact spec_KnobsAfter.mono _ _ _ _ _ _)
      | (with_reducible exact spec_TimesFor.mono _ _ _ _ _ _)
      | (with_reducible exact spec_TurnKnob.mono _ _ _ _ _ _ _)
      | (with_reducible exact LeO.refl _)
      | (with_reducible exact LeO.none _)
      | (with_reducible refine LeO.ite ?_ ?_)
      | (with_reducible refine LeO.bind ?_ (fun _ => ?_))
      | exact ih0 _ _ _ _ _ _ _ _ _ _ _ _ _ _ _ _ _
      | exact ih1 _ _ _ _ _ _ _ _ _ _ _ _ _ _ _ _ _ _ _ _ _
      | exact ih2 _ _ _ _ _ _ _ _ _ _ _
      | exact ih3 _ _ _ _ _ _ _ _ _ _ _ _ _ _ _ _
      | exact ih4 _ _ _ _ _ _ _
      | exact ih5 _ _ _ _ _ _ _ _
      | exact ih6 _ _ _ _ _ _ _ _ _ _ _ _ _ _ _ _ _ _ _ _ _ _ _
      | exact ih7 _ _ _ _ _ _ _ _ _ _ _ _ _ _ _ _
      | exact ih8 _ _ _ _ _ _ _ _ _ _ _ _ _ _ _ _ _
      | exact impl_AreGears.mono _ _ _ _
      | exact impl_FewestKnobs.mono _ _ _ _ _ _
      | exact impl_FirstKnobs.mono _ _ _ _ _ _
      | exact impl_FirstOfClass.mono _ _ _ _ _
      | exact impl_KnobsAfter.mono _ _ _ _ _ _
      | exact impl_PeriodOfKnob.mono _ _ _ _ _
      | exact impl_TimesFor.mono _ _ _ _ _ _
      | exact impl_TurnKnob.mono _ _ _ _ _ _ _
      | exact laws_eSame.mono _ _ _
      | exact laws_eTurns.mono _ _ _
      | exact spec_AreGears.mono _ _ _ _
      | exact spec_FewestKnobs.mono _ _ _ _ _ _
      | exact spec_FirstKnobs.mono _ _ _ _ _ _
      | exact spec_KnobsAfter.mono _ _ _ _ _ _
      | exact spec_TimesFor.mono _ _ _ _ _ _
      | exact spec_TurnKnob.mono _ _ _ _ _ _ _
      | exact LeO.none _
      | refine LeO.ite ?_ ?_
      | refine LeO.bind ?_ (fun _ => ?_)
    · intro y0 y1 y2 y3 y4 y5 y6 y7
      unfold laws_FnKnobsTurnOfAll.l2
      repeat' first
      | (with_reducible exact ih0 _ _ _ _ _ _ _ _ _ _ _ _ _ _ _ _ _)
      | (with_reducible exact ih1 _ _ _ _ _ _ _ _ _ _ _ _ _ _ _ _ _ _ _ _ _)
      | (with_reducible exact ih2 _ _ _ _ _ _ _ _ _ _ _)
      | (with_reducible exact ih3 _ _ _ _ _ _ _ _ _ _ _ _ _ _ _ _)
      | (with_reducible exact ih4 _ _ _ _ _ _ _)
      | (with_reducible exact ih5 _ _ _ _ _ _ _ _)
      | (with_reducible exact ih6 _ _ _ _ _ _ _ _ _ _ _ _ _ _ _ _ _ _ _ _ _ _ _)
      | (with_reducible exact ih7 _ _ _ _ _ _ _ _ _ _ _ _ _ _ _ _)
      | (with_reducible exact ih8 _ _ _ _ _ _ _ _ _ _ _ _ _ _ _ _ _)
      | (with_reducible exact impl_AreGears.mono _ _ _ _)
      | (with_reducible exact impl_FewestKnobs.mono _ _ _ _ _ _)
      | (with_reducible exact impl_FirstKnobs.mono _ _ _ _ _ _)
      | (with_reducible exact impl_FirstOfClass.mono _ _ _ _ _)
      | (with_reducible exact impl_KnobsAfter.mono _ _ _ _ _ _)
      | (with_reducible exact impl_PeriodOfKnob.mono _ _ _ _ _)
      | (with_reducible exact impl_TimesFor.mono _ _ _ _ _ _)
      | (with_reducible exact impl_TurnKnob.mono _ _ _ _ _ _ _)
      | (with_reducible exact laws_eSame.mono _ _ _)
      | (with_reducible exact laws_eTurns.mono _ _ _)
      | (with_reducible exact spec_AreGears.mono _ _ _ _)
      | (with_reducible exact spec_FewestKnobs.mono _ _ _ _ _ _)
      | (with_reducible exact spec_FirstKnobs.mono _ _ _ _ _ _)
      | (with_reducible exact spec_KnobsAfter.mono _ _ _ _ _ _)
      | (with_reducible exact spec_TimesFor.mono _ _ _ _ _ _)
      | (with_reducible exact spec_TurnKnob.mono _ _ _ _ _ _ _)
      | (with_reducible exact LeO.refl _)
      | (with_reducible exact LeO.none _)
      | (with_reducible refine LeO.ite ?_ ?_)
      | (with_reducible refine LeO.bind ?_ (fun _ => ?_))
      | exact ih0 _ _ _ _ _ _ _ _ _ _ _ _ _ _ _ _ _
      | exact ih1 _ _ _ _ _ _ _ _ _ _ _ _ _ _ _ _ _ _ _ _ _
      | exact ih2 _ _ _ _ _ _ _ _ _ _ _
      | exact ih3 _ _ _ _ _ _ _ _ _ _ _ _ _ _ _ _
      | exact ih4 _ _ _ _ _ _ _
      | exact ih5 _ _ _ _ _ _ _ _
      | exact ih6 _ _ _ _ _ _ _ _ _ _ _ _ _ _ _ _ _ _ _ _ _ _ _
      | exact ih7 _ _ _ _ _ _ _ _ _ _ _ _ _ _ _ _
      | exact ih8 _ _ _ _ _ _ _ _ _ _ _ _ _ _ _ _ _
      | exact impl_AreGears.mono _ _ _ _
      | exact impl_FewestKnobs.mono _ _ _ _ _ _
      | exact impl_FirstKnobs.mono _ _ _ _ _ _
      | exact impl_FirstOfClass.mono _ _ _ _ _
      | exact impl_KnobsAfter.mono _ _ _ _ _ _
      | exact impl_PeriodOfKnob.mono _ _ _ _ _
      | exact impl_TimesFor.mono _ _ _ _ _ _
      | exact impl_TurnKnob.mono _ _ _ _ _ _ _
      | exact laws_eSame.mono _ _ _
      | exact laws_eTurns.mono _ _ _
      | exact spec_AreGears.mono _ _ _ _
      | exact spec_FewestKnobs.mono _ _ _ _ _ _
      | exact spec_FirstKnobs.mono _ _ _ _ _ _
      | exact spec_KnobsAfter.mono _ _ _ _ _ _
      | exact spec_TimesFor.mono _ _ _ _ _ _
      | exact spec_TurnKnob.mono _ _ _ _ _ _ _
      | exact LeO.none _
      | refine LeO.ite ?_ ?_
      | refine LeO.bind ?_ (fun _ => ?_)
    · intro y0 y1 y2 y3 y4 y5 y6 y7 y8 y9 y10 y11 y12 y13 y14 y15 y16 y17 y18 y19 y20 y21 y22
      unfold laws_FnKnobsTurnOfAll.l0
      repeat' first
      | (with_reducible exact ih0 _ _ _ _ _ _ _ _ _ _ _ _ _ _ _ _ _)
      | (with_reducible exact ih1 _ _ _ _ _ _ _ _ _ _ _ _ _ _ _ _ _ _ _ _ _)
      | (with_reducible exact ih2 _ _ _ _ _ _ _ _ _ _ _)
      | (with_reducible exact ih3 _ _ _ _ _ _ _ _ _ _ _ _ _ _ _ _)
      | (with_reducible exact ih4 _ _ _ _ _ _ _)
      | (with_reducible exact ih5 _ _ _ _ _ _ _ _)
      | (with_reducible exact ih6 _ _ _ _ _ _ _ _ _ _ _ _ _ _ _ _ _ _ _ _ _ _ _)
      | (with_reducible exact ih7 _ _ _ _ _ _ _ _ _ _ _ _ _ _ _ _)
      | (with_reducible exact ih8 _ _ _ _ _ _ _ _ _ _ _ _ _ _ _ _ _)
      | (with_reducible exact impl_AreGears.mono _ _ _ _)
      | (with_reducible exact impl_FewestKnobs.mono _ _ _ _ _ _)
      | (with_reducible exact impl_FirstKnobs.mono _ _ _ _ _ _)
      | (with_reducible exact impl_FirstOfClass.mono _ _ _ _ _)
      | (with_reducible exact impl_KnobsAfter.mono _ _ _ _ _ _)
      | (with_reducible exact impl_PeriodOfKnob.mono _ _ _ _ _)
      | (with_reducible exact impl_TimesFor.mono _ _ _ _ _ _)
      | (with_reducible exact impl_TurnKnob.mono _ _ _ _ _ _ _)
      | (with_reducible exact laws_eSame.mono _ _ _)
      | (with_reducible exact laws_eTurns.mono _ _ _)
      | (with_reducible exact spec_AreGears.mono _ _ _ _)
      | (with_reducible exact spec_FewestKnobs.mono _ _ _ _ _ _)
      | (with_reducible exact spec_FirstKnobs.mono _ _ _ _ _ _)
      | (with_reducible exact spec_KnobsAfter.mono _ _ _ _ _ _)
      | (with_reducible exact spec_TimesFor.mono _ _ _ _ _ _)
      | (with_reducible exact spec_TurnKnob.mono _ _ _ _ _ _ _)
      | (with_reducible exact LeO.refl _)
      | (with_reducible exact LeO.none _)
      | (with_reducible refine LeO.ite ?_ ?_)
      | (with_reducible refine LeO.bind ?_ (fun _ => ?_))
      | exact ih0 _ _ _ _ _ _ _ _ _ _ _ _ _ _ _ _ _
      | exact ih1 _ _ _ _ _ _ _ _ _ _ _ _ _ _ _ _ _ _ _ _ _
      | exact ih2 _ _ _ _ _ _ _ _ _ _ _
      | exact ih3 _ _ _ _ _ _ _ _ _ _ _ _ _ _ _ _
      | exact ih4 _ _ _ _ _ _ _
      | exact ih5 _ _ _ _ _ _ _ _
      | exact ih6 _ _ _ _ _ _ _ _ _ _ _ _ _ _ _ _ _ _ _ _ _ _ _
      | exact ih7 _ _ _ _ _ _ _ _ _ _ _ _ _ _ _ _
      | exact ih8 _ _ _ _ _ _ _ _ _ _ _ _ _ _ _ _ _
      | exact impl_AreGears.mono _ _ _ _
      | exact impl_FewestKnobs.mono _ _ _ _ _ _
      | exact impl_FirstKnobs.mono _ _ _ _ _ _
      | exact impl_FirstOfClass.mono _ _ _ _ _
      | exact impl_KnobsAfter.mono _ _ _ _ _ _
      | exact impl_PeriodOfKnob.mono _ _ _ _ _
      | exact impl_TimesFor.mono _ _ _ _ _ _
      | exact impl_TurnKnob.mono _ _ _ _ _ _ _
      | exact laws_eSame.mono _ _ _
      | exact laws_eTurns.mono _ _ _
      | exact spec_AreGears.mono _ _ _ _
      | exact spec_FewestKnobs.mono _ _ _ _ _ _
      | exact spec_FirstKnobs.mono _ _ _ _ _ _
      | exact spec_KnobsAfter.mono _ _ _ _ _ _
      | exact spec_TimesFor.mono _ _ _ _ _ _
      | exact spec_TurnKnob.mono _ _ _ _ _ _ _
      | exact LeO.none _
      | refine LeO.ite ?_ ?_
      | refine LeO.bind ?_ (fun _ => ?_)
    · intro y0 y1 y2 y3 y4 y5 y6 y7 y8 y9 y10 y11 y12 y13 y14 y15
      unfold laws_FnKnobsTurnOfAll.j3
      repeat' first
      | (with_reducible exact ih0 _ _ _ _ _ _ _ _ _ _ _ _ _ _ _ _ _)
      | (with_reducible exact ih1 _ _ _ _ _ _ _ _ _ _ _ _ _ _ _ _ _ _ _ _ _)
      | (with_reducible exact ih2 _ _ _ _ _ _ _ _ _ _ _)
      | (with_reducible exact ih3 _ _ _ _ _ _ _ _ _ _ _ _ _ _ _ _)
      | (with_reducible exact ih4 _ _ _ _ _ _ _)
      | (with_reducible exact ih5 _ _ _ _ _ _ _ _)
      | (with_reducible exact ih6 _ _ _ _ _ _ _ _ _ _ _ _ _ _ _ _ _ _ _ _ _ _ _)
      | (with_reducible exact ih7 _ _ _ _ _ _ _ _ _ _ _ _ _ _ _ _)
      | (with_reducible exact ih8 _ _ _ _ _ _ _ _ _ _ _ _ _ _ _ _ _)
      | (with_reducible exact impl_AreGears.mono _ _ _ _)
      | (with_reducible exact impl_FewestKnobs.mono _ _ _ _ _ _)
      | (with_reducible exact impl_FirstKnobs.mono _ _ _ _ _ _)
      | (with_reducible exact impl_FirstOfClass.mono _ _ _ _ _)
      | (with_reducible exact impl_KnobsAfter.mono _ _ _ _ _ _)
      | (with_reducible exact impl_PeriodOfKnob.mono _ _ _ _ _)
      | (with_reducible exact impl_TimesFor.mono _ _ _ _ _ _)
      | (with_reducible exact impl_TurnKnob.mono _ _ _ _ _ _ _)
      | (with_reducible exact laws_eSame.mono _ _ _)
      | (with_reducible exact laws_eTurns.mono _ _ _)
      | (with_reducible exact spec_AreGears.mono _ _ _ _)
      | (with_reducible exact spec_FewestKnobs.mono _ _ _ _ _ _)
      | (with_reducible exact spec_FirstKnobs.mono _ _ _ _ _ _)
      | (with_reducible exact spec_KnobsAfter.mono _ _ _ _ _ _)
      | (with_reducible exact spec_TimesFor.mono _ _ _ _ _ _)
      | (with_reducible exact spec_TurnKnob.mono _ _ _ _ _ _ _)
      | (with_reducible exact LeO.refl _)
      | (with_reducible exact LeO.none _)
      | (with_reducible refine LeO.ite ?_ ?_)
      | (with_reducible refine LeO.bind ?_ (fun _ => ?_))
      | exact ih0 _ _ _ _ _ _ _ _ _ _ _ _ _ _ _ _ _
      | exact ih1 _ _ _ _ _ _ _ _ _ _ _ _ _ _ _ _ _ _ _ _ _
      | exact ih2 _ _ _ _ _ _ _ _ _ _ _
      | exact ih3 _ _ _ _ _ _ _ _ _ _ _ _ _ _ _ _
      | exact ih4 _ _ _ _ _ _ _
      | exact ih5 _ _ _ _ _ _ _ _
      | exact ih6 _ _ _ _ _ _ _ _ _ _ _ _ _ _ _ _ _ _ _ _ _ _ _
      | exact ih7 _ _ _ _ _ _ _ _ _ _ _ _ _ _ _ _
      | exact ih8 _ _ _ _ _ _ _ _ _ _ _ _ _ _ _ _ _
      | exact impl_AreGears.mono _ _ _ _
      | exact impl_FewestKnobs.mono _ _ _ _ _ _
      | exact impl_FirstKnobs.mono _ _ _ _ _ _
      | exact impl_FirstOfClass.mono _ _ _ _ _
      | exact impl_KnobsAfter.mono _ _ _ _ _ _
      | exact impl_PeriodOfKnob.mono _ _ _ _ _
      | exact impl_TimesFor.mono _ _ _ _ _ _
      | exact impl_TurnKnob.mono _ _ _ _ _ _ _
      | exact laws_eSame.mono _ _ _
      | exact laws_eTurns.mono _ _ _
      | exact spec_AreGears.mono _ _ _ _
      | exact spec_FewestKnobs.mono _ _ _ _ _ _
      | exact spec_FirstKnobs.mono _ _ _ _ _ _
      | exact spec_KnobsAfter.mono _ _ _ _ _ _
      | exact spec_TimesFor.mono _ _ _ _ _ _
      | exact spec_TurnKnob.mono _ _ _ _ _ _ _
      | exact LeO.none _
      | refine LeO.ite ?_ ?_
      | refine LeO.bind ?_ (fun _ => ?_)
    · intro y0 y1 y2 y3 y4 y5 y6 y7 y8 y9 y10 y11 y12 y13 y14 y15 y16
      unfold laws_FnKnobsTurnOfAll.l1
      repeat' first
      | (with_reducible exact ih0 _ _ _ _ _ _ _ _ _ _ _ _ _ _ _ _ _)
      | (with_reducible exact ih1 _ _ _ _ _ _ _ _ _ _ _ _ _ _ _ _ _ _ _ _ _)
      | (with_reducible exact ih2 _ _ _ _ _ _ _ _ _ _ _)
      | (with_reducible exact ih3 _ _ _ _ _ _ _ _ _ _ _ _ _ _ _ _)
      | (with_reducible exact ih4 _ _ _ _ _ _ _)
      | (with_reducible exact ih5 _ _ _ _ _ _ _ _)
      | (with_reducible exact ih6 _ _ _ _ _ _ _ _ _ _ _ _ _ _ _ _ _ _ _ _ _ _ _)
      | (with_reducible exact ih7 _ _ _ _ _ _ _ _ _ _ _ _ _ _ _ _)
      | (with_reducible exact ih8 _ _ _ _ _ _ _ _ _ _ _ _ _ _ _ _ _)
      | (with_reducible exact impl_AreGears.mono _ _ _ _)
      | (with_reducible exact impl_FewestKnobs.mono _ _ _ _ _ _)
      | (with_reducible exact impl_FirstKnobs.mono _ _ _ _ _ _)
      | (with_reducible exact impl_FirstOfClass.mono _ _ _ _ _)
      | (with_reducible exact impl_KnobsAfter.mono _ _ _ _ _ _)
      | (with_reducible exact impl_PeriodOfKnob.mono _ _ _ _ _)
      | (with_reducible exact impl_TimesFor.mono _ _ _ _ _ _)
      | (with_reducible exact impl_TurnKnob.mono _ _ _ _ _ _ _)
      | (with_reducible exact laws_eSame.mono _ _ _)
      | (with_reducible exact laws_eTurns.mono _ _ _)
      | (with_reducible exact spec_AreGears.mono _ _ _ _)
      | (with_reducible exact spec_FewestKnobs.mono _ _ _ _ _ _)
      | (with_reducible exact spec_FirstKnobs.mono _ _ _ _ _ _)
      | (with_reducible exact spec_KnobsAfter.mono _ _ _ _ _ _)
      | (with_reducible exact spec_TimesFor.mono _ _ _ _ _ _)
      | (with_reducible exact spec_TurnKnob.mono _ _ _ _ _ _ _)
      | (with_reducible exact LeO.refl _)
      | (with_reducible exact LeO.none _)
      | (with_reducible refine LeO.ite ?_ ?_)
      | (with_reducible refine LeO.bind ?_ (fun _ => ?_))
      | exact ih0 _ _ _ _ _ _ _ _ _ _ _ _ _ _ _ _ _
      | exact ih1 _ _ _ _ _ _ _ _ _ _ _ _ _ _ _ _ _ _ _ _ _
      | exact ih2 _ _ _ _ _ _ _ _ _ _ _
      | exact ih3 _ _ _ _ _ _ _ _ _ _ _ _ _ _ _ _
      | exact ih4 _ _ _ _ _ _ _
      | exact ih5 _ _ _ _ _ _ _ _
      | exact ih6 _ _ _ _ _ _ _ _ _ _ _ _ _ _ _ _ _ _ _ _ _ _ _
      | exact ih7 _ _ _ _ _ _ _ _ _ _ _ _ _ _ _ _
      | exact ih8 _ _ _ _ _ _ _ _ _ _ _ _ _ _ _ _ _
      | exact impl_AreGears.mono _ _ _ _
      | exact impl_FewestKnobs.mono _ _ _ _ _ _
      | exact impl_FirstKnobs.mono _ _ _ _ _ _
      | exact impl_FirstOfClass.mono _ _ _ _ _
      | exact impl_KnobsAfter.mono _ _ _ _ _ _
      | exact impl_PeriodOfKnob.mono _ _ _ _ _
      | exact impl_TimesFor.mono _ _ _ _ _ _
      | exact impl_TurnKnob.mono _ _ _ _ _ _ _
      | exact laws_eSame.mono _ _ _
      | exact laws_eTurns.mono _ _ _
      | exact spec_AreGears.mono _ _ _ _
      | exact spec_FewestKnobs.mono _ _ _ _ _ _
      | exact spec_FirstKnobs.mono _ _ _ _ _ _
      | exact spec_KnobsAfter.mono _ _ _ _ _ _
      | exact spec_TimesFor.mono _ _ _ _ _ _
      | exact spec_TurnKnob.mono _ _ _ _ _ _ _
      | exact LeO.none _
      | refine LeO.ite ?_ ?_
      | refine LeO.bind ?_ (fun _ => ?_)
theorem laws_FnKnobsTurnOfAll.mono : ∀ a0 a1 a2 a3 a4 a5 a6 a7 a8 a9 a10 a11 a12 a13 a14 a15 k, LeO (laws_FnKnobsTurnOfAll.f k a0 a1 a2 a3 a4 a5 a6 a7 a8 a9 a10 a11 a12 a13 a14 a15) (laws_FnKnobsTurnOfAll.f (k + 1) a0 a1 a2 a3 a4 a5 a6 a7 a8 a9 a10 a11 a12 a13 a14 a15) := by
  intro a0 a1 a2 a3 a4 a5 a6 a7 a8 a9 a10 a11 a12 a13 a14 a15 k
  obtain ⟨ih0, ih1, ih2, ih3, ih4, ih5, ih6, ih7, ih8⟩ := laws_FnKnobsTurnOfAll.mono_l k
  unfold laws_FnKnobsTurnOfAll.f
  repeat' first
      | (with_reducible exact ih0 _ _ _ _ _ _ _ _ _ _ _ _ _ _ _ _ _)
      | (with_reducible exact ih1 _ _ _ _ _ _ _ _ _ _ _ _ _ _ _ _ _ _ _ _ _)
      | (with_reducible exact ih2 _ _ _ _ _ _ _ _ _ _ _)
      | (with_reducible exact ih3 _ _ _ _ _ _ _ _ _ _ _ _ _ _ _ _)
      | (with_reducible exact ih4 _ _ _ _ _ _ _)
      | (with_reducible exact ih5 _ _ _ _ _ _ _ _)
      | (with_reducible exact ih6 _ _ _ _ _ _ _ _ _ _ _ _ _ _ _ _ _ _ _ _ _ _ _)
      | (with_reducible exact ih7 _ _ _ _ _ _ _ _ _ _ _ _ _ _ _ _)
      | (with_reducible exact ih8 _ _ _ _ _ _ _ _ _ _ _ _ _ _ _ _ _)
      | (with_reducible exact impl_AreGears.mono _ _ _ _)
      | (with_reducible exact impl_FewestKnobs.mono _ _ _ _ _ _)
      | (with_reducible exact impl_FirstKnobs.mono _ _ _ _ _ _)
      | (with_reducible exact impl_FirstOfClass.mono _ _ _ _ _)
      | (with_reducible exact impl_KnobsAfter.mono _ _ _ _ _ _)
      | (with_reducible exact impl_PeriodOfKnob.mono _ _ _ _ _)
      | (with_reducible exact impl_TimesFor.mono _ _ _ _ _ _)
      | (with_reducible exact impl_TurnKnob.mono _ _ _ _ _ _ _)
      | (with_reducible exact laws_eSame.mono _ _ _)
      | (with_reducible exact laws_eTurns.mono _ _ _)
      | (with_reducible exact spec_AreGears.mono _ _ _ _)
      | (with_reducible exact spec_FewestKnobs.mono _ _ _ _ _ _)
      | (with_reducible exact spec_FirstKnobs.mono _ _ _ _ _ _)
      | (with_reducible exact spec_KnobsAfter.mono _ _ _ _ _ _)
      | (with_reducible exact spec_TimesFor.mono _ _ _ _ _ _)
      | (with_reducible exact spec_TurnKnob.mono _ _ _ _ _ _ _)
      | (with_reducible exact LeO.refl _)
      | (with_reducible exact LeO.none _)
      | (with_reducible refine LeO.ite ?_ ?_)
      | (with_reducible refine LeO.bind ?_ (fun _ => ?_))
      | exact ih0 _ _ _ _ _ _ _ _ _ _ _ _ _ _ _ _ _
      | exact ih1 _ _ _ _ _ _ _ _ _ _ _ _ _ _ _ _ _ _ _ _ _
      | exact ih2 _ _ _ _ _ _ _ _ _ _ _
      | exact ih3 _ _ _ _ _ _ _ _ _ _ _ _ _ _ _ _
      | exact ih4 _ _ _ _ _ _ _
      | exact ih5 _ _ _ _ _ _ _ _
      | exact ih6 _ _ _ _ _ _ _ _ _ _ _ _ _ _ _ _ _ _ _ _ _ _ _
      | exact ih7 _ _ _ _ _ _ _ _ _ _ _ _ _ _ _ _
      | exact ih8 _ _ _ _ _ _ _ _ _ _ _ _ _ _ _ _ _
      | exact impl_AreGears.mono _ _ _ _
      | exact impl_FewestKnobs.mono _ _ _ _ _ _
      | exact impl_FirstKnobs.mono _ _ _ _ _ _
      | exact impl_FirstOfClass.mono _ _ _ _ _
      | exact impl_KnobsAfter.mono _ _ _ _ _ _
      | exact impl_PeriodOfKnob.mono _ _ _ _ _
      | exact impl_TimesFor.mono _ _ _ _ _ _
      | exact impl_TurnKnob.mono _ _ _ _ _ _ _
      | exact laws_eSame.mono _ _ _
      | exact laws_eTurns.mono _ _ _
      | exact spec_AreGears.mono _ _ _ _
      | exact spec_FewestKnobs.mono _ _ _ _ _ _
      | exact spec_FirstKnobs.mono _ _ _ _ _ _
      | exact spec_KnobsAfter.mono _ _ _ _ _ _
      | exact spec_TimesFor.mono _ _ _ _ _ _
      | exact spec_TurnKnob.mono _ _ _ _ _ _ _
      | exact LeO.none _
      | refine LeO.ite ?_ ?_
      | refine LeO.bind ?_ (fun _ => ?_)
def laws_FnKnobsTurnOfAll.T9 : Bool × List (List Nat × List Nat) := (true, [([], []), ([], []), ([0, 1], [0, 1]), ([2], [2]), ([3], [3]), ([3], [3]), ([4, 5, 3], [3, 4, 5]), ([3, 6], [3, 6]), ([7, 3], [7]), ([8], [8]), ([8], [8]), ([9, 10, 8], [8, 9, 10]), ([8, 11], [8, 11]), ([12, 8], [12]), ([13], [13]), ([13], [13]), ([14, 15, 13, 13], [13, 14, 15]), ([16, 13], [13, 16]), ([13, 17], [13, 17]), ([18, 16], [18]), ([19], [19]), ([19], [19]), ([20, 21, 19], [19, 20, 21]), ([19, 22], [19, 22]), ([23, 19], [23]), ([24], [24]), ([24], [24]), ([25, 26, 24, 24], [24, 25, 26]), ([27, 24], [24, 27]), ([24, 28], [24, 28]), ([29, 27], [29]), ([30], [30]), ([30], [30]), ([31, 32, 30], [30, 31, 32]), ([30, 33], [30, 33]), ([34, 30], [34]), ([35], [35]), ([35], [35]), ([36, 37, 35], [35, 36, 37]), ([35, 38], [35, 38]), ([39, 35], [39]), ([40], [40]), ([41, 40, 40], [40, 41]), ([40], [40]), ([43, 42, 40], [40, 43]), ([42, 44, 40], [40, 42, 44]), ([40, 45], [40, 45]), ([46, 44], [46]), ([47], [47]), ([48, 47, 47], [47, 48]), ([49], [49]), ([50, 49, 49], [49, 50]), ([51, 49], [49, 51]), ([49, 52, 47], [47, 49, 52]), ([47, 53], [47, 53])])
def laws_FnKnobsTurnOfAll.B9 : List Nat := [0, 0, 3, 7, 15, 15, 63, 127, 255, 511, 511, 2047, 4095, 8191, 16383, 16383, 65535, 131071, 262143, 524287, 1048575, 1048575, 4194303, 8388607, 16777215, 33554431, 33554431, 134217727, 268435455, 536870911, 1073741823, 2147483647, 2147483647, 8589934591, 17179869183, 34359738367, 68719476735, 68719476735, 274877906943, 549755813887, 1099511627775, 2199023255551, 4398046511103, 2199023255551, 17592186044415, 35184372088831, 70368744177663, 140737488355327, 281474976710655, 562949953421311, 1125899906842623, 2251799813685247, 4503599627370495, 9007199254740991, 18014398509481983]
theorem laws_FnKnobsTurnOfAll.tab9 : rtab .any (opsOf Try.f4 9) = laws_FnKnobsTurnOfAll.T9 := by kernel_rfl
theorem laws_FnKnobsTurnOfAll.bits9 : waitsOk laws_FnKnobsTurnOfAll.T9.2 laws_FnKnobsTurnOfAll.B9 = true := by kernel_rfl
set_option maxHeartbeats 8000000 in
set_option maxRecDepth 100000 in
theorem laws_FnKnobsTurnOfAll.calls (k : Nat) (a0_0 : Int) (a0_1 : Int) (A0_2 : Option Addr) (c0_2 : Nat) (l0_2 : List (List Int)) (a1 : ByteArray) (a2 : ByteArray) (a3_0 : Int) (a3_1 : Int) (A3_2 : Option Addr) (c3_2 : Nat) (l3_2 : List (List Int)) (a4 : ByteArray) (a5 : Int) (a6 : Int) (a7_0 : Int) (a7_1 : Int) (A7_2 : Option Addr) (c7_2 : Nat) (l7_2 : List (List Int)) (a8 : ByteArray) (A9 : Option Addr) (c9 : Nat) (l9 : List Int) (r : Bool) (w : World) (hr0_2 : Kd.C (Kd.slice 3 (Kd.int .i64)) w A0_2 l0_2.length l0_2) (hc0_2 : l0_2.length ≤ c0_2) (hr3_2 : Kd.C (Kd.slice 3 (Kd.int .i64)) w A3_2 l3_2.length l3_2) (hc3_2 : l3_2.length ≤ c3_2) (hr7_2 : Kd.C (Kd.slice 3 (Kd.int .i64)) w A7_2 l7_2.length l7_2) (hc7_2 : l7_2.length ≤ c7_2) (hr9 : Kd.C (Kd.int .i64) w A9 l9.length l9) (hc9 : l9.length ≤ c9) (h : laws_FnKnobsTurnOfAll.f k a0_0 a0_1 l0_2 a1 a2 a3_0 a3_1 l3_2 a4 a5 a6 a7_0 a7_1 l7_2 a8 l9 = some r) (hr_ : r = true := by rfl) :
    Calls Try.prog 4 #[.agg #[.int .i64 a0_0, .int .i64 a0_1, .slice A0_2 l0_2.length c0_2], .string a1, .string a2, .agg #[.int .i64 a3_0, .int .i64 a3_1, .slice A3_2 l3_2.length c3_2], .string a4, .int .i64 a5, .int .i64 a6, .agg #[.int .i64 a7_0, .int .i64 a7_1, .slice A7_2 l7_2.length c7_2], .string a8, .slice A9 l9.length c9] w fun e w' => e = .returned (.bool r) ∧ Below w.heap.size w w' := by
  have HRT := Aside0.mk hr_
  clear hr_
  have hu33 := Try.underlying33
  have hu48 := Try.underlying48
  have HR0_2 := Aside0.mk hr0_2
  have HC0_2 := Aside0.mk hc0_2
  clear hr0_2 hc0_2
  have HR3_2 := Aside0.mk hr3_2
  have HC3_2 := Aside0.mk hc3_2
  clear hr3_2 hc3_2
  have HR7_2 := Aside0.mk hr7_2
  have HC7_2 := Aside0.mk hc7_2
  clear hr7_2 hc7_2
  have HR9 := Aside0.mk hr9
  have HC9 := Aside0.mk hc9
  clear hr9 hc9
  have HB := Aside0.mk (Below.refl w.heap.size w)
  have H : (if (a1.size : Int) > 1048576 then (laws_FnKnobsTurnOfAll.j0 k a1 a2 a4 a5 a6 a8 l9 true a0_0 a0_1 l0_2 a3_0 a3_1 l3_2 a7_0 a7_1 l7_2) else (if (a2.size : Int) > 1048576 then (laws_FnKnobsTurnOfAll.j0 k a1 a2 a4 a5 a6 a8 l9 true a0_0 a0_1 l0_2 a3_0 a3_1 l3_2 a7_0 a7_1 l7_2) else (if (a4.size : Int) > 1048576 then (laws_FnKnobsTurnOfAll.j0 k a1 a2 a4 a5 a6 a8 l9 true a0_0 a0_1 l0_2 a3_0 a3_1 l3_2 a7_0 a7_1 l7_2) else (if (a8.size : Int) > 1048576 then (laws_FnKnobsTurnOfAll.j0 k a1 a2 a4 a5 a6 a8 l9 true a0_0 a0_1 l0_2 a3_0 a3_1 l3_2 a7_0 a7_1 l7_2) else (laws_FnKnobsTurnOfAll.j0 k a1 a2 a4 a5 a6 a8 l9 (decide ((l9.length : Int) > 10000)) a0_0 a0_1 l0_2 a3_0 a3_1 l3_2 a7_0 a7_1 l7_2))))) = some r := h
  clear h
  have HC11 := Aside0.mk H
  clear H
  go_enter Try.func4, Try.ntmps4
  go_upto_region 1 with (first | ((with_reducible refine gate_dst (N := 10) rfl ?_); (try (refine gate_guard (by rfl) ?_; dsimp only)); refine box_event ?hg (N := 10) ?hd (cs := #[.int .i64 a0_0, .int .i64 a0_1, .slice A0_2 l0_2.length c0_2]) (t := 33) ?hr ?_; (case hd => rfl); (case hg => rfl); (case hr => first | (go_simp; done) | (go_simp; rfl)); intro gb525 hg w12 hbox hb; have n0_ := bsx hb HB; have n1_ := Aside0.mk (hbox); have n2_ := gwx hg HB; have n3_ := n2_; clear HB; have HB := n0_; have BK525 := n1_; have GW525 := n2_; have GE525 := n3_; clear n0_ n1_ n2_ n3_; clear hb hbox hg) | ((with_reducible refine gate_dst (N := 13) rfl ?_); (try (refine gate_guard (by rfl) ?_; dsimp only)); refine box_event ?hg (N := 13) ?hd (cs := #[.int .i64 a3_0, .int .i64 a3_1, .slice A3_2 l3_2.length c3_2]) (t := 33) ?hr ?_; (case hd => rfl); (case hg => rfl); (case hr => first | (go_simp; done) | (go_simp; rfl)); intro gb526 hg w13 hbox hb; have n0_ := bbx hb BK525; have n1_ := bsx hb HB; have n2_ := Aside0.mk (hbox); have n3_ := gwx hg HB; have n4_ := gwx hg HB; have n5_ := nlx hg BK525; have n6_ := ngx hg BK525; clear BK525; clear HB; have BK525 := n0_; have HB := n1_; have BK526 := n2_; have GW526 := n3_; have GE526 := n4_; have NB525_526 := n5_; have NB526_525 := n6_; clear n0_ n1_ n2_ n3_ n4_ n5_ n6_; clear hb hbox hg) | ((with_reducible refine gate_dst (N := 17) rfl ?_); (try (refine gate_guard (by rfl) ?_; dsimp only)); refine box_event ?hg (N := 17) ?hd (cs := #[.int .i64 a7_0, .int .i64 a7_1, .slice A7_2 l7_2.length c7_2]) (t := 33) ?hr ?_; (case hd => rfl); (case hg => rfl); (case hr => first | (go_simp; done) | (go_simp; rfl)); intro gb527 hg w14 hbox hb; have n0_ := bbx hb BK525; have n1_ := bbx hb BK526; have n2_ := bsx hb HB; have n3_ := Aside0.mk (hbox); have n4_ := gwx hg HB; have n5_ := gwx hg HB; have n6_ := nlx hg BK525; have n7_ := ngx hg BK525; have n8_ := nlx hg BK526; have n9_ := ngx hg BK526; clear BK525; clear BK526; clear HB; have BK525 := n0_; have BK526 := n1_; have HB := n2_; have BK527 := n3_; have GW527 := n4_; have GE527 := n5_; have NB525_527 := n6_; have NB527_525 := n7_; have NB526_527 := n8_; have NB527_526 := n9_; clear n0_ n1_ n2_ n3_ n4_ n5_ n6_ n7_ n8_ n9_; clear hb hbox hg))
  (try simp only [Act.put, s_1, s_2, s_3])
  go_cut [89] from 1 to 0 (fun v89 wc => ∃ (kq : Nat) (x89_10 : Bool), v89 = .bool x89_10 ∧ Aside0 (laws_FnKnobsTurnOfAll.j0 kq a1 a2 a4 a5 a6 a8 l9 x89_10 a0_0 a0_1 l0_2 a3_0 a3_1 l3_2 a7_0 a7_1 l7_2 = some r) ∧ Aside0 (kq ≤ k) ∧ Aside0 (wc.heap[gb525]? = some (.cells #[.int .i64 a0_0, .int .i64 a0_1, (.slice A0_2 l0_2.length c0_2)] 33 (0, 0))) ∧ Aside0 (wc.heap[gb526]? = some (.cells #[.int .i64 a3_0, .int .i64 a3_1, (.slice A3_2 l3_2.length c3_2)] 33 (0, 0))) ∧ Aside0 (wc.heap[gb527]? = some (.cells #[.int .i64 a7_0, .int .i64 a7_1, (.slice A7_2 l7_2.length c7_2)] 33 (0, 0))) ∧ Aside0 (Below w.heap.size w wc))
  case first => as_aux_lemma =>
    have H := HC11.out
    clear HC11
    by_cases c15 : (a1.size : Int) > 1048576
    · rw [if_pos c15] at H
      have c15b0 : decide (1048576 < (a1.size : Int)) = true := decide_eq_true c15
      have c15b1 : decide (1048576 < a1.size) = true := decide_eq_true (by omega)
      clear c15
      (first | rw [c15b0] | (simp only [i64_w, i32_w]; rw [c15b0]) | skip)
      have H' := Aside0.mk H
      clear H
      go_wp2
      go_meet
      case rel => refine ⟨_, (true), (by first | rfl | (simp; done) | (simp [*]; done)), H', ⟨by first | omega | exact Nat.le_refl _⟩, ⟨?_⟩, ⟨?_⟩, ⟨?_⟩, ⟨bB HB⟩⟩ <;> (with_reducible repeat (first | refine g_d ?_ _ | refine g_e ?_ | refine g_a ?_ _)) <;> first | exact BK525.out | exact BK526.out | exact BK527.out
    rw [if_neg c15] at H
    have c15b0 : decide (1048576 < (a1.size : Int)) = false := decide_eq_false c15
    have c15b1 : decide (1048576 < a1.size) = false := decide_eq_false (by omega)
    clear c15
    (first | rw [c15b0] | (simp only [i64_w, i32_w]; rw [c15b0]) | skip)
    by_cases c16 : (a2.size : Int) > 1048576
    · rw [if_pos c16] at H
      have c16b0 : decide (1048576 < (a2.size : Int)) = true := decide_eq_true c16
      have c16b1 : decide (1048576 < a2.size) = true := decide_eq_true (by omega)
      clear c16
      have H' := Aside0.mk H
      clear H
      go_wp2
      go_meet
      case rel => refine ⟨_, (true), (by first | rfl | (simp; done) | (simp [*]; done)), H', ⟨by first | omega | exact Nat.le_refl _⟩, ⟨?_⟩, ⟨?_⟩, ⟨?_⟩, ⟨bB HB⟩⟩ <;> (with_reducible repeat (first | refine g_d ?_ _ | refine g_e ?_ | refine g_a ?_ _)) <;> first | exact BK525.out | exact BK526.out | exact BK527.out
    rw [if_neg c16] at H
    have c16b0 : decide (1048576 < (a2.size : Int)) = false := decide_eq_false c16
    have c16b1 : decide (1048576 < a2.size) = false := decide_eq_false (by omega)
    clear c16
    by_cases c17 : (a4.size : Int) > 1048576
    · rw [if_pos c17] at H
      have c17b0 : decide (1048576 < (a4.size : Int)) = true := decide_eq_true c17
      have c17b1 : decide (1048576 < a4.size) = true := decide_eq_true (by omega)
      clear c17
      have H' := Aside0.mk H
      clear H
      go_wp2
      go_meet
      case rel => refine ⟨_, (true), (by first | rfl | (simp; done) | (simp [*]; done)), H', ⟨by first | omega | exact Nat.le_refl _⟩, ⟨?_⟩, ⟨?_⟩, ⟨?_⟩, ⟨bB HB⟩⟩ <;> (with_reducible repeat (first | refine g_d ?_ _ | refine g_e ?_ | refine g_a ?_ _)) <;> first | exact BK525.out | exact BK526.out | exact BK527.out
    rw [if_neg c17] at H
    have c17b0 : decide (1048576 < (a4.size : Int)) = false := decide_eq_false c17
    have c17b1 : decide (1048576 < a4.size) = false := decide_eq_false (by omega)
    clear c17
    by_cases c18 : (a8.size : Int) > 1048576
    rotate_left
    · rw [if_neg c18] at H
      have c18b0 : decide (1048576 < (a8.size : Int)) = false := decide_eq_false c18
      have c18b1 : decide (1048576 < a8.size) = false := decide_eq_false (by omega)
      clear c18
      have H' := Aside0.mk H
      clear H
      go_wp2
      go_meet
      case rel => refine ⟨_, (decide ((l9.length : Int) > 10000)), (by first | rfl | (simp; done) | (simp [*]; done)), H', ⟨by first | omega | exact Nat.le_refl _⟩, ⟨?_⟩, ⟨?_⟩, ⟨?_⟩, ⟨bB HB⟩⟩ <;> (with_reducible repeat (first | refine g_d ?_ _ | refine g_e ?_ | refine g_a ?_ _)) <;> first | exact BK525.out | exact BK526.out | exact BK527.out
    rw [if_pos c18] at H
    have c18b0 : decide (1048576 < (a8.size : Int)) = true := decide_eq_true c18
    have c18b1 : decide (1048576 < a8.size) = true := decide_eq_true (by omega)
    clear c18
    have H' := Aside0.mk H
    clear H
    go_wp2
    go_meet
    case rel => refine ⟨_, (true), (by first | rfl | (simp; done) | (simp [*]; done)), H', ⟨by first | omega | exact Nat.le_refl _⟩, ⟨?_⟩, ⟨?_⟩, ⟨?_⟩, ⟨bB HB⟩⟩ <;> (with_reducible repeat (first | refine g_d ?_ _ | refine g_e ?_ | refine g_a ?_ _)) <;> first | exact BK525.out | exact BK526.out | exact BK527.out
  clear HC11
  try clear c9
  obtain ⟨kq, x89_10, rfl, HA, HJ10, BK525, BK526, BK527, HB⟩ := hcut
  rcases kq with _ | kj10
  · exact absurd HA.out (by simp [laws_FnKnobsTurnOfAll.j0])
  have H := HA.out
  clear HA
  simp only [laws_FnKnobsTurnOfAll.j0] at H
  by_cases c19 : x89_10 = true
  · subst c19
    rw [if_pos rfl] at H
    obtain rfl := Option.some.inj H
    go_wp2
    go_ret
    exact ⟨by first | rfl | (simp [errW_none, errW_some] <;> rfl) | (simp [*, errW_none, errW_some] <;> rfl), bB HB⟩
  replace c19 := Bool.eq_false_iff.mpr c19
  subst c19
  rw [if_neg (show ¬ (false = true) by decide)] at H
  replace H := Option.bind_eq_some_iff.mp H
  obtain ⟨⟨t528, t529⟩, A200, H⟩ := H
  try dsimp only at H
  have A20 := Aside0.mk A200
  clear A200
  replace H := Option.bind_eq_some_iff.mp H
  obtain ⟨⟨t530, t531⟩, A210, H⟩ := H
  try dsimp only at H
  have A21 := Aside0.mk A210
  clear A210
  replace H := Option.bind_eq_some_iff.mp H
  obtain ⟨⟨t532, t535⟩, A220, H⟩ := H
  try dsimp only at H
  have A22 := Aside0.mk A220
  clear A220
  replace H := Option.bind_eq_some_iff.mp H
  obtain ⟨⟨t536, t539⟩, A230, H⟩ := H
  try dsimp only at H
  have A23 := Aside0.mk A230
  clear A230
  replace H := Option.bind_eq_some_iff.mp H
  obtain ⟨⟨t540, t543⟩, A240, H⟩ := H
  try dsimp only at H
  have A24 := Aside0.mk A240
  clear A240
  replace H := Option.bind_eq_some_iff.mp H
  obtain ⟨⟨t544, t547⟩, A250, H⟩ := H
  try dsimp only at H
  have A25 := Aside0.mk A250
  clear A250
  have HC26 := Aside0.mk H
  clear H
  have hnb27 := eq_false NB525_526.out
  have hnc27 := eq_false NB526_525.out
  have hnb28 := eq_false NB525_527.out
  have hnc28 := eq_false NB527_525.out
  have hcz29_0 : wc.cell? ⟨gb525, 0, none⟩ = some (.int .i64 a0_0) := (blk_cell BK525.out 0).trans rfl
  have hcz29_1 : wc.cell? ⟨gb525, 1, none⟩ = some (.int .i64 a0_1) := (blk_cell BK525.out 1).trans rfl
  have hcz29_2 : wc.cell? ⟨gb525, 2, none⟩ = some (.slice A0_2 l0_2.length c0_2) := (blk_cell BK525.out 2).trans rfl
  have hfz29_0 := blk_frozen BK525.out 0
  have hfz29_1 := blk_frozen BK525.out 1
  have hfz29_2 := blk_frozen BK525.out 2
  go_upto_region 9 with (first | ((with_reducible refine gate_callee (f := 15) rfl ?_); refine goesL_ (some 94) rfl rfl Try.func15 (by kernel_rfl) rfl #[.agg #[.int .i64 a0_0, .int .i64 a0_1, .slice A0_2 l0_2.length c0_2], .string a1, .string a2] rfl (by (try simp only [m_1, m_2, m_3]); first | done | rfl | (simp only [m_4, m_5]; rfl)) ?_; (with_reducible refine (impl_FewestKnobs.calls kj10 a0_0 a0_1 _ _ l0_2 a1 a2 t528 t529 _ ?side1 ?side2 A20.out).mono ?_); (case side1 => repeat (first | exact (Kd.C_below HR0_2.out HB.out) | (with_reducible refine Kd.C_alloc ?_ _) | (with_reducible refine Kd.C_drewN ?_ _) | (with_reducible refine Kd.C_drew ?_))); (case side2 => exact HC0_2.out); rintro e w30 ⟨rfl, hb⟩; refine ⟨_, rfl, ?_⟩; replace BK525 := bbx hb BK525; replace BK526 := bbx hb BK526; replace BK527 := bbx hb BK527; replace HB := bsx hb HB; skip; (try clear hb); (try clear hb2); (try clear hk); (try clear hi); have hcz31_0 : w30.cell? ⟨gb525, 0, none⟩ = some (.int .i64 a0_0) := (blk_cell BK525.out 0).trans rfl; have hcz31_1 : w30.cell? ⟨gb525, 1, none⟩ = some (.int .i64 a0_1) := (blk_cell BK525.out 1).trans rfl; have hcz31_2 : w30.cell? ⟨gb525, 2, none⟩ = some (.slice A0_2 l0_2.length c0_2) := (blk_cell BK525.out 2).trans rfl; have hfz31_0 := blk_frozen BK525.out 0; have hfz31_1 := blk_frozen BK525.out 1; have hfz31_2 := blk_frozen BK525.out 2) | ((with_reducible refine gate_callee (f := 16) rfl ?_); refine goesL_ (some 101) rfl rfl Try.func16 (by kernel_rfl) rfl #[.agg #[.int .i64 a0_0, .int .i64 a0_1, .slice A0_2 l0_2.length c0_2], .string a1, .string a2] rfl (by (try simp only [m_1, m_2, m_3]); first | done | rfl | (simp only [m_4, m_5]; rfl)) ?_; (with_reducible refine (spec_FewestKnobs.calls kj10 a0_0 a0_1 _ _ l0_2 a1 a2 t530 t531 _ ?side1 ?side2 A21.out).mono ?_); (case side1 => repeat (first | exact (Kd.C_below HR0_2.out HB.out) | (with_reducible refine Kd.C_alloc ?_ _) | (with_reducible refine Kd.C_drewN ?_ _) | (with_reducible refine Kd.C_drew ?_))); (case side2 => exact HC0_2.out); rintro e w32 ⟨rfl, hb⟩; refine ⟨_, rfl, ?_⟩; replace BK525 := bbx hb BK525; replace BK526 := bbx hb BK526; replace BK527 := bbx hb BK527; replace HB := bsx hb HB; skip; (try clear hb); (try clear hb2); (try clear hk); (try clear hi); have hcz33_0 : w32.cell? ⟨gb525, 0, none⟩ = some (.int .i64 a0_0) := (blk_cell BK525.out 0).trans rfl; have hcz33_1 : w32.cell? ⟨gb525, 1, none⟩ = some (.int .i64 a0_1) := (blk_cell BK525.out 1).trans rfl; have hcz33_2 : w32.cell? ⟨gb525, 2, none⟩ = some (.slice A0_2 l0_2.length c0_2) := (blk_cell BK525.out 2).trans rfl; have hfz33_0 := blk_frozen BK525.out 0; have hfz33_1 := blk_frozen BK525.out 1; have hfz33_2 := blk_frozen BK525.out 2) | ((with_reducible refine gate_callee (f := 9) rfl ?_); refine goesL_ (some 108) rfl rfl Try.func9 (by kernel_rfl) rfl #[.agg #[.int .i64 a0_0, .int .i64 a0_1, .slice A0_2 l0_2.length c0_2], .string a1, .string a2] rfl (by (try simp only [m_1, m_2, m_3]); first | done | rfl | (simp only [m_4, m_5]; rfl)) ?_; (with_reducible refine (impl_FirstKnobs.calls kj10 a0_0 a0_1 _ _ l0_2 a1 a2 t532 t535 _ ?side1 ?side2 A22.out).mono ?_); (case side1 => repeat (first | exact (Kd.C_below HR0_2.out HB.out) | (with_reducible refine Kd.C_alloc ?_ _) | (with_reducible refine Kd.C_drewN ?_ _) | (with_reducible refine Kd.C_drew ?_))); (case side2 => exact HC0_2.out); rintro e w34 ⟨v533, rfl, ho0, hb⟩; refine ⟨_, rfl, ?_⟩; have n0_ := Aside0.mk (Kd.R_lower ho0 (below_size (bB HB))); replace BK525 := bbx hb BK525; replace BK526 := bbx hb BK526; replace BK527 := bbx hb BK527; have n4_ := bsx hb HB; clear HB; have HO534 := n0_; have HB := n4_; clear n0_ n4_; (try clear hb); (try clear hb2); (try clear hk); (try clear hi); (try clear ho0); have hcz35_0 : w34.cell? ⟨gb525, 0, none⟩ = some (.int .i64 a0_0) := (blk_cell BK525.out 0).trans rfl; have hcz35_1 : w34.cell? ⟨gb525, 1, none⟩ = some (.int .i64 a0_1) := (blk_cell BK525.out 1).trans rfl; have hcz35_2 : w34.cell? ⟨gb525, 2, none⟩ = some (.slice A0_2 l0_2.length c0_2) := (blk_cell BK525.out 2).trans rfl; have hfz35_0 := blk_frozen BK525.out 0; have hfz35_1 := blk_frozen BK525.out 1; have hfz35_2 := blk_frozen BK525.out 2) | ((with_reducible refine gate_callee (f := 7) rfl ?_); refine goesL_ (some 115) rfl rfl Try.func7 (by kernel_rfl) rfl #[.agg #[.int .i64 a0_0, .int .i64 a0_1, .slice A0_2 l0_2.length c0_2], .string a1, .string a2] rfl (by (try simp only [m_1, m_2, m_3]); first | done | rfl | (simp only [m_4, m_5]; rfl)) ?_; (with_reducible refine (spec_FirstKnobs.calls kj10 a0_0 a0_1 _ _ l0_2 a1 a2 t536 t539 _ ?side1 ?side2 A23.out).mono ?_); (case side1 => repeat (first | exact (Kd.C_below HR0_2.out HB.out) | (with_reducible refine Kd.C_alloc ?_ _) | (with_reducible refine Kd.C_drewN ?_ _) | (with_reducible refine Kd.C_drew ?_))); (case side2 => exact HC0_2.out); rintro e w36 ⟨v537, rfl, ho0, hb⟩; refine ⟨_, rfl, ?_⟩; have n0_ := Aside0.mk (Kd.R_elder' (by (with_reducible repeat (first | apply r_a | apply r_d | apply r_e)); exact HO534.out) (Kd.R_base ho0) hb); have n1_ := Aside0.mk (Kd.R_lower (Kd.R_new' ho0 (Kd.R_lt (by (with_reducible repeat (first | apply r_a | apply r_d | apply r_e)); exact HO534.out))) (below_size (bB HB))); replace BK525 := bbx hb BK525; replace BK526 := bbx hb BK526; replace BK527 := bbx hb BK527; have n5_ := bsx hb HB; clear HO534; clear HB; have HO534 := n0_; have HO538 := n1_; have HB := n5_; clear n0_ n1_ n5_; (try clear hb); (try clear hb2); (try clear hk); (try clear hi); (try clear ho0); have hcz37_0 : w36.cell? ⟨gb525, 0, none⟩ = some (.int .i64 a0_0) := (blk_cell BK525.out 0).trans rfl; have hcz37_1 : w36.cell? ⟨gb525, 1, none⟩ = some (.int .i64 a0_1) := (blk_cell BK525.out 1).trans rfl; have hcz37_2 : w36.cell? ⟨gb525, 2, none⟩ = some (.slice A0_2 l0_2.length c0_2) := (blk_cell BK525.out 2).trans rfl; have hfz37_0 := blk_frozen BK525.out 0; have hfz37_1 := blk_frozen BK525.out 1; have hfz37_2 := blk_frozen BK525.out 2) | ((with_reducible refine gate_callee (f := 17) rfl ?_); refine goesL_ (some 122) rfl rfl Try.func17 (by kernel_rfl) rfl #[.agg #[.int .i64 a0_0, .int .i64 a0_1, .slice A0_2 l0_2.length c0_2], .string a1, .string a2] rfl (by (try simp only [m_1, m_2, m_3]); first | done | rfl | (simp only [m_4, m_5]; rfl)) ?_; (with_reducible refine (impl_TimesFor.calls kj10 a0_0 a0_1 _ _ l0_2 a1 a2 t540 t543 _ ?side1 ?side2 A24.out).mono ?_); (case side1 => repeat (first | exact (Kd.C_below HR0_2.out HB.out) | (with_reducible refine Kd.C_alloc ?_ _) | (with_reducible refine Kd.C_drewN ?_ _) | (with_reducible refine Kd.C_drew ?_))); (case side2 => exact HC0_2.out); rintro e w38 ⟨v541, rfl, ho0, hb⟩; refine ⟨_, rfl, ?_⟩; have n0_ := Aside0.mk (Kd.R_below (by (with_reducible repeat (first | apply r_a | apply r_d | apply r_e)); exact HO534.out) hb); have n1_ := Aside0.mk (Kd.R_below (by (with_reducible repeat (first | apply r_a | apply r_d | apply r_e)); exact HO538.out) hb); have n2_ := Aside0.mk (Kd.R_lower ho0 (below_size (bB HB))); replace BK525 := bbx hb BK525; replace BK526 := bbx hb BK526; replace BK527 := bbx hb BK527; have n6_ := bsx hb HB; clear HO534; clear HO538; clear HB; have HO534 := n0_; have HO538 := n1_; have HO542 := n2_; have HB := n6_; clear n0_ n1_ n2_ n6_; (try clear hb); (try clear hb2); (try clear hk); (try clear hi); (try clear ho0); have hcz39_0 : w38.cell? ⟨gb525, 0, none⟩ = some (.int .i64 a0_0) := (blk_cell BK525.out 0).trans rfl; have hcz39_1 : w38.cell? ⟨gb525, 1, none⟩ = some (.int .i64 a0_1) := (blk_cell BK525.out 1).trans rfl; have hcz39_2 : w38.cell? ⟨gb525, 2, none⟩ = some (.slice A0_2 l0_2.length c0_2) := (blk_cell BK525.out 2).trans rfl; have hfz39_0 := blk_frozen BK525.out 0; have hfz39_1 := blk_frozen BK525.out 1; have hfz39_2 := blk_frozen BK525.out 2) | ((with_reducible refine gate_callee (f := 18) rfl ?_); refine goesL_ (some 129) rfl rfl Try.func18 (by kernel_rfl) rfl #[.agg #[.int .i64 a0_0, .int .i64 a0_1, .slice A0_2 l0_2.length c0_2], .string a1, .string a2] rfl (by (try simp only [m_1, m_2, m_3]); first | done | rfl | (simp only [m_4, m_5]; rfl)) ?_; (with_reducible refine (spec_TimesFor.calls kj10 a0_0 a0_1 _ _ l0_2 a1 a2 t544 t547 _ ?side1 ?side2 A25.out).mono ?_); (case side1 => repeat (first | exact (Kd.C_below HR0_2.out HB.out) | (with_reducible refine Kd.C_alloc ?_ _) | (with_reducible refine Kd.C_drewN ?_ _) | (with_reducible refine Kd.C_drew ?_))); (case side2 => exact HC0_2.out); rintro e w40 ⟨v545, rfl, ho0, hb⟩; refine ⟨_, rfl, ?_⟩; have n0_ := Aside0.mk (Kd.R_below (by (with_reducible repeat (first | apply r_a | apply r_d | apply r_e)); exact HO534.out) hb); have n1_ := Aside0.mk (Kd.R_below (by (with_reducible repeat (first | apply r_a | apply r_d | apply r_e)); exact HO538.out) hb); have n2_ := Aside0.mk (Kd.R_elder' (by (with_reducible repeat (first | apply r_a | apply r_d | apply r_e)); exact HO542.out) (Kd.R_base ho0) hb); have n3_ := Aside0.mk (Kd.R_lower (Kd.R_new' ho0 (Kd.R_lt (by (with_reducible repeat (first | apply r_a | apply r_d | apply r_e)); exact HO542.out))) (below_size (bB HB))); replace BK525 := bbx hb BK525; replace BK526 := bbx hb BK526; replace BK527 := bbx hb BK527; have n7_ := bsx hb HB; clear HO534; clear HO538; clear HO542; clear HB; have HO534 := n0_; have HO538 := n1_; have HO542 := n2_; have HO546 := n3_; have HB := n7_; clear n0_ n1_ n2_ n3_ n7_; (try clear hb); (try clear hb2); (try clear hk); (try clear hi); (try clear ho0)))
  (try simp only [Act.put, s_1, s_2, s_3])
  go_cut [186] from 1 to 0 (fun v186 wc => ∃ (kq : Nat) (x186_25 : Bool), v186 = .bool x186_25 ∧ Aside0 (laws_FnKnobsTurnOfAll.j1 kq a1 a2 a4 a5 a6 a8 l9 t528 t529 t532 t540 x186_25 a0_0 a0_1 l0_2 a3_0 a3_1 l3_2 a7_0 a7_1 l7_2 = some r) ∧ Aside0 (kq ≤ kj10) ∧ Aside0 (Kd.R k48 48 wc w.heap.size (fun _ => True) v533 t532) ∧ Aside0 (Kd.R (Kd.int .i64) 3 wc w.heap.size (fun _ => True) v541 t540) ∧ Aside0 (wc.heap[gb525]? = some (.cells #[.int .i64 a0_0, .int .i64 a0_1, (.slice A0_2 l0_2.length c0_2)] 33 (0, 0))) ∧ Aside0 (wc.heap[gb526]? = some (.cells #[.int .i64 a3_0, .int .i64 a3_1, (.slice A3_2 l3_2.length c3_2)] 33 (0, 0))) ∧ Aside0 (wc.heap[gb527]? = some (.cells #[.int .i64 a7_0, .int .i64 a7_1, (.slice A7_2 l7_2.length c7_2)] 33 (0, 0))) ∧ Aside0 (Below w.heap.size w wc))
  case first => as_aux_lemma =>
    have H := HC26.out
    clear HC26
    by_cases c41 : (t529 != t531) = true
    · rw [if_pos c41] at H
      have c41b0 : (t529 != t531) = true := c41
      (try (have c41b1 : decide (t529 = t531) = false := by simpa using c41))
      (try (have c41b2 : (t529 == t531) = false := by simpa using c41))
      (try (have c41b3 : ¬ (t529 = t531) := by simpa using c41))
      clear c41
      (first | rw [c41b0] | (simp only [i64_w, i32_w]; rw [c41b0]) | skip)
      rw [HRT.out] at H
      exact absurd H (by generalize kj10 = q_; cases q_ <;> simp [laws_FnKnobsTurnOfAll.j1])
    rw [if_neg c41] at H
    have c41b0 : (t529 != t531) = false := by simpa using c41
    (try (have c41b1 : decide (t529 = t531) = true := by simpa using c41))
    (try (have c41b2 : (t529 == t531) = true := by simpa using c41))
    clear c41
    (first | rw [c41b0] | (simp only [i64_w, i32_w]; rw [c41b0]) | skip)
    by_cases c42 : t528 = t530
    rotate_left
    · rw [if_neg c42] at H
      have c42b0 : (t528 == t530) = false := beq_eq_false_iff_ne.mpr c42
      have c42b1 : (t528 != t530) = true := bne_iff_ne.mpr c42
      rw [HRT.out] at H
      exact absurd H (by generalize kj10 = q_; cases q_ <;> simp [laws_FnKnobsTurnOfAll.j1])
    rw [if_pos c42] at H
    have c42b0 : (t528 == t530) = true := beq_iff_eq.mpr c42
    have c42b1 : (t528 != t530) = false := bne_eq_false_iff_eq.mpr c42
    clear c42
    by_cases c43 : (t535 != t539) = true
    · rw [if_pos c43] at H
      have c43b0 : (t535 != t539) = true := c43
      (try (have c43b1 : decide (t535 = t539) = false := by simpa using c43))
      (try (have c43b2 : (t535 == t539) = false := by simpa using c43))
      (try (have c43b3 : ¬ (t535 = t539) := by simpa using c43))
      clear c43
      rw [HRT.out] at H
      exact absurd H (by generalize kj10 = q_; cases q_ <;> simp [laws_FnKnobsTurnOfAll.j1])
    rw [if_neg c43] at H
    have c43b0 : (t535 != t539) = false := by simpa using c43
    (try (have c43b1 : decide (t535 = t539) = true := by simpa using c43))
    (try (have c43b2 : (t535 == t539) = true := by simpa using c43))
    clear c43
    replace H := Option.bind_eq_some_iff.mp H
    obtain ⟨t548, A440, H⟩ := H
    try dsimp only at H
    have A44 := Aside0.mk A440
    clear A440
    by_cases c45 : t548 = true
    rotate_left
    · replace c45 := Bool.eq_false_iff.mpr c45
      subst c45
      rw [if_neg (show ¬ (false = true) by decide)] at H
      rw [HRT.out] at H
      exact absurd H (by generalize kj10 = q_; cases q_ <;> simp [laws_FnKnobsTurnOfAll.j1])
    subst c45
    rw [if_pos rfl] at H
    by_cases c46 : (t543 != t547) = true
    · rw [if_pos c46] at H
      have c46b0 : (t543 != t547) = true := c46
      (try (have c46b1 : decide (t543 = t547) = false := by simpa using c46))
      (try (have c46b2 : (t543 == t547) = false := by simpa using c46))
      (try (have c46b3 : ¬ (t543 = t547) := by simpa using c46))
      clear c46
      rw [HRT.out] at H
      exact absurd H (by generalize kj10 = q_; cases q_ <;> simp [laws_FnKnobsTurnOfAll.j1])
    rw [if_neg c46] at H
    have c46b0 : (t543 != t547) = false := by simpa using c46
    (try (have c46b1 : decide (t543 = t547) = true := by simpa using c46))
    (try (have c46b2 : (t543 == t547) = true := by simpa using c46))
    clear c46
    replace H := Option.bind_eq_some_iff.mp H
    obtain ⟨t549, A470, H⟩ := H
    try dsimp only at H
    have A47 := Aside0.mk A470
    clear A470
    by_cases c48 : t549 = true
    rotate_left
    · replace c48 := Bool.eq_false_iff.mpr c48
      subst c48
      rw [if_neg (show ¬ (false = true) by decide)] at H
      rw [HRT.out] at H
      exact absurd H (by generalize kj10 = q_; cases q_ <;> simp [laws_FnKnobsTurnOfAll.j1])
    subst c48
    rw [if_pos rfl] at H
    by_cases c49 : (t535 != t529) = true
    · rw [if_pos c49] at H
      have c49b0 : (t535 != t529) = true := c49
      (try (have c49b1 : decide (t535 = t529) = false := by simpa using c49))
      (try (have c49b2 : (t535 == t529) = false := by simpa using c49))
      (try (have c49b3 : ¬ (t535 = t529) := by simpa using c49))
      clear c49
      rw [HRT.out] at H
      exact absurd H (by generalize kj10 = q_; cases q_ <;> simp [laws_FnKnobsTurnOfAll.j1])
    rw [if_neg c49] at H
    have c49b0 : (t535 != t529) = false := by simpa using c49
    (try (have c49b1 : decide (t535 = t529) = true := by simpa using c49))
    (try (have c49b2 : (t535 == t529) = true := by simpa using c49))
    clear c49
    by_cases c50 : (t543 != t529) = true
    · rw [if_pos c50] at H
      have c50b0 : (t543 != t529) = true := c50
      (try (have c50b1 : decide (t543 = t529) = false := by simpa using c50))
      (try (have c50b2 : (t543 == t529) = false := by simpa using c50))
      (try (have c50b3 : ¬ (t543 = t529) := by simpa using c50))
      clear c50
      rw [HRT.out] at H
      exact absurd H (by generalize kj10 = q_; cases q_ <;> simp [laws_FnKnobsTurnOfAll.j1])
    rw [if_neg c50] at H
    have c50b0 : (t543 != t529) = false := by simpa using c50
    (try (have c50b1 : decide (t543 = t529) = true := by simpa using c50))
    (try (have c50b2 : (t543 == t529) = true := by simpa using c50))
    clear c50
    replace H := Option.bind_eq_some_iff.mp H
    obtain ⟨t550, A510, H⟩ := H
    try dsimp only at H
    have A51 := Aside0.mk A510
    clear A510
    replace H := Option.bind_eq_some_iff.mp H
    obtain ⟨t551, A520, H⟩ := H
    try dsimp only at H
    have A52 := Aside0.mk A520
    clear A520
    by_cases c53 : (t550 != t551) = true
    · rw [if_pos c53] at H
      have c53b0 : (t550 != t551) = true := c53
      (try (have c53b1 : decide (t550 = t551) = false := by simpa using c53))
      (try (have c53b2 : (t550 == t551) = false := by simpa using c53))
      (try (have c53b3 : ¬ (t550 = t551) := by simpa using c53))
      clear c53
      rw [HRT.out] at H
      exact absurd H (by generalize kj10 = q_; cases q_ <;> simp [laws_FnKnobsTurnOfAll.j1])
    rw [if_neg c53] at H
    have c53b0 : (t550 != t551) = false := by simpa using c53
    (try (have c53b1 : decide (t550 = t551) = true := by simpa using c53))
    (try (have c53b2 : (t550 == t551) = true := by simpa using c53))
    clear c53
    by_cases c54 : t529 = true
    rotate_left
    · replace c54 := Bool.eq_false_iff.mpr c54
      subst c54
      rw [if_neg (show ¬ (false = true) by decide)] at H
      have H' := Aside0.mk H
      clear H
      try go_wp2
      have n0_ := Aside0.mk (r_e HO534.out)
      have n1_ := Aside0.mk (r_e HO538.out)
      have n2_ := Aside0.mk (r_e HO542.out)
      have n3_ := Aside0.mk (r_e HO546.out)
      have n4_ := Aside0.mk (g_e BK525.out)
      have n5_ := Aside0.mk (g_e BK526.out)
      have n6_ := Aside0.mk (g_e BK527.out)
      have n7_ := Aside0.mk (b_e HB.out)
      clear HO534
      clear HO538
      clear HO542
      clear HO546
      clear BK525
      clear BK526
      clear BK527
      clear HB
      have HO534 := n0_
      have HO538 := n1_
      have HO542 := n2_
      have HO546 := n3_
      have BK525 := n4_
      have BK526 := n5_
      have BK527 := n6_
      have HB := n7_
      clear n0_ n1_ n2_ n3_ n4_ n5_ n6_ n7_
      obtain ⟨Ao65, co65, eo65⟩ := Kd.R_slice HO534.out
      (first | subst eo65 | (injection eo65 with f1_ f2_ f3_; have f4_ := f1_.symm; have f5_ := f3_.symm; clear f1_ f2_ f3_; subst f4_; subst f5_))
      obtain ⟨Ao66, co66, eo66⟩ := Kd.R_slice HO538.out
      (first | subst eo66 | (injection eo66 with f1_ f2_ f3_; have f4_ := f1_.symm; have f5_ := f3_.symm; clear f1_ f2_ f3_; subst f4_; subst f5_))
      refine start_ (n := 55) (S := fun w' => w'.cell? ⟨gb525, 0, none⟩ = some (.int .i64 a0_0) ∧ w'.cell? ⟨gb525, 1, none⟩ = some (.int .i64 a0_1) ∧ w'.cell? ⟨gb525, 2, none⟩ = some (.slice A0_2 l0_2.length c0_2)) (ds := []) (bs_ 55 0) (by kernel_rfl) rfl rfl ⟨(blk_cell BK525.out 0).trans rfl, (blk_cell BK525.out 1).trans rfl, (blk_cell BK525.out 2).trans rfl⟩ (fun hHeld => ?_); refine with_tabW laws_FnKnobsTurnOfAll.tab9 laws_FnKnobsTurnOfAll.bits9 (fun HT_ HW_ => ?_)
      generalize w40.drew = w64 at HO534 HO538 HO542 HO546 BK525 BK526 BK527 HB hHeld ⊢
      refine pua 0 132 (bs_ 55 1) HT_ ?_
      refine pua 1 133 (bs_ 55 3) HT_ ?_
      refine pua 2 134 (bs_ 55 7) HT_ ?_
      refine pua 3 135 (bs_ 55 15) HT_ ?_
      refine pua 4 136 (bs_ 55 31) HT_ ?_
      refine pua 5 137 (bs_ 55 63) HT_ ?_
      refine pua 6 138 (bs_ 55 127) HT_ ?_
      refine pua 7 139 (bs_ 55 255) HT_ ?_
      refine pua 8 140 (bs_ 55 511) HT_ ?_
      refine pua 9 141 (bs_ 55 1023) HT_ ?_
      refine pua 10 142 (bs_ 55 2047) HT_ ?_
      refine pua 11 143 (bs_ 55 4095) HT_ ?_
      refine pua 12 144 (bs_ 55 8191) HT_ ?_
      refine pua 13 145 (bs_ 55 16383) HT_ ?_
      refine pua 14 146 (bs_ 55 32767) HT_ ?_
      refine pua 15 147 (bs_ 55 65535) HT_ ?_
      refine one_ (i := 16) (N := some 148) (bs_ 55 131071) rfl rfl (one_of HT_.out (by kernel_rfl)) (by decide) (fun K hK => ?_)
      refine goes_ Try.func19 (by kernel_rfl) rfl #[.slice Ao65 t532.length co65, .slice Ao66 t536.length co66] (by rfl) rfl rfl (by (try simp only [m_1, m_2, m_3]); first | done | rfl | (simp only [m_4, m_5]; rfl)) ?_
      with_reducible refine (laws_eTurns.calls kj10 _ _ t532 _ _ t536 true _ ?side1 ?side2 ?side3 ?side4 A44.out).mono ?_
      (case side1 => repeat (first | exact (Kd.R_reads' HO534.out).2.2 | (with_reducible refine Kd.C_alloc ?_ _) | (with_reducible refine Kd.C_drewN ?_ _) | (with_reducible refine Kd.C_drew ?_)))
      (case side2 => exact (Kd.R_reads' HO534.out).2.1)
      (case side3 => repeat (first | exact (Kd.R_reads' HO538.out).2.2 | (with_reducible refine Kd.C_alloc ?_ _) | (with_reducible refine Kd.C_drewN ?_ _) | (with_reducible refine Kd.C_drew ?_)))
      (case side4 => exact (Kd.R_reads' HO538.out).2.1)
      rintro e w' ⟨rfl, ⟨nd, rfl⟩⟩
      refine ⟨_, rfl, ?_⟩
      obtain ⟨Ao67, co67, eo67⟩ := Kd.R_slice HO542.out
      (first | subst eo67 | (injection eo67 with f1_ f2_ f3_; have f4_ := f1_.symm; have f5_ := f3_.symm; clear f1_ f2_ f3_; subst f4_; subst f5_))
      obtain ⟨Ao68, co68, eo68⟩ := Kd.R_slice HO546.out
      (first | subst eo68 | (injection eo68 with f1_ f2_ f3_; have f4_ := f1_.symm; have f5_ := f3_.symm; clear f1_ f2_ f3_; subst f4_; subst f5_))
      refine hK.out _ _ ⟨(blk_cell BK525.out 0).trans rfl, (blk_cell BK525.out 1).trans rfl, (blk_cell BK525.out 2).trans rfl⟩ (fun hHeld => ?_)
      clear hK K
      refine norm_ (a' := ?_) ?_ ?_
      rotate_left
      · show Act.put _ (some 148) _ = _
        simp only [Act.put, s_1, s_2, s_3, i64_w, i32_w]
        rfl
      refine pua 17 149 (bs_ 55 262143) HT_ ?_
      refine pua 18 150 (bs_ 55 524287) HT_ ?_
      refine pua 19 151 (bs_ 55 1048575) HT_ ?_
      refine pua 20 152 (bs_ 55 2097151) HT_ ?_
      refine pua 21 153 (bs_ 55 4194303) HT_ ?_
      refine pua 22 154 (bs_ 55 8388607) HT_ ?_
      refine pua 23 155 (bs_ 55 16777215) HT_ ?_
      refine pua 24 156 (bs_ 55 33554431) HT_ ?_
      refine pua 25 157 (bs_ 55 67108863) HT_ ?_
      refine pua 26 158 (bs_ 55 134217727) HT_ ?_
      refine one_ (i := 27) (N := some 159) (bs_ 55 268435455) rfl rfl (one_of HT_.out (by kernel_rfl)) (by decide) (fun K hK => ?_)
      refine goes_ Try.func20 (by kernel_rfl) rfl #[.slice Ao67 t540.length co67, .slice Ao68 t544.length co68] (by rfl) rfl rfl (by (try simp only [m_1, m_2, m_3]); first | done | rfl | (simp only [m_4, m_5]; rfl)) ?_
      with_reducible refine (laws_eSame.calls kj10 _ _ t540 _ _ t544 true _ ?side1 ?side2 ?side3 ?side4 A47.out).mono ?_
      (case side1 => repeat (first | exact (Kd.R_reads' HO542.out).2.2 | (with_reducible refine Kd.C_alloc ?_ _) | (with_reducible refine Kd.C_drewN ?_ _) | (with_reducible refine Kd.C_drew ?_)))
      (case side2 => exact (Kd.R_reads' HO542.out).2.1)
      (case side3 => repeat (first | exact (Kd.R_reads' HO546.out).2.2 | (with_reducible refine Kd.C_alloc ?_ _) | (with_reducible refine Kd.C_drewN ?_ _) | (with_reducible refine Kd.C_drew ?_)))
      (case side4 => exact (Kd.R_reads' HO546.out).2.1)
      rintro e w' ⟨rfl, ⟨nd, rfl⟩⟩
      refine ⟨_, rfl, ?_⟩
      refine hK.out _ _ ⟨(blk_cell BK525.out 0).trans rfl, (blk_cell BK525.out 1).trans rfl, (blk_cell BK525.out 2).trans rfl⟩ (fun hHeld => ?_)
      clear hK K
      refine norm_ (a' := ?_) ?_ ?_
      rotate_left
      · show Act.put _ (some 159) _ = _
        simp only [Act.put, s_1, s_2, s_3, i64_w, i32_w]
        rfl
      refine pua 28 160 (bs_ 55 536870911) HT_ ?_
      refine pua 29 161 (bs_ 55 1073741823) HT_ ?_
      refine pua 30 162 (bs_ 55 2147483647) HT_ ?_
      refine pua 31 163 (bs_ 55 4294967295) HT_ ?_
      refine pua 32 164 (bs_ 55 8589934591) HT_ ?_
      refine pua 33 165 (bs_ 55 17179869183) HT_ ?_
      refine pua 34 166 (bs_ 55 34359738367) HT_ ?_
      refine pua 35 167 (bs_ 55 68719476735) HT_ ?_
      refine pua 36 168 (bs_ 55 137438953471) HT_ ?_
      refine pua 37 169 (bs_ 55 274877906943) HT_ ?_
      refine pua 38 170 (bs_ 55 549755813887) HT_ ?_
      refine pua 39 171 (bs_ 55 1099511627775) HT_ ?_
      refine pua 40 172 (bs_ 55 2199023255551) HT_ ?_
      refine tk_ 41 173 (bs_ 55 4398046511103) rfl rfl HT_ HW_ (by kernel_rfl) (fun _ _ _ h => h) (by rfl) hHeld (by rintro w' ⟨s0, s1, s2⟩; go_simp; with_reducible rfl) (by simp only [Act.put, s_1, s_2, s_3, i64_w, i32_w]; rfl) ?_
      refine tk_ 43 175 (bs_ 55 13194139533311) rfl rfl HT_ HW_ (by kernel_rfl) (fun _ _ _ h => h) (by rfl) hHeld (by rintro w' ⟨s0, s1, s2⟩; go_simp; with_reducible rfl) (by simp only [Act.put, s_1, s_2, s_3, i64_w, i32_w]; rfl) ?_
      refine one_ (i := 42) (N := some 174) (bs_ 55 17592186044415) rfl rfl (one_of HT_.out (by kernel_rfl)) (by decide) (fun K hK => ?_)
      refine goes_ Try.func21 (by kernel_rfl) rfl #[.agg #[.int .i64 a0_0, .int .i64 a0_1, .slice A0_2 l0_2.length c0_2]] (by rfl) rfl rfl (by (try simp only [m_1, m_2, m_3]); first | done | rfl | (simp only [m_4, m_5]; rfl)) ?_
      with_reducible refine (impl_AreGears.calls kj10 a0_0 a0_1 _ _ l0_2 t550 _ ?side1 ?side2 A51.out).mono ?_
      (case side1 => repeat (first | exact (Kd.C_below HR0_2.out (bB HB)) | (with_reducible refine Kd.C_alloc ?_ _) | (with_reducible refine Kd.C_drewN ?_ _) | (with_reducible refine Kd.C_drew ?_)))
      (case side2 => exact HC0_2.out)
      rintro e w69 ⟨rfl, hb⟩
      refine ⟨_, rfl, ?_⟩
      have n0_ := Aside0.mk (Kd.R_below (by (with_reducible repeat (first | apply r_a | apply r_d | apply r_e)); exact HO534.out) hb)
      have n1_ := Aside0.mk (Kd.R_below (by (with_reducible repeat (first | apply r_a | apply r_d | apply r_e)); exact HO538.out) hb)
      have n2_ := Aside0.mk (Kd.R_below (by (with_reducible repeat (first | apply r_a | apply r_d | apply r_e)); exact HO542.out) hb)
      have n3_ := Aside0.mk (Kd.R_below (by (with_reducible repeat (first | apply r_a | apply r_d | apply r_e)); exact HO546.out) hb)
      have n4_ := bbx hb BK525
      have n5_ := bbx hb BK526
      have n6_ := bbx hb BK527
      have n7_ := bsx hb HB
      clear HO534
      clear HO538
      clear HO542
      clear HO546
      clear BK525
      clear BK526
      clear BK527
      clear HB
      have HO534 := n0_
      have HO538 := n1_
      have HO542 := n2_
      have HO546 := n3_
      have BK525 := n4_
      have BK526 := n5_
      have BK527 := n6_
      have HB := n7_
      clear n0_ n1_ n2_ n3_ n4_ n5_ n6_ n7_
      (try clear hb)
      (try clear hb2)
      (try clear hk)
      (try clear hi)
      refine hK.out _ _ ⟨(blk_cell BK525.out 0).trans rfl, (blk_cell BK525.out 1).trans rfl, (blk_cell BK525.out 2).trans rfl⟩ (fun hHeld => ?_)
      clear hK K
      refine norm_ (a' := ?_) ?_ ?_
      rotate_left
      · show Act.put _ (some 174) _ = _
        simp only [Act.put, s_1, s_2, s_3, i64_w, i32_w]
        rfl
      refine one_ (i := 44) (N := some 176) (bs_ 55 35184372088831) rfl rfl (one_of HT_.out (by kernel_rfl)) (by decide) (fun K hK => ?_)
      refine goes_ Try.func22 (by kernel_rfl) rfl #[.agg #[.int .i64 a0_0, .int .i64 a0_1, .slice A0_2 l0_2.length c0_2]] (by rfl) rfl rfl (by (try simp only [m_1, m_2, m_3]); first | done | rfl | (simp only [m_4, m_5]; rfl)) ?_
      with_reducible refine (spec_AreGears.calls kj10 a0_0 a0_1 _ _ l0_2 t551 _ ?side1 ?side2 A52.out).mono ?_
      (case side1 => repeat (first | exact (Kd.C_below HR0_2.out HB.out) | (with_reducible refine Kd.C_alloc ?_ _) | (with_reducible refine Kd.C_drewN ?_ _) | (with_reducible refine Kd.C_drew ?_)))
      (case side2 => exact HC0_2.out)
      rintro e w70 ⟨rfl, hb⟩
      refine ⟨_, rfl, ?_⟩
      have n0_ := Aside0.mk (Kd.R_below (by (with_reducible repeat (first | apply r_a | apply r_d | apply r_e)); exact HO534.out) hb)
      have n1_ := Aside0.mk (Kd.R_below (by (with_reducible repeat (first | apply r_a | apply r_d | apply r_e)); exact HO538.out) hb)
      have n2_ := Aside0.mk (Kd.R_below (by (with_reducible repeat (first | apply r_a | apply r_d | apply r_e)); exact HO542.out) hb)
      have n3_ := Aside0.mk (Kd.R_below (by (with_reducible repeat (first | apply r_a | apply r_d | apply r_e)); exact HO546.out) hb)
      have n4_ := bbx hb BK525
      have n5_ := bbx hb BK526
      have n6_ := bbx hb BK527
      have n7_ := bsx hb HB
      clear HO534
      clear HO538
      clear HO542
      clear HO546
      clear BK525
      clear BK526
      clear BK527
      clear HB
      have HO534 := n0_
      have HO538 := n1_
      have HO542 := n2_
      have HO546 := n3_
      have BK525 := n4_
      have BK526 := n5_
      have BK527 := n6_
      have HB := n7_
      clear n0_ n1_ n2_ n3_ n4_ n5_ n6_ n7_
      (try clear hb)
      (try clear hb2)
      (try clear hk)
      (try clear hi)
      refine hK.out _ _ ⟨(blk_cell BK525.out 0).trans rfl, (blk_cell BK525.out 1).trans rfl, (blk_cell BK525.out 2).trans rfl⟩ (fun hHeld => ?_)
      clear hK K
      refine norm_ (a' := ?_) ?_ ?_
      rotate_left
      · show Act.put _ (some 176) _ = _
        simp only [Act.put, s_1, s_2, s_3, i64_w, i32_w]
        rfl
      refine pua 45 177 (bs_ 55 70368744177663) HT_ ?_
      refine pua 46 178 (bs_ 55 140737488355327) HT_ ?_
      refine pua 47 179 (bs_ 55 281474976710655) HT_ ?_
      refine pua 48 180 (bs_ 55 562949953421311) HT_ ?_
      refine pua 49 181 (bs_ 55 1125899906842623) HT_ ?_
      refine pv_ 50 182 (bs_ 55 2251799813685247) rfl rfl HT_ (by kernel_rfl) (fun _ _ _ h => h) (by rfl) (by simp only [Act.put, s_1, s_2, s_3, i64_w, i32_w]; rfl) ?_
      refine pv_ 51 183 (bs_ 55 4503599627370495) rfl rfl HT_ (by kernel_rfl) (fun _ _ _ h => h) (by rfl) (by simp only [Act.put, s_1, s_2, s_3, i64_w, i32_w]; rfl) ?_
      refine pv_ 52 184 (bs_ 55 9007199254740991) rfl rfl HT_ (by kernel_rfl) (fun _ _ _ h => h) (by rfl) (by simp only [Act.put, s_1, s_2, s_3, i64_w, i32_w]; rfl) ?_
      refine pua 53 185 (bs_ 55 18014398509481983) HT_ ?_
      refine pua 54 186 (bs_ 55 36028797018963967) HT_ ?_
      refine done_ (done_of HT_.out (by kernel_rfl)) ?_
      try go_wp2
      go_meet
      case rel => refine ⟨_, (false), (by first | rfl | (simp; done) | (simp [*]; done)), H', ⟨by have := HJ10.out; first | omega | exact Nat.le_refl _⟩, ⟨by (with_reducible repeat (first | apply r_a | apply r_d | apply r_e)); exact Kd.R_mono HO534.out (fun _ hk => trivial)⟩, ⟨by (with_reducible repeat (first | apply r_a | apply r_d | apply r_e)); exact Kd.R_mono HO542.out (fun _ hk => trivial)⟩, ⟨?_⟩, ⟨?_⟩, ⟨?_⟩, ⟨bB HB⟩⟩ <;> (with_reducible repeat (first | refine g_d ?_ _ | refine g_e ?_ | refine g_a ?_ _)) <;> first | exact BK525.out | exact BK526.out | exact BK527.out
    subst c54
    rw [if_pos rfl] at H
    replace H := Option.bind_eq_some_iff.mp H
    obtain ⟨t552, A550, H⟩ := H
    try dsimp only at H
    have A55 := Aside0.mk A550
    clear A550
    have H' := Aside0.mk H
    clear H
    try go_wp2
    have n0_ := Aside0.mk (r_e HO534.out)
    have n1_ := Aside0.mk (r_e HO538.out)
    have n2_ := Aside0.mk (r_e HO542.out)
    have n3_ := Aside0.mk (r_e HO546.out)
    have n4_ := Aside0.mk (g_e BK525.out)
    have n5_ := Aside0.mk (g_e BK526.out)
    have n6_ := Aside0.mk (g_e BK527.out)
    have n7_ := Aside0.mk (b_e HB.out)
    clear HO534
    clear HO538
    clear HO542
    clear HO546
    clear BK525
    clear BK526
    clear BK527
    clear HB
    have HO534 := n0_
    have HO538 := n1_
    have HO542 := n2_
    have HO546 := n3_
    have BK525 := n4_
    have BK526 := n5_
    have BK527 := n6_
    have HB := n7_
    clear n0_ n1_ n2_ n3_ n4_ n5_ n6_ n7_
    obtain ⟨Ao57, co57, eo57⟩ := Kd.R_slice HO534.out
    (first | subst eo57 | (injection eo57 with f1_ f2_ f3_; have f4_ := f1_.symm; have f5_ := f3_.symm; clear f1_ f2_ f3_; subst f4_; subst f5_))
    obtain ⟨Ao58, co58, eo58⟩ := Kd.R_slice HO538.out
    (first | subst eo58 | (injection eo58 with f1_ f2_ f3_; have f4_ := f1_.symm; have f5_ := f3_.symm; clear f1_ f2_ f3_; subst f4_; subst f5_))
    refine start_ (n := 55) (S := fun w' => w'.cell? ⟨gb525, 0, none⟩ = some (.int .i64 a0_0) ∧ w'.cell? ⟨gb525, 1, none⟩ = some (.int .i64 a0_1) ∧ w'.cell? ⟨gb525, 2, none⟩ = some (.slice A0_2 l0_2.length c0_2)) (ds := []) (bs_ 55 0) (by kernel_rfl) rfl rfl ⟨(blk_cell BK525.out 0).trans rfl, (blk_cell BK525.out 1).trans rfl, (blk_cell BK525.out 2).trans rfl⟩ (fun hHeld => ?_); refine with_tabW laws_FnKnobsTurnOfAll.tab9 laws_FnKnobsTurnOfAll.bits9 (fun HT_ HW_ => ?_)
    generalize w40.drew = w56 at HO534 HO538 HO542 HO546 BK525 BK526 BK527 HB hHeld ⊢
    refine pua 0 132 (bs_ 55 1) HT_ ?_
    refine pua 1 133 (bs_ 55 3) HT_ ?_
    refine pua 2 134 (bs_ 55 7) HT_ ?_
    refine pua 3 135 (bs_ 55 15) HT_ ?_
    refine pua 4 136 (bs_ 55 31) HT_ ?_
    refine pua 5 137 (bs_ 55 63) HT_ ?_
    refine pua 6 138 (bs_ 55 127) HT_ ?_
    refine pua 7 139 (bs_ 55 255) HT_ ?_
    refine pua 8 140 (bs_ 55 511) HT_ ?_
    refine pua 9 141 (bs_ 55 1023) HT_ ?_
    refine pua 10 142 (bs_ 55 2047) HT_ ?_
    refine pua 11 143 (bs_ 55 4095) HT_ ?_
    refine pua 12 144 (bs_ 55 8191) HT_ ?_
    refine pua 13 145 (bs_ 55 16383) HT_ ?_
    refine pua 14 146 (bs_ 55 32767) HT_ ?_
    refine pua 15 147 (bs_ 55 65535) HT_ ?_
    refine one_ (i := 16) (N := some 148) (bs_ 55 131071) rfl rfl (one_of HT_.out (by kernel_rfl)) (by decide) (fun K hK => ?_)
    refine goes_ Try.func19 (by kernel_rfl) rfl #[.slice Ao57 t532.length co57, .slice Ao58 t536.length co58] (by rfl) rfl rfl (by (try simp only [m_1, m_2, m_3]); first | done | rfl | (simp only [m_4, m_5]; rfl)) ?_
    with_reducible refine (laws_eTurns.calls kj10 _ _ t532 _ _ t536 true _ ?side1 ?side2 ?side3 ?side4 A44.out).mono ?_
    (case side1 => repeat (first | exact (Kd.R_reads' HO534.out).2.2 | (with_reducible refine Kd.C_alloc ?_ _) | (with_reducible refine Kd.C_drewN ?_ _) | (with_reducible refine Kd.C_drew ?_)))
    (case side2 => exact (Kd.R_reads' HO534.out).2.1)
    (case side3 => repeat (first | exact (Kd.R_reads' HO538.out).2.2 | (with_reducible refine Kd.C_alloc ?_ _) | (with_reducible refine Kd.C_drewN ?_ _) | (with_reducible refine Kd.C_drew ?_)))
    (case side4 => exact (Kd.R_reads' HO538.out).2.1)
    rintro e w' ⟨rfl, ⟨nd, rfl⟩⟩
    refine ⟨_, rfl, ?_⟩
    obtain ⟨Ao59, co59, eo59⟩ := Kd.R_slice HO542.out
    (first | subst eo59 | (injection eo59 with f1_ f2_ f3_; have f4_ := f1_.symm; have f5_ := f3_.symm; clear f1_ f2_ f3_; subst f4_; subst f5_))
    obtain ⟨Ao60, co60, eo60⟩ := Kd.R_slice HO546.out
    (first | subst eo60 | (injection eo60 with f1_ f2_ f3_; have f4_ := f1_.symm; have f5_ := f3_.symm; clear f1_ f2_ f3_; subst f4_; subst f5_))
    refine hK.out _ _ ⟨(blk_cell BK525.out 0).trans rfl, (blk_cell BK525.out 1).trans rfl, (blk_cell BK525.out 2).trans rfl⟩ (fun hHeld => ?_)
    clear hK K
    refine norm_ (a' := ?_) ?_ ?_
    rotate_left
    · show Act.put _ (some 148) _ = _
      simp only [Act.put, s_1, s_2, s_3, i64_w, i32_w]
      rfl
    refine pua 17 149 (bs_ 55 262143) HT_ ?_
    refine pua 18 150 (bs_ 55 524287) HT_ ?_
    refine pua 19 151 (bs_ 55 1048575) HT_ ?_
    refine pua 20 152 (bs_ 55 2097151) HT_ ?_
    refine pua 21 153 (bs_ 55 4194303) HT_ ?_
    refine pua 22 154 (bs_ 55 8388607) HT_ ?_
    refine pua 23 155 (bs_ 55 16777215) HT_ ?_
    refine pua 24 156 (bs_ 55 33554431) HT_ ?_
    refine pua 25 157 (bs_ 55 67108863) HT_ ?_
    refine pua 26 158 (bs_ 55 134217727) HT_ ?_
    refine one_ (i := 27) (N := some 159) (bs_ 55 268435455) rfl rfl (one_of HT_.out (by kernel_rfl)) (by decide) (fun K hK => ?_)
    refine goes_ Try.func20 (by kernel_rfl) rfl #[.slice Ao59 t540.length co59, .slice Ao60 t544.length co60] (by rfl) rfl rfl (by (try simp only [m_1, m_2, m_3]); first | done | rfl | (simp only [m_4, m_5]; rfl)) ?_
    with_reducible refine (laws_eSame.calls kj10 _ _ t540 _ _ t544 true _ ?side1 ?side2 ?side3 ?side4 A47.out).mono ?_
    (case side1 => repeat (first | exact (Kd.R_reads' HO542.out).2.2 | (with_reducible refine Kd.C_alloc ?_ _) | (with_reducible refine Kd.C_drewN ?_ _) | (with_reducible refine Kd.C_drew ?_)))
    (case side2 => exact (Kd.R_reads' HO542.out).2.1)
    (case side3 => repeat (first | exact (Kd.R_reads' HO546.out).2.2 | (with_reducible refine Kd.C_alloc ?_ _) | (with_reducible refine Kd.C_drewN ?_ _) | (with_reducible refine Kd.C_drew ?_)))
    (case side4 => exact (Kd.R_reads' HO546.out).2.1)
    rintro e w' ⟨rfl, ⟨nd, rfl⟩⟩
    refine ⟨_, rfl, ?_⟩
    refine hK.out _ _ ⟨(blk_cell BK525.out 0).trans rfl, (blk_cell BK525.out 1).trans rfl, (blk_cell BK525.out 2).trans rfl⟩ (fun hHeld => ?_)
    clear hK K
    refine norm_ (a' := ?_) ?_ ?_
    rotate_left
    · show Act.put _ (some 159) _ = _
      simp only [Act.put, s_1, s_2, s_3, i64_w, i32_w]
      rfl
    refine pua 28 160 (bs_ 55 536870911) HT_ ?_
    refine pua 29 161 (bs_ 55 1073741823) HT_ ?_
    refine pua 30 162 (bs_ 55 2147483647) HT_ ?_
    refine pua 31 163 (bs_ 55 4294967295) HT_ ?_
    refine pua 32 164 (bs_ 55 8589934591) HT_ ?_
    refine pua 33 165 (bs_ 55 17179869183) HT_ ?_
    refine pua 34 166 (bs_ 55 34359738367) HT_ ?_
    refine pua 35 167 (bs_ 55 68719476735) HT_ ?_
    refine pua 36 168 (bs_ 55 137438953471) HT_ ?_
    refine pua 37 169 (bs_ 55 274877906943) HT_ ?_
    refine pua 38 170 (bs_ 55 549755813887) HT_ ?_
    refine pua 39 171 (bs_ 55 1099511627775) HT_ ?_
    refine pua 40 172 (bs_ 55 2199023255551) HT_ ?_
    refine tk_ 41 173 (bs_ 55 4398046511103) rfl rfl HT_ HW_ (by kernel_rfl) (fun _ _ _ h => h) (by rfl) hHeld (by rintro w' ⟨s0, s1, s2⟩; go_simp; with_reducible rfl) (by simp only [Act.put, s_1, s_2, s_3, i64_w, i32_w]; rfl) ?_
    refine tk_ 43 175 (bs_ 55 13194139533311) rfl rfl HT_ HW_ (by kernel_rfl) (fun _ _ _ h => h) (by rfl) hHeld (by rintro w' ⟨s0, s1, s2⟩; go_simp; with_reducible rfl) (by simp only [Act.put, s_1, s_2, s_3, i64_w, i32_w]; rfl) ?_
    refine one_ (i := 42) (N := some 174) (bs_ 55 17592186044415) rfl rfl (one_of HT_.out (by kernel_rfl)) (by decide) (fun K hK => ?_)
    refine goes_ Try.func21 (by kernel_rfl) rfl #[.agg #[.int .i64 a0_0, .int .i64 a0_1, .slice A0_2 l0_2.length c0_2]] (by rfl) rfl rfl (by (try simp only [m_1, m_2, m_3]); first | done | rfl | (simp only [m_4, m_5]; rfl)) ?_
    with_reducible refine (impl_AreGears.calls kj10 a0_0 a0_1 _ _ l0_2 t550 _ ?side1 ?side2 A51.out).mono ?_
    (case side1 => repeat (first | exact (Kd.C_below HR0_2.out (bB HB)) | (with_reducible refine Kd.C_alloc ?_ _) | (with_reducible refine Kd.C_drewN ?_ _) | (with_reducible refine Kd.C_drew ?_)))
    (case side2 => exact HC0_2.out)
    rintro e w61 ⟨rfl, hb⟩
    refine ⟨_, rfl, ?_⟩
    have n0_ := Aside0.mk (Kd.R_below (by (with_reducible repeat (first | apply r_a | apply r_d | apply r_e)); exact HO534.out) hb)
    have n1_ := Aside0.mk (Kd.R_below (by (with_reducible repeat (first | apply r_a | apply r_d | apply r_e)); exact HO538.out) hb)
    have n2_ := Aside0.mk (Kd.R_below (by (with_reducible repeat (first | apply r_a | apply r_d | apply r_e)); exact HO542.out) hb)
    have n3_ := Aside0.mk (Kd.R_below (by (with_reducible repeat (first | apply r_a | apply r_d | apply r_e)); exact HO546.out) hb)
    have n4_ := bbx hb BK525
    have n5_ := bbx hb BK526
    have n6_ := bbx hb BK527
    have n7_ := bsx hb HB
    clear HO534
    clear HO538
    clear HO542
    clear HO546
    clear BK525
    clear BK526
    clear BK527
    clear HB
    have HO534 := n0_
    have HO538 := n1_
    have HO542 := n2_
    have HO546 := n3_
    have BK525 := n4_
    have BK526 := n5_
    have BK527 := n6_
    have HB := n7_
    clear n0_ n1_ n2_ n3_ n4_ n5_ n6_ n7_
    (try clear hb)
    (try clear hb2)
    (try clear hk)
    (try clear hi)
    refine hK.out _ _ ⟨(blk_cell BK525.out 0).trans rfl, (blk_cell BK525.out 1).trans rfl, (blk_cell BK525.out 2).trans rfl⟩ (fun hHeld => ?_)
    clear hK K
    refine norm_ (a' := ?_) ?_ ?_
    rotate_left
    · show Act.put _ (some 174) _ = _
      simp only [Act.put, s_1, s_2, s_3, i64_w, i32_w]
      rfl
    refine one_ (i := 44) (N := some 176) (bs_ 55 35184372088831) rfl rfl (one_of HT_.out (by kernel_rfl)) (by decide) (fun K hK => ?_)
    refine goes_ Try.func22 (by kernel_rfl) rfl #[.agg #[.int .i64 a0_0, .int .i64 a0_1, .slice A0_2 l0_2.length c0_2]] (by rfl) rfl rfl (by (try simp only [m_1, m_2, m_3]); first | done | rfl | (simp only [m_4, m_5]; rfl)) ?_
    with_reducible refine (spec_AreGears.calls kj10 a0_0 a0_1 _ _ l0_2 t551 _ ?side1 ?side2 A52.out).mono ?_
    (case side1 => repeat (first | exact (Kd.C_below HR0_2.out HB.out) | (with_reducible refine Kd.C_alloc ?_ _) | (with_reducible refine Kd.C_drewN ?_ _) | (with_reducible refine Kd.C_drew ?_)))
    (case side2 => exact HC0_2.out)
    rintro e w62 ⟨rfl, hb⟩
    refine ⟨_, rfl, ?_⟩
    have n0_ := Aside0.mk (Kd.R_below (by (with_reducible repeat (first | apply r_a | apply r_d | apply r_e)); exact HO534.out) hb)
    have n1_ := Aside0.mk (Kd.R_below (by (with_reducible repeat (first | apply r_a | apply r_d | apply r_e)); exact HO538.out) hb)
    have n2_ := Aside0.mk (Kd.R_below (by (with_reducible repeat (first | apply r_a | apply r_d | apply r_e)); exact HO542.out) hb)
    have n3_ := Aside0.mk (Kd.R_below (by (with_reducible repeat (first | apply r_a | apply r_d | apply r_e)); exact HO546.out) hb)
    have n4_ := bbx hb BK525
    have n5_ := bbx hb BK526
    have n6_ := bbx hb BK527
    have n7_ := bsx hb HB
    clear HO534
    clear HO538
    clear HO542
    clear HO546
    clear BK525
    clear BK526
    clear BK527
    clear HB
    have HO534 := n0_
    have HO538 := n1_
    have HO542 := n2_
    have HO546 := n3_
    have BK525 := n4_
    have BK526 := n5_
    have BK527 := n6_
    have HB := n7_
    clear n0_ n1_ n2_ n3_ n4_ n5_ n6_ n7_
    (try clear hb)
    (try clear hb2)
    (try clear hk)
    (try clear hi)
    refine hK.out _ _ ⟨(blk_cell BK525.out 0).trans rfl, (blk_cell BK525.out 1).trans rfl, (blk_cell BK525.out 2).trans rfl⟩ (fun hHeld => ?_)
    clear hK K
    refine norm_ (a' := ?_) ?_ ?_
    rotate_left
    · show Act.put _ (some 176) _ = _
      simp only [Act.put, s_1, s_2, s_3, i64_w, i32_w]
      rfl
    refine pua 45 177 (bs_ 55 70368744177663) HT_ ?_
    refine pua 46 178 (bs_ 55 140737488355327) HT_ ?_
    refine pua 47 179 (bs_ 55 281474976710655) HT_ ?_
    refine pua 48 180 (bs_ 55 562949953421311) HT_ ?_
    refine pua 49 181 (bs_ 55 1125899906842623) HT_ ?_
    refine tk_ 50 182 (bs_ 55 2251799813685247) rfl rfl HT_ HW_ (by kernel_rfl) (fun _ _ _ h => h) (by rfl) hHeld (by rintro w' ⟨s0, s1, s2⟩; go_simp; with_reducible rfl) (by simp only [Act.put, s_1, s_2, s_3, i64_w, i32_w]; rfl) ?_
    refine one_ (i := 51) (N := some 183) (bs_ 55 4503599627370495) rfl rfl (one_of HT_.out (by kernel_rfl)) (by decide) (fun K hK => ?_)
    refine goes_ Try.func21 (by kernel_rfl) rfl #[.agg #[.int .i64 a0_0, .int .i64 a0_1, .slice A0_2 l0_2.length c0_2]] (by rfl) rfl rfl (by (try simp only [m_1, m_2, m_3]); first | done | rfl | (simp only [m_4, m_5]; rfl)) ?_
    with_reducible refine (impl_AreGears.calls kj10 a0_0 a0_1 _ _ l0_2 t552 _ ?side1 ?side2 A55.out).mono ?_
    (case side1 => repeat (first | exact (Kd.C_below HR0_2.out HB.out) | (with_reducible refine Kd.C_alloc ?_ _) | (with_reducible refine Kd.C_drewN ?_ _) | (with_reducible refine Kd.C_drew ?_)))
    (case side2 => exact HC0_2.out)
    rintro e w63 ⟨rfl, hb⟩
    refine ⟨_, rfl, ?_⟩
    have n0_ := Aside0.mk (Kd.R_below (by (with_reducible repeat (first | apply r_a | apply r_d | apply r_e)); exact HO534.out) hb)
    have n1_ := Aside0.mk (Kd.R_below (by (with_reducible repeat (first | apply r_a | apply r_d | apply r_e)); exact HO538.out) hb)
    have n2_ := Aside0.mk (Kd.R_below (by (with_reducible repeat (first | apply r_a | apply r_d | apply r_e)); exact HO542.out) hb)
    have n3_ := Aside0.mk (Kd.R_below (by (with_reducible repeat (first | apply r_a | apply r_d | apply r_e)); exact HO546.out) hb)
    have n4_ := bbx hb BK525
    have n5_ := bbx hb BK526
    have n6_ := bbx hb BK527
    have n7_ := bsx hb HB
    clear HO534
    clear HO538
    clear HO542
    clear HO546
    clear BK525
    clear BK526
    clear BK527
    clear HB
    have HO534 := n0_
    have HO538 := n1_
    have HO542 := n2_
    have HO546 := n3_
    have BK525 := n4_
    have BK526 := n5_
    have BK527 := n6_
    have HB := n7_
    clear n0_ n1_ n2_ n3_ n4_ n5_ n6_ n7_
    (try clear hb)
    (try clear hb2)
    (try clear hk)
    (try clear hi)
    refine hK.out _ _ ⟨(blk_cell BK525.out 0).trans rfl, (blk_cell BK525.out 1).trans rfl, (blk_cell BK525.out 2).trans rfl⟩ (fun hHeld => ?_)
    clear hK K
    refine norm_ (a' := ?_) ?_ ?_
    rotate_left
    · show Act.put _ (some 183) _ = _
      simp only [Act.put, s_1, s_2, s_3, i64_w, i32_w]
      rfl
    refine pua 52 184 (bs_ 55 9007199254740991) HT_ ?_
    refine pua 53 185 (bs_ 55 18014398509481983) HT_ ?_
    refine pua 54 186 (bs_ 55 36028797018963967) HT_ ?_
    refine done_ (done_of HT_.out (by kernel_rfl)) ?_
    try go_wp2
    go_meet
    case rel => refine ⟨_, (!t552), (by first | rfl | (simp; done) | (simp [*]; done)), H', ⟨by have := HJ10.out; first | omega | exact Nat.le_refl _⟩, ⟨by (with_reducible repeat (first | apply r_a | apply r_d | apply r_e)); exact Kd.R_mono HO534.out (fun _ hk => trivial)⟩, ⟨by (with_reducible repeat (first | apply r_a | apply r_d | apply r_e)); exact Kd.R_mono HO542.out (fun _ hk => trivial)⟩, ⟨?_⟩, ⟨?_⟩, ⟨?_⟩, ⟨bB HB⟩⟩ <;> (with_reducible repeat (first | refine g_d ?_ _ | refine g_e ?_ | refine g_a ?_ _)) <;> first | exact BK525.out | exact BK526.out | exact BK527.out
  clear HC26
  try clear c19
  obtain ⟨kq, x186_25, rfl, HA, HJ25, HO_25, HO_29, BK525, BK526, BK527, HB⟩ := hcut
  rcases kq with _ | kj25
  · exact absurd HA.out (by simp [laws_FnKnobsTurnOfAll.j1])
  have H := HA.out
  clear HA
  simp only [laws_FnKnobsTurnOfAll.j1] at H
  by_cases c71 : x186_25 = true
  · subst c71
    rw [if_pos rfl] at H
    rw [HRT.out] at H
    exact absurd H (by simp)
  replace c71 := Bool.eq_false_iff.mpr c71
  subst c71
  rw [if_neg (show ¬ (false = true) by decide)] at H
  have HC72 := Aside0.mk H
  clear H
  go_upto_if 187 with (fail)
  go_cut [] from 1 to 0 (fun wc => ∃ (kq : Nat), Aside0 (laws_FnKnobsTurnOfAll.j5 kq a4 a5 a6 a8 l9 a3_0 a3_1 l3_2 a7_0 a7_1 l7_2 = some r) ∧ Aside0 (kq ≤ kj25) ∧ Aside0 (wc.heap[gb525]? = some (.cells #[.int .i64 a0_0, .int .i64 a0_1, (.slice A0_2 l0_2.length c0_2)] 33 (0, 0))) ∧ Aside0 (wc.heap[gb526]? = some (.cells #[.int .i64 a3_0, .int .i64 a3_1, (.slice A3_2 l3_2.length c3_2)] 33 (0, 0))) ∧ Aside0 (wc.heap[gb527]? = some (.cells #[.int .i64 a7_0, .int .i64 a7_1, (.slice A7_2 l7_2.length c7_2)] 33 (0, 0))) ∧ Aside0 (Below w.heap.size w wc))
  case first => as_aux_lemma =>
    have H := HC72.out
    clear HC72
    by_cases c73 : t529 = true
    rotate_left
    · replace c73 := Bool.eq_false_iff.mpr c73
      subst c73
      rw [if_neg (show ¬ (false = true) by decide)] at H
      have H' := Aside0.mk H
      clear H
      go_wp2
      go_meet
      case rel => refine ⟨_, H', ⟨by have := HJ10.out; have := HJ25.out; first | omega | exact Nat.le_refl _⟩, ⟨?_⟩, ⟨?_⟩, ⟨?_⟩, ⟨bB HB⟩⟩ <;> (with_reducible repeat (first | refine g_d ?_ _ | refine g_e ?_ | refine g_a ?_ _)) <;> first | exact BK525.out | exact BK526.out | exact BK527.out
    subst c73
    rw [if_pos rfl] at H
    have H' := Aside0.mk H
    clear H
    obtain ⟨Ao74, co74, eo74⟩ := Kd.R_slice HO_25.out
    subst eo74
    go_wp2
    go_loopg [33, 191] kj25 (fun kq v33 v191 w' => ∃ (x33_3 : ByteArray) (x191_3 : Int), v33 = .string x33_3 ∧ v191 = .int .i64 x191_3 ∧ Aside0 (laws_FnKnobsTurnOfAll.l0 kq a1 a2 a4 a5 a6 a8 l9 t528 t532 t540 x33_3 t532 (t532.length : Int) x191_3 a0_0 a0_1 l0_2 a3_0 a3_1 l3_2 a7_0 a7_1 l7_2 = some r) ∧ Aside0 (kq ≤ kj25) ∧ Aside0 (Kd.R k48 48 w' w.heap.size (fun _ => True) (.slice Ao74 t532.length co74) t532) ∧ Aside0 (Kd.R (Kd.int .i64) 3 w' w.heap.size (fun _ => True) v541 t540) ∧ Aside0 (Kd.R k48 48 w' w.heap.size (fun _ => True) (.slice Ao74 t532.length co74) t532) ∧ Aside0 (w'.heap[gb525]? = some (.cells #[.int .i64 a0_0, .int .i64 a0_1, (.slice A0_2 l0_2.length c0_2)] 33 (0, 0))) ∧ Aside0 (w'.heap[gb526]? = some (.cells #[.int .i64 a3_0, .int .i64 a3_1, (.slice A3_2 l3_2.length c3_2)] 33 (0, 0))) ∧ Aside0 (w'.heap[gb527]? = some (.cells #[.int .i64 a7_0, .int .i64 a7_1, (.slice A7_2 l7_2.length c7_2)] 33 (0, 0))) ∧ Aside0 (Below w.heap.size w w'))
    case atStart => refine ⟨(a1), (0), (by first | rfl | (simp; done) | (simp [*]; done)), (by first | rfl | (simp; done) | (simp [*]; done)), H', ⟨Nat.le_refl _⟩, ⟨?_⟩, ⟨?_⟩, ⟨?_⟩, ⟨?_⟩, ⟨?_⟩, ⟨?_⟩, ⟨bB HB⟩⟩ <;> (with_reducible repeat (first | refine g_d ?_ _ | refine g_e ?_ | refine g_a ?_ _ | apply r_a | apply r_d | apply r_e)) <;> first | exact BK525.out | exact BK526.out | exact BK527.out | exact HO_25.out | exact HO_29.out
    clear H'
    try clear c71
    try clear c73
    obtain ⟨x33_3, x191_3, rfl, rfl, HA, HK3, HO_25, HO_29, HO_189, BK525, BK526, BK527, HB⟩ := hrel
    rcases gk with _ | k3
    · exact absurd HA.out (by simp [laws_FnKnobsTurnOfAll.l0])
    have H := HA.out
    clear HA
    simp only [laws_FnKnobsTurnOfAll.l0] at H
    by_cases c75 : x191_3 < (t532.length : Int)
    · rw [if_pos c75] at H
      have c75b0 : decide (x191_3 < (t532.length : Int)) = true := decide_eq_true c75
      clear c75
      (first | rw [c75b0] | (simp only [i64_w, i32_w]; rw [c75b0]) | skip)
      by_cases c76 : 0 ≤ x191_3
      · rw [if_pos c76] at H
        have c76b0 : decide (0 ≤ x191_3) = true := decide_eq_true c76
        clear c76
        by_cases c77 : x191_3 < (t532.length : Int)
        · rw [if_pos c77] at H
          have c77b0 : decide (x191_3 < (t532.length : Int)) = true := decide_eq_true c77
          clear c77
          replace H := Option.bind_eq_some_iff.mp H
          obtain ⟨⟨t555, t556⟩, A780, H⟩ := H
          try dsimp only at H
          have A78 := Aside0.mk A780
          clear A780
          by_cases c79 : t556 = true
          · subst c79
            rw [if_pos rfl] at H
            have H' := Aside0.mk H
            clear H
            have p553 : 0 ≤ (x191_3 : Int) := of_decide_eq_true (by first | (with_reducible assumption) | assumption)
            have q553 : x191_3 < (t532.length : Int) := of_decide_eq_true (by first | (with_reducible assumption) | assumption)
            obtain ⟨ad553, e553, hx553_0, hx553_1⟩ := at_T48 (Kd.R_reads' HO_189.out).2.2 x191_3 p553 q553
            cases e553
            replace p553 := eq_true p553
            replace q553 := eq_true q553
            go_wp2_with (first | ((with_reducible refine gate_dst (N := 35) rfl ?_); (try (refine gate_guard (by rfl) ?_; dsimp only)); refine box_event ?hg (N := 35) ?hd (cs := #[.int .i64 0, .int .i64 0]) (t := 48) ?hr ?_; (case hd => rfl); (case hg => rfl); (case hr => first | (go_simp; done) | (go_simp; rfl)); intro gb554 hg w80 hbox hb; have n0_ := Aside0.mk (Kd.R_below (Kd.R_elderB (by (with_reducible repeat (first | apply r_a | apply r_d | apply r_e)); exact HO_25.out) gb554 (Nat.le_of_eq hg.symm)) hb); have n1_ := Aside0.mk (Kd.R_below (by (with_reducible repeat (first | apply r_a | apply r_d | apply r_e)); exact HO_29.out) hb); have n2_ := Aside0.mk (Kd.R_below (Kd.R_elderB (by (with_reducible repeat (first | apply r_a | apply r_d | apply r_e)); exact HO_189.out) gb554 (Nat.le_of_eq hg.symm)) hb); have n3_ := bbx hb BK525; have n4_ := bbx hb BK526; have n5_ := bbx hb BK527; have n6_ := bsx hb HB; have n7_ := Aside0.mk (hbox); have n8_ := gwx hg HB; have n9_ := gwx hg HB; have n10_ := nlx hg BK525; have n11_ := ngx hg BK525; have n12_ := nlx hg BK526; have n13_ := ngx hg BK526; have n14_ := nlx hg BK527; have n15_ := ngx hg BK527; clear HO_25; clear HO_29; clear HO_189; clear BK525; clear BK526; clear BK527; clear HB; have HO_25 := n0_; have HO_29 := n1_; have HO_189 := n2_; have BK525 := n3_; have BK526 := n4_; have BK527 := n5_; have HB := n6_; have BK554 := n7_; have GW554 := n8_; have GE554 := n9_; have NB525_554 := n10_; have NB554_525 := n11_; have NB526_554 := n12_; have NB554_526 := n13_; have NB527_554 := n14_; have NB554_527 := n15_; clear n0_ n1_ n2_ n3_ n4_ n5_ n6_ n7_ n8_ n9_ n10_ n11_ n12_ n13_ n14_ n15_; clear hb hbox hg; have hnb81 := eq_false NB554_525.out; have hnc81 := eq_false NB525_554.out; have hnb82 := eq_false NB554_526.out; have hnc82 := eq_false NB526_554.out; have hnb83 := eq_false NB554_527.out; have hnc83 := eq_false NB527_554.out; have hcz84_0 := cz0 BK554; have hcz84_1 := cz1 BK554; have hfz84_0 := blk_frozen BK554.out 0; have hfz84_1 := blk_frozen BK554.out 1; have hnb85 := eq_false NB525_526.out; have hnc85 := eq_false NB526_525.out; have hnb86 := eq_false NB525_527.out; have hnc86 := eq_false NB527_525.out; have hcz87_0 : w80.cell? ⟨gb525, 0, none⟩ = some (.int .i64 a0_0) := (blk_cell BK525.out 0).trans rfl; have hcz87_1 : w80.cell? ⟨gb525, 1, none⟩ = some (.int .i64 a0_1) := (blk_cell BK525.out 1).trans rfl; have hcz87_2 : w80.cell? ⟨gb525, 2, none⟩ = some (.slice A0_2 l0_2.length c0_2) := (blk_cell BK525.out 2).trans rfl; have hfz87_0 := blk_frozen BK525.out 0; have hfz87_1 := blk_frozen BK525.out 1; have hfz87_2 := blk_frozen BK525.out 2) | ((with_reducible refine gate_callee (f := 23) rfl ?_); refine goesL_ (some 202) rfl rfl Try.func23 (by kernel_rfl) rfl #[.agg #[.int .i64 a0_0, .int .i64 a0_1, .slice A0_2 l0_2.length c0_2], .string x33_3, .int .i64 ((rd_T48 t532 x191_3).f0), .int .i64 ((rd_T48 t532 x191_3).f1)] rfl (by (try simp only [m_1, m_2, m_3]); first | done | rfl | (simp only [m_4, m_5]; rfl)) ?_; (with_reducible refine (impl_TurnKnob.calls k3 a0_0 a0_1 _ _ l0_2 x33_3 ((rd_T48 t532 x191_3).f0) ((rd_T48 t532 x191_3).f1) t555 true _ ?side1 ?side2 A78.out).mono ?_); (case side1 => exact Kd.C_below HR0_2.out (bB HB)); (case side2 => exact HC0_2.out); rintro e w88 ⟨rfl, hb⟩; refine ⟨_, rfl, ?_⟩; have n0_ := Aside0.mk (Kd.R_below (by (with_reducible repeat (first | apply r_a | apply r_d | apply r_e)); exact (Kd.R_mono (Kd.R_far (p := ⟨gb554, 1, none⟩) (Kd.R_far (p := ⟨gb554, 0, none⟩) (Kd.R_mono HO_25.out (fun k_ hk => (⟨hk, hk.2⟩ : _ ∧ k_ ≠ gb554))) (fun _ hk => hk.2) (.int .i64 ((rd_T48 t532 x191_3).f0))) (fun _ hk => hk.2) (.int .i64 ((rd_T48 t532 x191_3).f1))) (fun _ h_ => h_.1))) hb); have n1_ := Aside0.mk (Kd.R_below (by (with_reducible repeat (first | apply r_a | apply r_d | apply r_e)); exact (Kd.R_mono (Kd.R_far (p := ⟨gb554, 1, none⟩) (Kd.R_far (p := ⟨gb554, 0, none⟩) (Kd.R_types HO_29.out BK554.out (by decide)) (fun _ hk => hk.2) (.int .i64 ((rd_T48 t532 x191_3).f0))) (fun _ hk => hk.2) (.int .i64 ((rd_T48 t532 x191_3).f1))) (fun _ h_ => h_.1))) hb); have n2_ := Aside0.mk (Kd.R_below (by (with_reducible repeat (first | apply r_a | apply r_d | apply r_e)); exact (Kd.R_mono (Kd.R_far (p := ⟨gb554, 1, none⟩) (Kd.R_far (p := ⟨gb554, 0, none⟩) (Kd.R_mono HO_189.out (fun k_ hk => (⟨hk, hk.2⟩ : _ ∧ k_ ≠ gb554))) (fun _ hk => hk.2) (.int .i64 ((rd_T48 t532 x191_3).f0))) (fun _ hk => hk.2) (.int .i64 ((rd_T48 t532 x191_3).f1))) (fun _ h_ => h_.1))) hb); have n3_ := Aside0.mk (blk_below (g := gb525) (o := .cells #[.int .i64 a0_0, .int .i64 a0_1, .slice A0_2 l0_2.length c0_2] 33 (0, 0)) (bF) hb); have n4_ := Aside0.mk (blk_below (g := gb526) (o := .cells #[.int .i64 a3_0, .int .i64 a3_1, .slice A3_2 l3_2.length c3_2] 33 (0, 0)) (bF) hb); have n5_ := Aside0.mk (blk_below (g := gb527) (o := .cells #[.int .i64 a7_0, .int .i64 a7_1, .slice A7_2 l7_2.length c7_2] 33 (0, 0)) (bF) hb); have n6_ := Aside0.mk (blk_below (g := gb554) (o := .cells #[.int .i64 ((rd_T48 t532 x191_3).f0), .int .i64 ((rd_T48 t532 x191_3).f1)] 48 (0, 0)) (by (with_reducible repeat (first | refine g_d ?_ _ | refine g_e ?_ | refine g_a ?_ _)); refine blk_put (cs := #[.int .i64 ((rd_T48 t532 x191_3).f0), .int .i64 0]) ?_ 1 _ rfl; (with_reducible repeat (first | refine g_d ?_ _ | refine g_e ?_ | refine g_a ?_ _)); refine blk_put (cs := #[.int .i64 0, .int .i64 0]) ?_ 0 _ rfl; (with_reducible repeat (first | refine g_d ?_ _ | refine g_e ?_ | refine g_a ?_ _)); exact BK554.out) hb); replace HB := bsx hb HB; clear HO_25; clear HO_29; clear HO_189; clear BK525; clear BK526; clear BK527; clear BK554; have HO_25 := n0_; have HO_29 := n1_; have HO_189 := n2_; have BK525 := n3_; have BK526 := n4_; have BK527 := n5_; have BK554 := n6_; clear n0_ n1_ n2_ n3_ n4_ n5_ n6_; (try clear hb); (try clear hb2); (try clear hk); (try clear hi)))
            go_roundg k3
            case measure => have := HJ10.out; have := HJ25.out; have := HK3.out; omega
            case rel => refine ⟨(t555), (wrap64 (x191_3 + 1)), (by first | rfl | (simp; done) | (simp [*]; done)), (by first | rfl | (simp; done) | (simp [*]; done)), H', ⟨by have := HJ10.out; have := HJ25.out; have := HK3.out; omega⟩, ⟨by (with_reducible repeat (first | apply r_a | apply r_d | apply r_e)); exact Kd.R_mono HO_25.out (fun _ hk => trivial)⟩, ⟨?_⟩, ⟨by (with_reducible repeat (first | apply r_a | apply r_d | apply r_e)); exact Kd.R_mono HO_189.out (fun _ hk => trivial)⟩, ⟨?_⟩, ⟨?_⟩, ⟨?_⟩, ⟨bB HB⟩⟩ <;> (with_reducible repeat (first | refine g_d ?_ _ | refine g_e ?_ | refine g_a ?_ _ | apply r_a | apply r_d | apply r_e)) <;> first | exact BK525.out | exact BK526.out | exact BK527.out | exact HO_29.out
          · replace c79 := Bool.eq_false_iff.mpr c79
            subst c79
            rw [if_neg (show ¬ (false = true) by decide)] at H
            rw [HRT.out] at H
            exact absurd H (by simp)
        · rw [if_neg c77] at H
          exact absurd H (by simp)
      · rw [if_neg c76] at H
        exact absurd H (by simp)
    rw [if_neg c75] at H
    have c75b0 : decide (x191_3 < (t532.length : Int)) = false := decide_eq_false c75
    clear c75
    (first | rw [c75b0] | (simp only [i64_w, i32_w]; rw [c75b0]) | skip)
    replace H := Option.bind_eq_some_iff.mp H
    obtain ⟨⟨t557, t558⟩, A890, H⟩ := H
    try dsimp only at H
    have A89 := Aside0.mk A890
    clear A890
    replace H := Option.bind_eq_some_iff.mp H
    obtain ⟨⟨t559, t560⟩, A900, H⟩ := H
    try dsimp only at H
    have A90 := Aside0.mk A900
    clear A900
    replace H := Option.bind_eq_some_iff.mp H
    obtain ⟨⟨t561, t562⟩, A910, H⟩ := H
    try dsimp only at H
    have A91 := Aside0.mk A910
    clear A910
    replace H := Option.bind_eq_some_iff.mp H
    obtain ⟨⟨t563, t564⟩, A920, H⟩ := H
    try dsimp only at H
    have A92 := Aside0.mk A920
    clear A920
    have HC93 := Aside0.mk H
    clear H
    have hnb94 := eq_false NB525_526.out
    have hnc94 := eq_false NB526_525.out
    have hnb95 := eq_false NB525_527.out
    have hnc95 := eq_false NB527_525.out
    have hcz96_0 : wr.cell? ⟨gb525, 0, none⟩ = some (.int .i64 a0_0) := (blk_cell BK525.out 0).trans rfl
    have hcz96_1 : wr.cell? ⟨gb525, 1, none⟩ = some (.int .i64 a0_1) := (blk_cell BK525.out 1).trans rfl
    have hcz96_2 : wr.cell? ⟨gb525, 2, none⟩ = some (.slice A0_2 l0_2.length c0_2) := (blk_cell BK525.out 2).trans rfl
    have hfz96_0 := blk_frozen BK525.out 0
    have hfz96_1 := blk_frozen BK525.out 1
    have hfz96_2 := blk_frozen BK525.out 2
    obtain ⟨Ao97, co97, eo97⟩ := Kd.R_slice HO_29.out
    subst eo97
    go_upto_region 25 with (first | ((with_reducible refine gate_callee (f := 24) rfl ?_); refine goesL_ (some 213) rfl rfl Try.func24 (by kernel_rfl) rfl #[.agg #[.int .i64 a0_0, .int .i64 a0_1, .slice A0_2 l0_2.length c0_2], .string a1, .slice Ao97 t540.length co97] rfl (by (try simp only [m_1, m_2, m_3]); first | done | rfl | (simp only [m_4, m_5]; rfl)) ?_; (with_reducible refine (impl_KnobsAfter.calls k3 a0_0 a0_1 _ _ l0_2 a1 _ _ t540 t557 t558 _ ?side1 ?side2 ?side3 ?side4 A89.out).mono ?_); (case side1 => repeat (first | exact (Kd.C_below HR0_2.out HB.out) | (with_reducible refine Kd.C_alloc ?_ _) | (with_reducible refine Kd.C_drewN ?_ _) | (with_reducible refine Kd.C_drew ?_))); (case side2 => exact HC0_2.out); (case side3 => repeat (first | exact (Kd.R_reads' HO_29.out).2.2 | (with_reducible refine Kd.C_alloc ?_ _) | (with_reducible refine Kd.C_drewN ?_ _) | (with_reducible refine Kd.C_drew ?_))); (case side4 => exact (Kd.R_reads' HO_29.out).2.1); rintro e w98 ⟨rfl, hb⟩; refine ⟨_, rfl, ?_⟩; have n0_ := Aside0.mk (Kd.R_below (by (with_reducible repeat (first | apply r_a | apply r_d | apply r_e)); exact HO_25.out) hb); have n1_ := Aside0.mk (Kd.R_below (by (with_reducible repeat (first | apply r_a | apply r_d | apply r_e)); exact HO_29.out) hb); have n2_ := Aside0.mk (Kd.R_below (by (with_reducible repeat (first | apply r_a | apply r_d | apply r_e)); exact HO_189.out) hb); replace BK525 := bbx hb BK525; replace BK526 := bbx hb BK526; replace BK527 := bbx hb BK527; replace HB := bsx hb HB; clear HO_25; clear HO_29; clear HO_189; have HO_25 := n0_; have HO_29 := n1_; have HO_189 := n2_; clear n0_ n1_ n2_; (try clear hb); (try clear hb2); (try clear hk); (try clear hi); have hcz99_0 : w98.cell? ⟨gb525, 0, none⟩ = some (.int .i64 a0_0) := (blk_cell BK525.out 0).trans rfl; have hcz99_1 : w98.cell? ⟨gb525, 1, none⟩ = some (.int .i64 a0_1) := (blk_cell BK525.out 1).trans rfl; have hcz99_2 : w98.cell? ⟨gb525, 2, none⟩ = some (.slice A0_2 l0_2.length c0_2) := (blk_cell BK525.out 2).trans rfl; have hfz99_0 := blk_frozen BK525.out 0; have hfz99_1 := blk_frozen BK525.out 1; have hfz99_2 := blk_frozen BK525.out 2) | ((with_reducible refine gate_callee (f := 15) rfl ?_); refine goesL_ (some 220) rfl rfl Try.func15 (by kernel_rfl) rfl #[.agg #[.int .i64 a0_0, .int .i64 a0_1, .slice A0_2 l0_2.length c0_2], .string a2, .string a1] rfl (by (try simp only [m_1, m_2, m_3]); first | done | rfl | (simp only [m_4, m_5]; rfl)) ?_; (with_reducible refine (impl_FewestKnobs.calls k3 a0_0 a0_1 _ _ l0_2 a2 a1 t559 t560 _ ?side1 ?side2 A90.out).mono ?_); (case side1 => repeat (first | exact (Kd.C_below HR0_2.out HB.out) | (with_reducible refine Kd.C_alloc ?_ _) | (with_reducible refine Kd.C_drewN ?_ _) | (with_reducible refine Kd.C_drew ?_))); (case side2 => exact HC0_2.out); rintro e w100 ⟨rfl, hb⟩; refine ⟨_, rfl, ?_⟩; have n0_ := Aside0.mk (Kd.R_below (by (with_reducible repeat (first | apply r_a | apply r_d | apply r_e)); exact HO_25.out) hb); have n1_ := Aside0.mk (Kd.R_below (by (with_reducible repeat (first | apply r_a | apply r_d | apply r_e)); exact HO_29.out) hb); have n2_ := Aside0.mk (Kd.R_below (by (with_reducible repeat (first | apply r_a | apply r_d | apply r_e)); exact HO_189.out) hb); replace BK525 := bbx hb BK525; replace BK526 := bbx hb BK526; replace BK527 := bbx hb BK527; replace HB := bsx hb HB; clear HO_25; clear HO_29; clear HO_189; have HO_25 := n0_; have HO_29 := n1_; have HO_189 := n2_; clear n0_ n1_ n2_; (try clear hb); (try clear hb2); (try clear hk); (try clear hi); have hcz101_0 : w100.cell? ⟨gb525, 0, none⟩ = some (.int .i64 a0_0) := (blk_cell BK525.out 0).trans rfl; have hcz101_1 : w100.cell? ⟨gb525, 1, none⟩ = some (.int .i64 a0_1) := (blk_cell BK525.out 1).trans rfl; have hcz101_2 : w100.cell? ⟨gb525, 2, none⟩ = some (.slice A0_2 l0_2.length c0_2) := (blk_cell BK525.out 2).trans rfl; have hfz101_0 := blk_frozen BK525.out 0; have hfz101_1 := blk_frozen BK525.out 1; have hfz101_2 := blk_frozen BK525.out 2) | ((with_reducible refine gate_callee (f := 25) rfl ?_); refine goesL_ (some 226) rfl rfl Try.func25 (by kernel_rfl) rfl #[.agg #[.int .i64 a0_0, .int .i64 a0_1, .slice A0_2 l0_2.length c0_2], .string a1] rfl (by (try simp only [m_1, m_2, m_3]); first | done | rfl | (simp only [m_4, m_5]; rfl)) ?_; (with_reducible refine (impl_FirstOfClass.calls k3 a0_0 a0_1 _ _ l0_2 a1 t561 t562 _ ?side1 ?side2 A91.out).mono ?_); (case side1 => repeat (first | exact (Kd.C_below HR0_2.out HB.out) | (with_reducible refine Kd.C_alloc ?_ _) | (with_reducible refine Kd.C_drewN ?_ _) | (with_reducible refine Kd.C_drew ?_))); (case side2 => exact HC0_2.out); rintro e w102 ⟨rfl, hb⟩; refine ⟨_, rfl, ?_⟩; have n0_ := Aside0.mk (Kd.R_below (by (with_reducible repeat (first | apply r_a | apply r_d | apply r_e)); exact HO_25.out) hb); have n1_ := Aside0.mk (Kd.R_below (by (with_reducible repeat (first | apply r_a | apply r_d | apply r_e)); exact HO_29.out) hb); have n2_ := Aside0.mk (Kd.R_below (by (with_reducible repeat (first | apply r_a | apply r_d | apply r_e)); exact HO_189.out) hb); replace BK525 := bbx hb BK525; replace BK526 := bbx hb BK526; replace BK527 := bbx hb BK527; replace HB := bsx hb HB; clear HO_25; clear HO_29; clear HO_189; have HO_25 := n0_; have HO_29 := n1_; have HO_189 := n2_; clear n0_ n1_ n2_; (try clear hb); (try clear hb2); (try clear hk); (try clear hi); have hcz103_0 : w102.cell? ⟨gb525, 0, none⟩ = some (.int .i64 a0_0) := (blk_cell BK525.out 0).trans rfl; have hcz103_1 : w102.cell? ⟨gb525, 1, none⟩ = some (.int .i64 a0_1) := (blk_cell BK525.out 1).trans rfl; have hcz103_2 : w102.cell? ⟨gb525, 2, none⟩ = some (.slice A0_2 l0_2.length c0_2) := (blk_cell BK525.out 2).trans rfl; have hfz103_0 := blk_frozen BK525.out 0; have hfz103_1 := blk_frozen BK525.out 1; have hfz103_2 := blk_frozen BK525.out 2) | ((with_reducible refine gate_callee (f := 25) rfl ?_); refine goesL_ (some 232) rfl rfl Try.func25 (by kernel_rfl) rfl #[.agg #[.int .i64 a0_0, .int .i64 a0_1, .slice A0_2 l0_2.length c0_2], .string a2] rfl (by (try simp only [m_1, m_2, m_3]); first | done | rfl | (simp only [m_4, m_5]; rfl)) ?_; (with_reducible refine (impl_FirstOfClass.calls k3 a0_0 a0_1 _ _ l0_2 a2 t563 t564 _ ?side1 ?side2 A92.out).mono ?_); (case side1 => repeat (first | exact (Kd.C_below HR0_2.out HB.out) | (with_reducible refine Kd.C_alloc ?_ _) | (with_reducible refine Kd.C_drewN ?_ _) | (with_reducible refine Kd.C_drew ?_))); (case side2 => exact HC0_2.out); rintro e w104 ⟨rfl, hb⟩; refine ⟨_, rfl, ?_⟩; have n0_ := Aside0.mk (Kd.R_below (by (with_reducible repeat (first | apply r_a | apply r_d | apply r_e)); exact HO_25.out) hb); have n1_ := Aside0.mk (Kd.R_below (by (with_reducible repeat (first | apply r_a | apply r_d | apply r_e)); exact HO_29.out) hb); have n2_ := Aside0.mk (Kd.R_below (by (with_reducible repeat (first | apply r_a | apply r_d | apply r_e)); exact HO_189.out) hb); replace BK525 := bbx hb BK525; replace BK526 := bbx hb BK526; replace BK527 := bbx hb BK527; replace HB := bsx hb HB; clear HO_25; clear HO_29; clear HO_189; have HO_25 := n0_; have HO_29 := n1_; have HO_189 := n2_; clear n0_ n1_ n2_; (try clear hb); (try clear hb2); (try clear hk); (try clear hi)))
    (try simp only [Act.put, s_1, s_2, s_3])
    go_cut [290] from 1 to 0 (fun v290 wc => ∃ (kq : Nat) (x290_92 : Bool), v290 = .bool x290_92 ∧ Aside0 (laws_FnKnobsTurnOfAll.j3 kq a4 a5 a6 a8 l9 t540 x290_92 a0_0 a0_1 l0_2 a3_0 a3_1 l3_2 a7_0 a7_1 l7_2 = some r) ∧ Aside0 (kq ≤ k3) ∧ Aside0 (Kd.R (Kd.int .i64) 3 wc w.heap.size (fun _ => True) (.slice Ao97 t540.length co97) t540) ∧ Aside0 (wc.heap[gb525]? = some (.cells #[.int .i64 a0_0, .int .i64 a0_1, (.slice A0_2 l0_2.length c0_2)] 33 (0, 0))) ∧ Aside0 (wc.heap[gb526]? = some (.cells #[.int .i64 a3_0, .int .i64 a3_1, (.slice A3_2 l3_2.length c3_2)] 33 (0, 0))) ∧ Aside0 (wc.heap[gb527]? = some (.cells #[.int .i64 a7_0, .int .i64 a7_1, (.slice A7_2 l7_2.length c7_2)] 33 (0, 0))) ∧ Aside0 (Below w.heap.size w wc))
    case first => as_aux_lemma =>
      have H := HC93.out
      clear HC93
      by_cases c105 : x33_3.toList = a2.toList
      rotate_left
      · rw [if_neg c105] at H
        have c105b0 : (x33_3.toList == a2.toList) = false := beq_eq_false_iff_ne.mpr c105
        have c105b1 : (x33_3.toList != a2.toList) = true := bne_iff_ne.mpr c105
        (first | rw [c105b0] | (simp only [i64_w, i32_w]; rw [c105b0]) | skip)
        rw [HRT.out] at H
        exact absurd H (by generalize k3 = q_; cases q_ <;> simp [laws_FnKnobsTurnOfAll.j3])
      rw [if_pos c105] at H
      have c105b0 : (x33_3.toList == a2.toList) = true := beq_iff_eq.mpr c105
      have c105b1 : (x33_3.toList != a2.toList) = false := bne_eq_false_iff_eq.mpr c105
      clear c105
      (first | rw [c105b0] | (simp only [i64_w, i32_w]; rw [c105b0]) | skip)
      by_cases c106 : (t532.length : Int) = t528
      rotate_left
      · rw [if_neg c106] at H
        have c106b0 : ((t532.length : Int) == t528) = false := beq_eq_false_iff_ne.mpr c106
        have c106b1 : ((t532.length : Int) != t528) = true := bne_iff_ne.mpr c106
        rw [HRT.out] at H
        exact absurd H (by generalize k3 = q_; cases q_ <;> simp [laws_FnKnobsTurnOfAll.j3])
      rw [if_pos c106] at H
      have c106b0 : ((t532.length : Int) == t528) = true := beq_iff_eq.mpr c106
      have c106b1 : ((t532.length : Int) != t528) = false := bne_eq_false_iff_eq.mpr c106
      clear c106
      by_cases c107 : t558 = true
      rotate_left
      · replace c107 := Bool.eq_false_iff.mpr c107
        subst c107
        rw [if_neg (show ¬ (false = true) by decide)] at H
        rw [HRT.out] at H
        exact absurd H (by generalize k3 = q_; cases q_ <;> simp [laws_FnKnobsTurnOfAll.j3])
      subst c107
      rw [if_pos rfl] at H
      by_cases c108 : t557.toList = a2.toList
      rotate_left
      · rw [if_neg c108] at H
        have c108b0 : (t557.toList == a2.toList) = false := beq_eq_false_iff_ne.mpr c108
        have c108b1 : (t557.toList != a2.toList) = true := bne_iff_ne.mpr c108
        rw [HRT.out] at H
        exact absurd H (by generalize k3 = q_; cases q_ <;> simp [laws_FnKnobsTurnOfAll.j3])
      rw [if_pos c108] at H
      have c108b0 : (t557.toList == a2.toList) = true := beq_iff_eq.mpr c108
      have c108b1 : (t557.toList != a2.toList) = false := bne_eq_false_iff_eq.mpr c108
      clear c108
      by_cases c109 : (t540.length : Int) = (l0_2.length : Int)
      rotate_left
      · rw [if_neg c109] at H
        have c109b0 : ((t540.length : Int) == (l0_2.length : Int)) = false := beq_eq_false_iff_ne.mpr c109
        have c109b1 : ((t540.length : Int) != (l0_2.length : Int)) = true := bne_iff_ne.mpr c109
        have c109b2 : (t540.length == l0_2.length) = false := by first | simpa using c109 | (simp at c109 ⊢; omega)
        rw [HRT.out] at H
        exact absurd H (by generalize k3 = q_; cases q_ <;> simp [laws_FnKnobsTurnOfAll.j3])
      rw [if_pos c109] at H
      have c109b0 : ((t540.length : Int) == (l0_2.length : Int)) = true := beq_iff_eq.mpr c109
      have c109b1 : ((t540.length : Int) != (l0_2.length : Int)) = false := bne_eq_false_iff_eq.mpr c109
      have c109b2 : (t540.length == l0_2.length) = true := by first | simpa using c109 | (simp at c109 ⊢; omega)
      clear c109
      by_cases c110 : t560 = true
      rotate_left
      · replace c110 := Bool.eq_false_iff.mpr c110
        subst c110
        rw [if_neg (show ¬ (false = true) by decide)] at H
        rw [HRT.out] at H
        exact absurd H (by generalize k3 = q_; cases q_ <;> simp [laws_FnKnobsTurnOfAll.j3])
      subst c110
      rw [if_pos rfl] at H
      by_cases c111 : t559 = t528
      rotate_left
      · rw [if_neg c111] at H
        have c111b0 : (t559 == t528) = false := beq_eq_false_iff_ne.mpr c111
        have c111b1 : (t559 != t528) = true := bne_iff_ne.mpr c111
        rw [HRT.out] at H
        exact absurd H (by generalize k3 = q_; cases q_ <;> simp [laws_FnKnobsTurnOfAll.j3])
      rw [if_pos c111] at H
      have c111b0 : (t559 == t528) = true := beq_iff_eq.mpr c111
      have c111b1 : (t559 != t528) = false := bne_eq_false_iff_eq.mpr c111
      clear c111
      by_cases c112 : t562 = true
      rotate_left
      · replace c112 := Bool.eq_false_iff.mpr c112
        subst c112
        rw [if_neg (show ¬ (false = true) by decide)] at H
        rw [HRT.out] at H
        exact absurd H (by generalize k3 = q_; cases q_ <;> simp [laws_FnKnobsTurnOfAll.j3])
      subst c112
      rw [if_pos rfl] at H
      by_cases c113 : t564 = true
      rotate_left
      · replace c113 := Bool.eq_false_iff.mpr c113
        subst c113
        rw [if_neg (show ¬ (false = true) by decide)] at H
        rw [HRT.out] at H
        exact absurd H (by generalize k3 = q_; cases q_ <;> simp [laws_FnKnobsTurnOfAll.j3])
      subst c113
      rw [if_pos rfl] at H
      by_cases c114 : t561.toList = t563.toList
      rotate_left
      · rw [if_neg c114] at H
        have c114b0 : (t561.toList == t563.toList) = false := beq_eq_false_iff_ne.mpr c114
        have c114b1 : (t561.toList != t563.toList) = true := bne_iff_ne.mpr c114
        rw [HRT.out] at H
        exact absurd H (by generalize k3 = q_; cases q_ <;> simp [laws_FnKnobsTurnOfAll.j3])
      rw [if_pos c114] at H
      have c114b0 : (t561.toList == t563.toList) = true := beq_iff_eq.mpr c114
      have c114b1 : (t561.toList != t563.toList) = false := bne_eq_false_iff_eq.mpr c114
      clear c114
      have H' := Aside0.mk H
      clear H
      have hnb115 := eq_false NB525_526.out
      have hnc115 := eq_false NB526_525.out
      have hnb116 := eq_false NB525_527.out
      have hnc116 := eq_false NB527_525.out
      have hcz117_0 : w104.cell? ⟨gb525, 0, none⟩ = some (.int .i64 a0_0) := (blk_cell BK525.out 0).trans rfl
      have hcz117_1 : w104.cell? ⟨gb525, 1, none⟩ = some (.int .i64 a0_1) := (blk_cell BK525.out 1).trans rfl
      have hcz117_2 : w104.cell? ⟨gb525, 2, none⟩ = some (.slice A0_2 l0_2.length c0_2) := (blk_cell BK525.out 2).trans rfl
      have hfz117_0 := blk_frozen BK525.out 0
      have hfz117_1 := blk_frozen BK525.out 1
      have hfz117_2 := blk_frozen BK525.out 2
      go_wp2
      go_meet
      case rel => refine ⟨_, (((t528 == 0) != (a1.toList == a2.toList))), (by first | rfl | (simp; done) | (simp [*]; done)), H', ⟨by have := HJ10.out; have := HJ25.out; have := HK3.out; first | omega | exact Nat.le_refl _⟩, ⟨?_⟩, ⟨?_⟩, ⟨?_⟩, ⟨?_⟩, ⟨bB HB⟩⟩ <;> (with_reducible repeat (first | refine g_d ?_ _ | refine g_e ?_ | refine g_a ?_ _ | apply r_a | apply r_d | apply r_e)) <;> first | exact BK525.out | exact BK526.out | exact BK527.out | exact HO_29.out
    clear HC93
    try clear c75
    try clear c75b0
    try clear hcz101_0
    try clear hcz101_1
    try clear hcz101_2
    try clear hcz103_0
    try clear hcz103_1
    try clear hcz103_2
    try clear hcz96_0
    try clear hcz96_1
    try clear hcz96_2
    try clear hcz99_0
    try clear hcz99_1
    try clear hcz99_2
    try clear hfz101_0
    try clear hfz101_1
    try clear hfz101_2
    try clear hfz103_0
    try clear hfz103_1
    try clear hfz103_2
    try clear hfz96_0
    try clear hfz96_1
    try clear hfz96_2
    try clear hfz99_0
    try clear hfz99_1
    try clear hfz99_2
    obtain ⟨kq, x290_92, rfl, HA, HJ92, HO_29, BK525, BK526, BK527, HB⟩ := hcut
    rcases kq with _ | kj92
    · exact absurd HA.out (by simp [laws_FnKnobsTurnOfAll.j3])
    have H := HA.out
    clear HA
    simp only [laws_FnKnobsTurnOfAll.j3] at H
    by_cases c118 : x290_92 = true
    · subst c118
      rw [if_pos rfl] at H
      rw [HRT.out] at H
      exact absurd H (by simp)
    replace c118 := Bool.eq_false_iff.mpr c118
    subst c118
    rw [if_neg (show ¬ (false = true) by decide)] at H
    have H' := Aside0.mk H
    clear H
    go_wp2
    go_loopg [293] kj92 (fun kq v293 w' => ∃ (x293_5 : Int), v293 = .int .i64 x293_5 ∧ Aside0 (laws_FnKnobsTurnOfAll.l1 kq a4 a5 a6 a8 l9 t540 (t540.length : Int) x293_5 a0_0 a0_1 l0_2 a3_0 a3_1 l3_2 a7_0 a7_1 l7_2 = some r) ∧ Aside0 (kq ≤ kj92) ∧ Aside0 (Kd.R (Kd.int .i64) 3 w' w.heap.size (fun _ => True) (.slice Ao97 t540.length co97) t540) ∧ Aside0 (w'.heap[gb525]? = some (.cells #[.int .i64 a0_0, .int .i64 a0_1, (.slice A0_2 l0_2.length c0_2)] 33 (0, 0))) ∧ Aside0 (w'.heap[gb526]? = some (.cells #[.int .i64 a3_0, .int .i64 a3_1, (.slice A3_2 l3_2.length c3_2)] 33 (0, 0))) ∧ Aside0 (w'.heap[gb527]? = some (.cells #[.int .i64 a7_0, .int .i64 a7_1, (.slice A7_2 l7_2.length c7_2)] 33 (0, 0))) ∧ Aside0 (Below w.heap.size w w'))
    case atStart => refine ⟨(0), (by first | rfl | (simp; done) | (simp [*]; done)), H', ⟨Nat.le_refl _⟩, ⟨?_⟩, ⟨?_⟩, ⟨?_⟩, ⟨?_⟩, ⟨bB HB⟩⟩ <;> (with_reducible repeat (first | refine g_d ?_ _ | refine g_e ?_ | refine g_a ?_ _ | apply r_a | apply r_d | apply r_e)) <;> first | exact BK525.out | exact BK526.out | exact BK527.out | exact HO_29.out
    clear H'
    try clear c118
    obtain ⟨x293_5, rfl, HA, HK5, HO_291, BK525, BK526, BK527, HB⟩ := hrel
    rcases gk with _ | k5
    · exact absurd HA.out (by simp [laws_FnKnobsTurnOfAll.l1])
    have H := HA.out
    clear HA
    simp only [laws_FnKnobsTurnOfAll.l1] at H
    by_cases c119 : x293_5 < (t540.length : Int)
    rotate_left
    · rw [if_neg c119] at H
      have c119b0 : decide (x293_5 < (t540.length : Int)) = false := decide_eq_false c119
      clear c119
      have H' := Aside0.mk H
      clear H
      go_wp2
      go_meet
      case rel => refine ⟨_, H', ⟨by have := HJ10.out; have := HJ25.out; have := HK3.out; have := HJ92.out; have := HK5.out; first | omega | exact Nat.le_refl _⟩, ⟨?_⟩, ⟨?_⟩, ⟨?_⟩, ⟨bB HB⟩⟩ <;> (with_reducible repeat (first | refine g_d ?_ _ | refine g_e ?_ | refine g_a ?_ _)) <;> first | exact BK525.out | exact BK526.out | exact BK527.out
    rw [if_pos c119] at H
    have c119b0 : decide (x293_5 < (t540.length : Int)) = true := decide_eq_true c119
    clear c119
    by_cases c120 : 0 ≤ x293_5
    rotate_left
    · rw [if_neg c120] at H
      exact absurd H (by simp)
    rw [if_pos c120] at H
    have c120b0 : decide (0 ≤ x293_5) = true := decide_eq_true c120
    clear c120
    by_cases c121 : x293_5 < (t540.length : Int)
    rotate_left
    · rw [if_neg c121] at H
      exact absurd H (by simp)
    rw [if_pos c121] at H
    have c121b0 : decide (x293_5 < (t540.length : Int)) = true := decide_eq_true c121
    clear c121
    by_cases c122 : (rd t540 x293_5) < 0
    · rw [if_pos c122] at H
      have c122b0 : decide ((rd t540 x293_5) < 0) = true := decide_eq_true c122
      clear c122
      rw [HRT.out] at H
      exact absurd H (by simp)
    rw [if_neg c122] at H
    have c122b0 : decide ((rd t540 x293_5) < 0) = false := decide_eq_false c122
    clear c122
    by_cases c123 : (rd t540 x293_5) ≥ a0_1
    · rw [if_pos c123] at H
      have c123b0 : decide (a0_1 ≤ (rd t540 x293_5)) = true := decide_eq_true c123
      clear c123
      rw [HRT.out] at H
      exact absurd H (by simp)
    rw [if_neg c123] at H
    have c123b0 : decide (a0_1 ≤ (rd t540 x293_5)) = false := decide_eq_false c123
    clear c123
    have H' := Aside0.mk H
    clear H
    have p565 : 0 ≤ (x293_5 : Int) := of_decide_eq_true (by first | (with_reducible assumption) | assumption)
    have q565 : x293_5 < (t540.length : Int) := of_decide_eq_true (by first | (with_reducible assumption) | assumption)
    obtain ⟨ad565, e565, hx565_0⟩ := Kd.at_int (Kd.R_reads' HO_291.out).2.2 x293_5 p565 q565
    cases e565
    replace p565 := eq_true p565
    replace q565 := eq_true q565
    have hnb124 := eq_false NB525_526.out
    have hnc124 := eq_false NB526_525.out
    have hnb125 := eq_false NB525_527.out
    have hnc125 := eq_false NB527_525.out
    have hcz126_0 : wr.cell? ⟨gb525, 0, none⟩ = some (.int .i64 a0_0) := (blk_cell BK525.out 0).trans rfl
    have hcz126_1 : wr.cell? ⟨gb525, 1, none⟩ = some (.int .i64 a0_1) := (blk_cell BK525.out 1).trans rfl
    have hcz126_2 : wr.cell? ⟨gb525, 2, none⟩ = some (.slice A0_2 l0_2.length c0_2) := (blk_cell BK525.out 2).trans rfl
    have hfz126_0 := blk_frozen BK525.out 0
    have hfz126_1 := blk_frozen BK525.out 1
    have hfz126_2 := blk_frozen BK525.out 2
    go_wp2
    go_roundg k5
    case measure => have := HJ10.out; have := HJ25.out; have := HK3.out; have := HJ92.out; have := HK5.out; omega
    case rel => refine ⟨(wrap64 (x293_5 + 1)), (by first | rfl | (simp; done) | (simp [*]; done)), H', ⟨by have := HJ10.out; have := HJ25.out; have := HK3.out; have := HJ92.out; have := HK5.out; omega⟩, ⟨?_⟩, ⟨?_⟩, ⟨?_⟩, ⟨?_⟩, ⟨bB HB⟩⟩ <;> (with_reducible repeat (first | refine g_d ?_ _ | refine g_e ?_ | refine g_a ?_ _ | apply r_a | apply r_d | apply r_e)) <;> first | exact BK525.out | exact BK526.out | exact BK527.out | exact HO_291.out
  clear HC72
  obtain ⟨kq, HA, HJ71, BK525, BK526, BK527, HB⟩ := hcut
  rcases kq with _ | kj71
  · exact absurd HA.out (by simp [laws_FnKnobsTurnOfAll.j5])
  have H := HA.out
  clear HA
  simp only [laws_FnKnobsTurnOfAll.j5] at H
  replace H := Option.bind_eq_some_iff.mp H
  obtain ⟨⟨t566, t567⟩, A1270, H⟩ := H
  try dsimp only at H
  have A127 := Aside0.mk A1270
  clear A1270
  replace H := Option.bind_eq_some_iff.mp H
  obtain ⟨⟨t568, t569⟩, A1280, H⟩ := H
  try dsimp only at H
  have A128 := Aside0.mk A1280
  clear A1280
  replace H := Option.bind_eq_some_iff.mp H
  obtain ⟨⟨t570, t571⟩, A1290, H⟩ := H
  try dsimp only at H
  have A129 := Aside0.mk A1290
  clear A1290
  replace H := Option.bind_eq_some_iff.mp H
  obtain ⟨⟨t572, t573⟩, A1300, H⟩ := H
  try dsimp only at H
  have A130 := Aside0.mk A1300
  clear A1300
  have HC131 := Aside0.mk H
  clear H
  have hnb132 := eq_false NB526_525.out
  have hnc132 := eq_false NB525_526.out
  have hnb133 := eq_false NB526_527.out
  have hnc133 := eq_false NB527_526.out
  have hcz134_0 : wc.cell? ⟨gb526, 0, none⟩ = some (.int .i64 a3_0) := (blk_cell BK526.out 0).trans rfl
  have hcz134_1 : wc.cell? ⟨gb526, 1, none⟩ = some (.int .i64 a3_1) := (blk_cell BK526.out 1).trans rfl
  have hcz134_2 : wc.cell? ⟨gb526, 2, none⟩ = some (.slice A3_2 l3_2.length c3_2) := (blk_cell BK526.out 2).trans rfl
  have hfz134_0 := blk_frozen BK526.out 0
  have hfz134_1 := blk_frozen BK526.out 1
  have hfz134_2 := blk_frozen BK526.out 2
  go_upto_region 37 with (first | ((with_reducible refine gate_callee (f := 23) rfl ?_); refine goesL_ (some 312) rfl rfl Try.func23 (by kernel_rfl) rfl #[.agg #[.int .i64 a3_0, .int .i64 a3_1, .slice A3_2 l3_2.length c3_2], .string a4, .int .i64 a5, .int .i64 a6] rfl (by (try simp only [m_1, m_2, m_3]); first | done | rfl | (simp only [m_4, m_5]; rfl)) ?_; (with_reducible refine (impl_TurnKnob.calls kj71 a3_0 a3_1 _ _ l3_2 a4 a5 a6 t566 t567 _ ?side1 ?side2 A127.out).mono ?_); (case side1 => repeat (first | exact (Kd.C_below HR3_2.out HB.out) | (with_reducible refine Kd.C_alloc ?_ _) | (with_reducible refine Kd.C_drewN ?_ _) | (with_reducible refine Kd.C_drew ?_))); (case side2 => exact HC3_2.out); rintro e w135 ⟨rfl, hb⟩; refine ⟨_, rfl, ?_⟩; replace BK525 := bbx hb BK525; replace BK526 := bbx hb BK526; replace BK527 := bbx hb BK527; replace HB := bsx hb HB; skip; (try clear hb); (try clear hb2); (try clear hk); (try clear hi); have hcz136_0 : w135.cell? ⟨gb526, 0, none⟩ = some (.int .i64 a3_0) := (blk_cell BK526.out 0).trans rfl; have hcz136_1 : w135.cell? ⟨gb526, 1, none⟩ = some (.int .i64 a3_1) := (blk_cell BK526.out 1).trans rfl; have hcz136_2 : w135.cell? ⟨gb526, 2, none⟩ = some (.slice A3_2 l3_2.length c3_2) := (blk_cell BK526.out 2).trans rfl; have hfz136_0 := blk_frozen BK526.out 0; have hfz136_1 := blk_frozen BK526.out 1; have hfz136_2 := blk_frozen BK526.out 2) | ((with_reducible refine gate_callee (f := 26) rfl ?_); refine goesL_ (some 320) rfl rfl Try.func26 (by kernel_rfl) rfl #[.agg #[.int .i64 a3_0, .int .i64 a3_1, .slice A3_2 l3_2.length c3_2], .string a4, .int .i64 a5, .int .i64 a6] rfl (by (try simp only [m_1, m_2, m_3]); first | done | rfl | (simp only [m_4, m_5]; rfl)) ?_; (with_reducible refine (spec_TurnKnob.calls kj71 a3_0 a3_1 _ _ l3_2 a4 a5 a6 t568 t569 _ ?side1 ?side2 A128.out).mono ?_); (case side1 => repeat (first | exact (Kd.C_below HR3_2.out HB.out) | (with_reducible refine Kd.C_alloc ?_ _) | (with_reducible refine Kd.C_drewN ?_ _) | (with_reducible refine Kd.C_drew ?_))); (case side2 => exact HC3_2.out); rintro e w137 ⟨rfl, hb⟩; refine ⟨_, rfl, ?_⟩; replace BK525 := bbx hb BK525; replace BK526 := bbx hb BK526; replace BK527 := bbx hb BK527; replace HB := bsx hb HB; skip; (try clear hb); (try clear hb2); (try clear hk); (try clear hi); have hnb138 := eq_false NB527_525.out; have hnc138 := eq_false NB525_527.out; have hcz139_0 : w137.cell? ⟨gb527, 0, none⟩ = some (.int .i64 a7_0) := (blk_cell BK527.out 0).trans rfl; have hcz139_1 : w137.cell? ⟨gb527, 1, none⟩ = some (.int .i64 a7_1) := (blk_cell BK527.out 1).trans rfl; have hcz139_2 : w137.cell? ⟨gb527, 2, none⟩ = some (.slice A7_2 l7_2.length c7_2) := (blk_cell BK527.out 2).trans rfl; have hfz139_0 := blk_frozen BK527.out 0; have hfz139_1 := blk_frozen BK527.out 1; have hfz139_2 := blk_frozen BK527.out 2) | ((with_reducible refine gate_callee (f := 24) rfl ?_); refine goesL_ (some 327) rfl rfl Try.func24 (by kernel_rfl) rfl #[.agg #[.int .i64 a7_0, .int .i64 a7_1, .slice A7_2 l7_2.length c7_2], .string a8, .slice A9 l9.length c9] rfl (by (try simp only [m_1, m_2, m_3]); first | done | rfl | (simp only [m_4, m_5]; rfl)) ?_; (with_reducible refine (impl_KnobsAfter.calls kj71 a7_0 a7_1 _ _ l7_2 a8 _ _ l9 t570 t571 _ ?side1 ?side2 ?side3 ?side4 A129.out).mono ?_); (case side1 => repeat (first | exact (Kd.C_below HR7_2.out HB.out) | (with_reducible refine Kd.C_alloc ?_ _) | (with_reducible refine Kd.C_drewN ?_ _) | (with_reducible refine Kd.C_drew ?_))); (case side2 => exact HC7_2.out); (case side3 => repeat (first | exact (Kd.C_below HR9.out HB.out) | (with_reducible refine Kd.C_alloc ?_ _) | (with_reducible refine Kd.C_drewN ?_ _) | (with_reducible refine Kd.C_drew ?_))); (case side4 => exact HC9.out); rintro e w140 ⟨rfl, hb⟩; refine ⟨_, rfl, ?_⟩; replace BK525 := bbx hb BK525; replace BK526 := bbx hb BK526; replace BK527 := bbx hb BK527; replace HB := bsx hb HB; skip; (try clear hb); (try clear hb2); (try clear hk); (try clear hi); have hcz141_0 : w140.cell? ⟨gb527, 0, none⟩ = some (.int .i64 a7_0) := (blk_cell BK527.out 0).trans rfl; have hcz141_1 : w140.cell? ⟨gb527, 1, none⟩ = some (.int .i64 a7_1) := (blk_cell BK527.out 1).trans rfl; have hcz141_2 : w140.cell? ⟨gb527, 2, none⟩ = some (.slice A7_2 l7_2.length c7_2) := (blk_cell BK527.out 2).trans rfl; have hfz141_0 := blk_frozen BK527.out 0; have hfz141_1 := blk_frozen BK527.out 1; have hfz141_2 := blk_frozen BK527.out 2) | ((with_reducible refine gate_callee (f := 27) rfl ?_); refine goesL_ (some 334) rfl rfl Try.func27 (by kernel_rfl) rfl #[.agg #[.int .i64 a7_0, .int .i64 a7_1, .slice A7_2 l7_2.length c7_2], .string a8, .slice A9 l9.length c9] rfl (by (try simp only [m_1, m_2, m_3]); first | done | rfl | (simp only [m_4, m_5]; rfl)) ?_; (with_reducible refine (spec_KnobsAfter.calls kj71 a7_0 a7_1 _ _ l7_2 a8 _ _ l9 t572 t573 _ ?side1 ?side2 ?side3 ?side4 A130.out).mono ?_); (case side1 => repeat (first | exact (Kd.C_below HR7_2.out HB.out) | (with_reducible refine Kd.C_alloc ?_ _) | (with_reducible refine Kd.C_drewN ?_ _) | (with_reducible refine Kd.C_drew ?_))); (case side2 => exact HC7_2.out); (case side3 => repeat (first | exact (Kd.C_below HR9.out HB.out) | (with_reducible refine Kd.C_alloc ?_ _) | (with_reducible refine Kd.C_drewN ?_ _) | (with_reducible refine Kd.C_drew ?_))); (case side4 => exact HC9.out); rintro e w142 ⟨rfl, hb⟩; refine ⟨_, rfl, ?_⟩; replace BK525 := bbx hb BK525; replace BK526 := bbx hb BK526; replace BK527 := bbx hb BK527; replace HB := bsx hb HB; skip; (try clear hb); (try clear hb2); (try clear hk); (try clear hi)))
  (try simp only [Act.put, s_1, s_2, s_3])
  go_cut [354] from 1 to 0 (fun v354 wc => ∃ (kq : Nat) (x354_130 : Bool), v354 = .bool x354_130 ∧ Aside0 (laws_FnKnobsTurnOfAll.j6 kq a4 a5 a6 a8 l9 t566 t567 t570 t571 x354_130 a3_0 a3_1 l3_2 a7_0 a7_1 l7_2 = some r) ∧ Aside0 (kq ≤ kj71) ∧ Aside0 (wc.heap[gb525]? = some (.cells #[.int .i64 a0_0, .int .i64 a0_1, (.slice A0_2 l0_2.length c0_2)] 33 (0, 0))) ∧ Aside0 (wc.heap[gb526]? = some (.cells #[.int .i64 a3_0, .int .i64 a3_1, (.slice A3_2 l3_2.length c3_2)] 33 (0, 0))) ∧ Aside0 (wc.heap[gb527]? = some (.cells #[.int .i64 a7_0, .int .i64 a7_1, (.slice A7_2 l7_2.length c7_2)] 33 (0, 0))) ∧ Aside0 (Below w.heap.size w wc))
  case first => as_aux_lemma =>
    have H := HC131.out
    clear HC131
    by_cases c143 : (t567 != t569) = true
    · rw [if_pos c143] at H
      have c143b0 : (t567 != t569) = true := c143
      (try (have c143b1 : decide (t567 = t569) = false := by simpa using c143))
      (try (have c143b2 : (t567 == t569) = false := by simpa using c143))
      (try (have c143b3 : ¬ (t567 = t569) := by simpa using c143))
      clear c143
      (first | rw [c143b0] | (simp only [i64_w, i32_w]; rw [c143b0]) | skip)
      rw [HRT.out] at H
      exact absurd H (by generalize kj71 = q_; cases q_ <;> simp [laws_FnKnobsTurnOfAll.j6])
    rw [if_neg c143] at H
    have c143b0 : (t567 != t569) = false := by simpa using c143
    (try (have c143b1 : decide (t567 = t569) = true := by simpa using c143))
    (try (have c143b2 : (t567 == t569) = true := by simpa using c143))
    clear c143
    (first | rw [c143b0] | (simp only [i64_w, i32_w]; rw [c143b0]) | skip)
    by_cases c144 : t566.toList = t568.toList
    rotate_left
    · rw [if_neg c144] at H
      have c144b0 : (t566.toList == t568.toList) = false := beq_eq_false_iff_ne.mpr c144
      have c144b1 : (t566.toList != t568.toList) = true := bne_iff_ne.mpr c144
      rw [HRT.out] at H
      exact absurd H (by generalize kj71 = q_; cases q_ <;> simp [laws_FnKnobsTurnOfAll.j6])
    rw [if_pos c144] at H
    have c144b0 : (t566.toList == t568.toList) = true := beq_iff_eq.mpr c144
    have c144b1 : (t566.toList != t568.toList) = false := bne_eq_false_iff_eq.mpr c144
    clear c144
    by_cases c145 : (t571 != t573) = true
    · rw [if_pos c145] at H
      have c145b0 : (t571 != t573) = true := c145
      (try (have c145b1 : decide (t571 = t573) = false := by simpa using c145))
      (try (have c145b2 : (t571 == t573) = false := by simpa using c145))
      (try (have c145b3 : ¬ (t571 = t573) := by simpa using c145))
      clear c145
      rw [HRT.out] at H
      exact absurd H (by generalize kj71 = q_; cases q_ <;> simp [laws_FnKnobsTurnOfAll.j6])
    rw [if_neg c145] at H
    have c145b0 : (t571 != t573) = false := by simpa using c145
    (try (have c145b1 : decide (t571 = t573) = true := by simpa using c145))
    (try (have c145b2 : (t571 == t573) = true := by simpa using c145))
    clear c145
    have H' := Aside0.mk H
    clear H
    go_wp2
    go_meet
    case rel => refine ⟨_, ((t570.toList != t572.toList)), (by first | rfl | (simp; done) | (simp [*]; done)), H', ⟨by have := HJ10.out; have := HJ25.out; have := HJ71.out; first | omega | exact Nat.le_refl _⟩, ⟨?_⟩, ⟨?_⟩, ⟨?_⟩, ⟨bB HB⟩⟩ <;> (with_reducible repeat (first | refine g_d ?_ _ | refine g_e ?_ | refine g_a ?_ _)) <;> first | exact BK525.out | exact BK526.out | exact BK527.out
  clear HC131
  try clear c9
  try clear hcz134_0
  try clear hcz134_1
  try clear hcz134_2
  try clear hcz136_0
  try clear hcz136_1
  try clear hcz136_2
  try clear hcz139_0
  try clear hcz139_1
  try clear hcz139_2
  try clear hcz141_0
  try clear hcz141_1
  try clear hcz141_2
  try clear hfz134_0
  try clear hfz134_1
  try clear hfz134_2
  try clear hfz136_0
  try clear hfz136_1
  try clear hfz136_2
  try clear hfz139_0
  try clear hfz139_1
  try clear hfz139_2
  try clear hfz141_0
  try clear hfz141_1
  try clear hfz141_2
  obtain ⟨kq, x354_130, rfl, HA, HJ130, BK525, BK526, BK527, HB⟩ := hcut
  rcases kq with _ | kj130
  · exact absurd HA.out (by simp [laws_FnKnobsTurnOfAll.j6])
  have H := HA.out
  clear HA
  simp only [laws_FnKnobsTurnOfAll.j6] at H
  by_cases c146 : x354_130 = true
  · subst c146
    rw [if_pos rfl] at H
    rw [HRT.out] at H
    exact absurd H (by simp)
  replace c146 := Bool.eq_false_iff.mpr c146
  subst c146
  rw [if_neg (show ¬ (false = true) by decide)] at H
  have HC147 := Aside0.mk H
  clear H
  go_upto_if 355 with (fail)
  go_cut [] from 1 to 0 (fun wc => ∃ (kq : Nat), Aside0 (laws_FnKnobsTurnOfAll.j7 kq a8 l9 t570 t571 a7_0 a7_1 l7_2 = some r) ∧ Aside0 (kq ≤ kj130) ∧ Aside0 (wc.heap[gb525]? = some (.cells #[.int .i64 a0_0, .int .i64 a0_1, (.slice A0_2 l0_2.length c0_2)] 33 (0, 0))) ∧ Aside0 (wc.heap[gb526]? = some (.cells #[.int .i64 a3_0, .int .i64 a3_1, (.slice A3_2 l3_2.length c3_2)] 33 (0, 0))) ∧ Aside0 (wc.heap[gb527]? = some (.cells #[.int .i64 a7_0, .int .i64 a7_1, (.slice A7_2 l7_2.length c7_2)] 33 (0, 0))) ∧ Aside0 (Below w.heap.size w wc))
  case first => as_aux_lemma =>
    have H := HC147.out
    clear HC147
    by_cases c148 : t567 = true
    rotate_left
    · replace c148 := Bool.eq_false_iff.mpr c148
      subst c148
      rw [if_neg (show ¬ (false = true) by decide)] at H
      have H' := Aside0.mk H
      clear H
      go_wp2
      go_meet
      case rel => refine ⟨_, H', ⟨by have := HJ10.out; have := HJ25.out; have := HJ71.out; have := HJ130.out; first | omega | exact Nat.le_refl _⟩, ⟨?_⟩, ⟨?_⟩, ⟨?_⟩, ⟨bB HB⟩⟩ <;> (with_reducible repeat (first | refine g_d ?_ _ | refine g_e ?_ | refine g_a ?_ _)) <;> first | exact BK525.out | exact BK526.out | exact BK527.out
    subst c148
    rw [if_pos rfl] at H
    replace H := Option.bind_eq_some_iff.mp H
    obtain ⟨⟨t574, t575⟩, A1490, H⟩ := H
    try dsimp only at H
    have A149 := Aside0.mk A1490
    clear A1490
    replace H := Option.bind_eq_some_iff.mp H
    obtain ⟨⟨t576, t577⟩, A1500, H⟩ := H
    try dsimp only at H
    have A150 := Aside0.mk A1500
    clear A1500
    replace H := Option.bind_eq_some_iff.mp H
    obtain ⟨⟨t578, t579⟩, A1510, H⟩ := H
    try dsimp only at H
    have A151 := Aside0.mk A1510
    clear A1510
    by_cases c152 : t575 = true
    rotate_left
    · replace c152 := Bool.eq_false_iff.mpr c152
      subst c152
      rw [if_neg (show ¬ (false = true) by decide)] at H
      rw [HRT.out] at H
      exact absurd H (by simp)
    subst c152
    rw [if_pos rfl] at H
    by_cases c153 : t574.toList = a4.toList
    rotate_left
    · rw [if_neg c153] at H
      have c153b0 : (t574.toList == a4.toList) = false := beq_eq_false_iff_ne.mpr c153
      have c153b1 : (t574.toList != a4.toList) = true := bne_iff_ne.mpr c153
      (first | rw [c153b0] | (simp only [i64_w, i32_w]; rw [c153b0]) | skip)
      rw [HRT.out] at H
      exact absurd H (by simp)
    rw [if_pos c153] at H
    have c153b0 : (t574.toList == a4.toList) = true := beq_iff_eq.mpr c153
    have c153b1 : (t574.toList != a4.toList) = false := bne_eq_false_iff_eq.mpr c153
    clear c153
    (first | rw [c153b0] | (simp only [i64_w, i32_w]; rw [c153b0]) | skip)
    by_cases c154 : t577 = true
    rotate_left
    · replace c154 := Bool.eq_false_iff.mpr c154
      subst c154
      rw [if_neg (show ¬ (false = true) by decide)] at H
      rw [HRT.out] at H
      exact absurd H (by simp)
    subst c154
    rw [if_pos rfl] at H
    by_cases c155 : t576 < 1
    · rw [if_pos c155] at H
      have c155b0 : decide (t576 < 1) = true := decide_eq_true c155
      clear c155
      rw [HRT.out] at H
      exact absurd H (by simp)
    rw [if_neg c155] at H
    have c155b0 : decide (t576 < 1) = false := decide_eq_false c155
    clear c155
    by_cases c156 : t576 > a3_1
    · rw [if_pos c156] at H
      have c156b0 : decide (a3_1 < t576) = true := decide_eq_true c156
      clear c156
      rw [HRT.out] at H
      exact absurd H (by simp)
    rw [if_neg c156] at H
    have c156b0 : decide (a3_1 < t576) = false := decide_eq_false c156
    clear c156
    by_cases c157 : t579 = true
    rotate_left
    · replace c157 := Bool.eq_false_iff.mpr c157
      subst c157
      rw [if_neg (show ¬ (false = true) by decide)] at H
      rw [HRT.out] at H
      exact absurd H (by simp)
    subst c157
    rw [if_pos rfl] at H
    by_cases c158 : t578.toList = a4.toList
    rotate_left
    · rw [if_neg c158] at H
      have c158b0 : (t578.toList == a4.toList) = false := beq_eq_false_iff_ne.mpr c158
      have c158b1 : (t578.toList != a4.toList) = true := bne_iff_ne.mpr c158
      rw [HRT.out] at H
      exact absurd H (by simp)
    rw [if_pos c158] at H
    have c158b0 : (t578.toList == a4.toList) = true := beq_iff_eq.mpr c158
    have c158b1 : (t578.toList != a4.toList) = false := bne_eq_false_iff_eq.mpr c158
    clear c158
    have H' := Aside0.mk H
    clear H
    have hnb159 := eq_false NB526_525.out
    have hnc159 := eq_false NB525_526.out
    have hnb160 := eq_false NB526_527.out
    have hnc160 := eq_false NB527_526.out
    have hcz161_0 : wc.cell? ⟨gb526, 0, none⟩ = some (.int .i64 a3_0) := (blk_cell BK526.out 0).trans rfl
    have hcz161_1 : wc.cell? ⟨gb526, 1, none⟩ = some (.int .i64 a3_1) := (blk_cell BK526.out 1).trans rfl
    have hcz161_2 : wc.cell? ⟨gb526, 2, none⟩ = some (.slice A3_2 l3_2.length c3_2) := (blk_cell BK526.out 2).trans rfl
    have hfz161_0 := blk_frozen BK526.out 0
    have hfz161_1 := blk_frozen BK526.out 1
    have hfz161_2 := blk_frozen BK526.out 2
    go_wp2_with (first | ((with_reducible refine gate_callee (f := 23) rfl ?_); refine goesL_ (some 362) rfl rfl Try.func23 (by kernel_rfl) rfl #[.agg #[.int .i64 a3_0, .int .i64 a3_1, .slice A3_2 l3_2.length c3_2], .string t566, .int .i64 a5, .int .i64 (wrap64 (-a6))] rfl (by (try simp only [m_1, m_2, m_3]); first | done | rfl | (simp only [m_4, m_5]; rfl)) ?_; (with_reducible refine (impl_TurnKnob.calls kj130 a3_0 a3_1 _ _ l3_2 t566 a5 (wrap64 (-a6)) t574 true _ ?side1 ?side2 A149.out).mono ?_); (case side1 => repeat (first | exact (Kd.C_below HR3_2.out HB.out) | (with_reducible refine Kd.C_alloc ?_ _) | (with_reducible refine Kd.C_drewN ?_ _) | (with_reducible refine Kd.C_drew ?_))); (case side2 => exact HC3_2.out); rintro e w162 ⟨rfl, hb⟩; refine ⟨_, rfl, ?_⟩; replace BK525 := bbx hb BK525; replace BK526 := bbx hb BK526; replace BK527 := bbx hb BK527; replace HB := bsx hb HB; skip; (try clear hb); (try clear hb2); (try clear hk); (try clear hi); have hcz163_0 : w162.cell? ⟨gb526, 0, none⟩ = some (.int .i64 a3_0) := (blk_cell BK526.out 0).trans rfl; have hcz163_1 : w162.cell? ⟨gb526, 1, none⟩ = some (.int .i64 a3_1) := (blk_cell BK526.out 1).trans rfl; have hcz163_2 : w162.cell? ⟨gb526, 2, none⟩ = some (.slice A3_2 l3_2.length c3_2) := (blk_cell BK526.out 2).trans rfl; have hfz163_0 := blk_frozen BK526.out 0; have hfz163_1 := blk_frozen BK526.out 1; have hfz163_2 := blk_frozen BK526.out 2) | ((with_reducible refine gate_callee (f := 28) rfl ?_); refine goesL_ (some 368) rfl rfl Try.func28 (by kernel_rfl) rfl #[.agg #[.int .i64 a3_0, .int .i64 a3_1, .slice A3_2 l3_2.length c3_2], .int .i64 a5] rfl (by (try simp only [m_1, m_2, m_3]); first | done | rfl | (simp only [m_4, m_5]; rfl)) ?_; (with_reducible refine (impl_PeriodOfKnob.calls kj130 a3_0 a3_1 _ _ l3_2 a5 t576 true _ ?side1 ?side2 A150.out).mono ?_); (case side1 => repeat (first | exact (Kd.C_below HR3_2.out HB.out) | (with_reducible refine Kd.C_alloc ?_ _) | (with_reducible refine Kd.C_drewN ?_ _) | (with_reducible refine Kd.C_drew ?_))); (case side2 => exact HC3_2.out); rintro e w164 ⟨rfl, hb⟩; refine ⟨_, rfl, ?_⟩; replace BK525 := bbx hb BK525; replace BK526 := bbx hb BK526; replace BK527 := bbx hb BK527; replace HB := bsx hb HB; skip; (try clear hb); (try clear hb2); (try clear hk); (try clear hi); have hcz165_0 : w164.cell? ⟨gb526, 0, none⟩ = some (.int .i64 a3_0) := (blk_cell BK526.out 0).trans rfl; have hcz165_1 : w164.cell? ⟨gb526, 1, none⟩ = some (.int .i64 a3_1) := (blk_cell BK526.out 1).trans rfl; have hcz165_2 : w164.cell? ⟨gb526, 2, none⟩ = some (.slice A3_2 l3_2.length c3_2) := (blk_cell BK526.out 2).trans rfl; have hfz165_0 := blk_frozen BK526.out 0; have hfz165_1 := blk_frozen BK526.out 1; have hfz165_2 := blk_frozen BK526.out 2) | ((with_reducible refine gate_callee (f := 23) rfl ?_); refine goesL_ (some 376) rfl rfl Try.func23 (by kernel_rfl) rfl #[.agg #[.int .i64 a3_0, .int .i64 a3_1, .slice A3_2 l3_2.length c3_2], .string a4, .int .i64 a5, .int .i64 t576] rfl (by (try simp only [m_1, m_2, m_3]); first | done | rfl | (simp only [m_4, m_5]; rfl)) ?_; (with_reducible refine (impl_TurnKnob.calls kj130 a3_0 a3_1 _ _ l3_2 a4 a5 t576 t578 true _ ?side1 ?side2 A151.out).mono ?_); (case side1 => repeat (first | exact (Kd.C_below HR3_2.out HB.out) | (with_reducible refine Kd.C_alloc ?_ _) | (with_reducible refine Kd.C_drewN ?_ _) | (with_reducible refine Kd.C_drew ?_))); (case side2 => exact HC3_2.out); rintro e w166 ⟨rfl, hb⟩; refine ⟨_, rfl, ?_⟩; replace BK525 := bbx hb BK525; replace BK526 := bbx hb BK526; replace BK527 := bbx hb BK527; replace HB := bsx hb HB; skip; (try clear hb); (try clear hb2); (try clear hk); (try clear hi); have hcz167_0 : w166.cell? ⟨gb526, 0, none⟩ = some (.int .i64 a3_0) := (blk_cell BK526.out 0).trans rfl; have hcz167_1 : w166.cell? ⟨gb526, 1, none⟩ = some (.int .i64 a3_1) := (blk_cell BK526.out 1).trans rfl; have hcz167_2 : w166.cell? ⟨gb526, 2, none⟩ = some (.slice A3_2 l3_2.length c3_2) := (blk_cell BK526.out 2).trans rfl; have hfz167_0 := blk_frozen BK526.out 0; have hfz167_1 := blk_frozen BK526.out 1; have hfz167_2 := blk_frozen BK526.out 2))
    go_meet
    case rel => refine ⟨_, H', ⟨by have := HJ10.out; have := HJ25.out; have := HJ71.out; have := HJ130.out; first | omega | exact Nat.le_refl _⟩, ⟨?_⟩, ⟨?_⟩, ⟨?_⟩, ⟨bB HB⟩⟩ <;> (with_reducible repeat (first | refine g_d ?_ _ | refine g_e ?_ | refine g_a ?_ _)) <;> first | exact BK525.out | exact BK526.out | exact BK527.out
  clear HC147
  try clear c146
  obtain ⟨kq, HA, HJ146, BK525, BK526, BK527, HB⟩ := hcut
  rcases kq with _ | kj146
  · exact absurd HA.out (by simp [laws_FnKnobsTurnOfAll.j7])
  have H := HA.out
  clear HA
  simp only [laws_FnKnobsTurnOfAll.j7] at H
  by_cases c168 : t571 = true
  rotate_left
  · replace c168 := Bool.eq_false_iff.mpr c168
    subst c168
    rw [if_neg (show ¬ (false = true) by decide)] at H
    obtain rfl := Option.some.inj H
    go_wp2
    go_ret
    exact ⟨by first | rfl | (simp [errW_none, errW_some] <;> rfl) | (simp [*, errW_none, errW_some] <;> rfl), bB HB⟩

  subst c168
  rw [if_pos rfl] at H
  have H' := Aside0.mk H
  clear H
  go_wp2
  go_loopg [62, 414] kj146 (fun kq v62 v414 w' => ∃ (x62_6 : ByteArray) (x414_6 : Int), v62 = .string x62_6 ∧ v414 = .int .i64 x414_6 ∧ Aside0 (laws_FnKnobsTurnOfAll.l2 kq t570 x62_6 l9 (l9.length : Int) x414_6 a7_0 a7_1 l7_2 = some r) ∧ Aside0 (kq ≤ kj146) ∧ Aside0 (w'.heap[gb525]? = some (.cells #[.int .i64 a0_0, .int .i64 a0_1, (.slice A0_2 l0_2.length c0_2)] 33 (0, 0))) ∧ Aside0 (w'.heap[gb526]? = some (.cells #[.int .i64 a3_0, .int .i64 a3_1, (.slice A3_2 l3_2.length c3_2)] 33 (0, 0))) ∧ Aside0 (w'.heap[gb527]? = some (.cells #[.int .i64 a7_0, .int .i64 a7_1, (.slice A7_2 l7_2.length c7_2)] 33 (0, 0))) ∧ Aside0 (Below w.heap.size w w'))
  case atStart => refine ⟨(a8), (0), (by first | rfl | (simp; done) | (simp [*]; done)), (by first | rfl | (simp; done) | (simp [*]; done)), H', ⟨Nat.le_refl _⟩, ⟨?_⟩, ⟨?_⟩, ⟨?_⟩, ⟨bB HB⟩⟩ <;> (with_reducible repeat (first | refine g_d ?_ _ | refine g_e ?_ | refine g_a ?_ _)) <;> first | exact BK525.out | exact BK526.out | exact BK527.out
  clear H'
  try clear c168
  obtain ⟨x62_6, x414_6, rfl, rfl, HA, HK6, BK525, BK526, BK527, HB⟩ := hrel
  rcases gk with _ | k6
  · exact absurd HA.out (by simp [laws_FnKnobsTurnOfAll.l2])
  have H := HA.out
  clear HA
  simp only [laws_FnKnobsTurnOfAll.l2] at H
  by_cases c169 : x414_6 < (l9.length : Int)
  rotate_left
  · rw [if_neg c169] at H
    have c169b0 : decide (x414_6 < (l9.length : Int)) = false := decide_eq_false c169
    clear c169
    obtain rfl := Option.some.inj H
    go_wp2
    go_ret
    exact ⟨by first | rfl | (simp [errW_none, errW_some] <;> rfl) | (simp [*, errW_none, errW_some] <;> rfl), bB HB⟩
  rw [if_pos c169] at H
  have c169b0 : decide (x414_6 < (l9.length : Int)) = true := decide_eq_true c169
  clear c169
  by_cases c170 : 0 ≤ x414_6
  rotate_left
  · rw [if_neg c170] at H
    exact absurd H (by simp)
  rw [if_pos c170] at H
  have c170b0 : decide (0 ≤ x414_6) = true := decide_eq_true c170
  clear c170
  by_cases c171 : x414_6 < (l9.length : Int)
  rotate_left
  · rw [if_neg c171] at H
    exact absurd H (by simp)
  rw [if_pos c171] at H
  have c171b0 : decide (x414_6 < (l9.length : Int)) = true := decide_eq_true c171
  clear c171
  replace H := Option.bind_eq_some_iff.mp H
  obtain ⟨⟨t581, t582⟩, A1720, H⟩ := H
  try dsimp only at H
  have A172 := Aside0.mk A1720
  clear A1720
  by_cases c173 : t582 = true
  rotate_left
  · replace c173 := Bool.eq_false_iff.mpr c173
    subst c173
    rw [if_neg (show ¬ (false = true) by decide)] at H
    rw [HRT.out] at H
    exact absurd H (by simp)
  subst c173
  rw [if_pos rfl] at H
  have H' := Aside0.mk H
  clear H
  have p580 : 0 ≤ (x414_6 : Int) := of_decide_eq_true (by first | (with_reducible assumption) | assumption)
  have q580 : x414_6 < (l9.length : Int) := of_decide_eq_true (by first | (with_reducible assumption) | assumption)
  obtain ⟨ad580, e580, hx580_0⟩ := Kd.at_int HR9.out x414_6 p580 q580
  cases e580
  (try replace hx580_0 := (HB.out.cell (World.block_lt_of_cell? w _ hx580_0)).trans hx580_0)
  replace p580 := eq_true p580
  replace q580 := eq_true q580
  have hnb174 := eq_false NB527_525.out
  have hnc174 := eq_false NB525_527.out
  have hnb175 := eq_false NB527_526.out
  have hnc175 := eq_false NB526_527.out
  have hcz176_0 : wr.cell? ⟨gb527, 0, none⟩ = some (.int .i64 a7_0) := (blk_cell BK527.out 0).trans rfl
  have hcz176_1 : wr.cell? ⟨gb527, 1, none⟩ = some (.int .i64 a7_1) := (blk_cell BK527.out 1).trans rfl
  have hcz176_2 : wr.cell? ⟨gb527, 2, none⟩ = some (.slice A7_2 l7_2.length c7_2) := (blk_cell BK527.out 2).trans rfl
  have hfz176_0 := blk_frozen BK527.out 0
  have hfz176_1 := blk_frozen BK527.out 1
  have hfz176_2 := blk_frozen BK527.out 2
  go_wp2_with (first | ((with_reducible refine gate_callee (f := 23) rfl ?_); refine goesL_ (some 424) rfl rfl Try.func23 (by kernel_rfl) rfl #[.agg #[.int .i64 a7_0, .int .i64 a7_1, .slice A7_2 l7_2.length c7_2], .string x62_6, .int .i64 x414_6, .int .i64 (rd l9 x414_6)] rfl (by (try simp only [m_1, m_2, m_3]); first | done | rfl | (simp only [m_4, m_5]; rfl)) ?_; (with_reducible refine (impl_TurnKnob.calls k6 a7_0 a7_1 _ _ l7_2 x62_6 x414_6 (rd l9 x414_6) t581 true _ ?side1 ?side2 A172.out).mono ?_); (case side1 => repeat (first | exact (Kd.C_below HR7_2.out HB.out) | (with_reducible refine Kd.C_alloc ?_ _) | (with_reducible refine Kd.C_drewN ?_ _) | (with_reducible refine Kd.C_drew ?_))); (case side2 => exact HC7_2.out); rintro e w177 ⟨rfl, hb⟩; refine ⟨_, rfl, ?_⟩; replace BK525 := bbx hb BK525; replace BK526 := bbx hb BK526; replace BK527 := bbx hb BK527; replace HB := bsx hb HB; skip; (try clear hb); (try clear hb2); (try clear hk); (try clear hi)))
  go_roundg k6
  case measure => have := HJ10.out; have := HJ25.out; have := HJ71.out; have := HJ130.out; have := HJ146.out; have := HK6.out; omega
  case rel => refine ⟨(t581), (wrap64 (x414_6 + 1)), (by first | rfl | (simp; done) | (simp [*]; done)), (by first | rfl | (simp; done) | (simp [*]; done)), H', ⟨by have := HJ10.out; have := HJ25.out; have := HJ71.out; have := HJ130.out; have := HJ146.out; have := HK6.out; omega⟩, ⟨?_⟩, ⟨?_⟩, ⟨?_⟩, ⟨bB HB⟩⟩ <;> (with_reducible repeat (first | refine g_d ?_ _ | refine g_e ?_ | refine g_a ?_ _)) <;> first | exact BK525.out | exact BK526.out | exact BK527.out
end Go.Proofs.Ytiacdekbleebjaa.P
