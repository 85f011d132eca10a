-- Texts of this session's own program (wip/dr.py), which runs the kit's printer.
import Derived.Test.YtmpcefcgboljkaaPx0
import Derived.Test.YtmpcefcgboljkaaPx1
import Derived.Test.YtmpcefcgboljkaaPx20
import Derived.Test.YtmpcefcgboljkaaPx42
import Derived.Test.YtmpcefcgboljkaaPx44
import Derived.Test.YtmpcefcgboljkaaPx80
import Derived.Test.YtmpcefcgboljkaaPx94
namespace Go.Proofs.Ytmpcefcgboljkaa.P
open Go.RowKit Go.Proofs.YtmpcefcgboljkaaW.PrintWords Go.Proofs.YtmpcefcgboljkaaW.PrintLast Go.Proofs.YtmpcefcgboljkaaW.PrintMore
attribute [local go_sem] q_leq q_gtr q_geq max2_int min2_int max_two min_two max_three min_three max_four min_four   -- for this text's walks alone
set_option linter.unusedVariables false
set_option linter.unusedSimpArgs false

/-! ### laws_FnRingsMeetOfAll: function 4 -/
mutual
def laws_FnRingsMeetOfAll.j0 : Nat → ByteArray → ByteArray → Int → ByteArray → Int → Bool → Int → Int → Int → Int → Int → Int → Int → Int → Option (Bool)
  | 0, _, _, _, _, _, _, _, _, _, _, _, _, _, _ => none
  | k + 1, x1, x3, x4, x6, x8, x87, x487000, x487001, x488000, x488001, x489000, x489001, x490000, x490001 => if x87 = true then (some true) else ((impl_IsRing.f k x487000 x487001 x1).bind fun bt490 => ((spec_IsRing.f k x487000 x487001 x1).bind fun bt492 => ((impl_CodesOfRing.f k x487000 x487001 x1).bind fun bt494 => ((spec_CodesOfRing.f k x487000 x487001 x1).bind fun bt498 => ((impl_BackRing.f k x487000 x487001 x1).bind fun bt502 => ((spec_BackRing.f k x487000 x487001 x1).bind fun bt504 => (if (bt490.2 != bt492.2) = true then (laws_FnRingsMeetOfAll.j1 k x1 x3 x4 x6 x8 bt494.1 bt494.2 bt502.1 true x487000 x487001 x488000 x488001 x489000 x489001 x490000 x490001) else (if (bt490.1 != bt492.1) = true then (laws_FnRingsMeetOfAll.j1 k x1 x3 x4 x6 x8 bt494.1 bt494.2 bt502.1 true x487000 x487001 x488000 x488001 x489000 x489001 x490000 x490001) else (if (bt494.2 != bt498.2) = true then (laws_FnRingsMeetOfAll.j1 k x1 x3 x4 x6 x8 bt494.1 bt494.2 bt502.1 true x487000 x487001 x488000 x488001 x489000 x489001 x490000 x490001) else ((laws_eTexts.f k bt494.1 bt498.1).bind fun t506 => (if t506 = true then (if (bt502.2 != bt504.2) = true then (laws_FnRingsMeetOfAll.j1 k x1 x3 x4 x6 x8 bt494.1 bt494.2 bt502.1 true x487000 x487001 x488000 x488001 x489000 x489001 x490000 x490001) else (if bt502.1.toList = bt504.1.toList then (if bt490.2 = true then (if (bt494.2 != bt490.1) = true then (laws_FnRingsMeetOfAll.j1 k x1 x3 x4 x6 x8 bt494.1 bt494.2 bt502.1 true x487000 x487001 x488000 x488001 x489000 x489001 x490000 x490001) else (laws_FnRingsMeetOfAll.j1 k x1 x3 x4 x6 x8 bt494.1 bt494.2 bt502.1 (bt502.2 != bt494.2) x487000 x487001 x488000 x488001 x489000 x489001 x490000 x490001)) else (if (bt494.2 != false) = true then (laws_FnRingsMeetOfAll.j1 k x1 x3 x4 x6 x8 bt494.1 bt494.2 bt502.1 true x487000 x487001 x488000 x488001 x489000 x489001 x490000 x490001) else (laws_FnRingsMeetOfAll.j1 k x1 x3 x4 x6 x8 bt494.1 bt494.2 bt502.1 (bt502.2 != bt494.2) x487000 x487001 x488000 x488001 x489000 x489001 x490000 x490001))) else (laws_FnRingsMeetOfAll.j1 k x1 x3 x4 x6 x8 bt494.1 bt494.2 bt502.1 true x487000 x487001 x488000 x488001 x489000 x489001 x490000 x490001))) else (laws_FnRingsMeetOfAll.j1 k x1 x3 x4 x6 x8 bt494.1 bt494.2 bt502.1 true x487000 x487001 x488000 x488001 x489000 x489001 x490000 x490001))))))))))))
def laws_FnRingsMeetOfAll.j1 : Nat → ByteArray → ByteArray → Int → ByteArray → Int → List ByteArray → Bool → ByteArray → Bool → Int → Int → Int → Int → Int → Int → Int → Int → Option (Bool)
  | 0, _, _, _, _, _, _, _, _, _, _, _, _, _, _, _, _, _ => none
  | k + 1, x1, x3, x4, x6, x8, x23, x24, x27, x165, x487000, x487001, x488000, x488001, x489000, x489001, x490000, x490001 => if x165 = true then (some false) else (if x24 = true then ((impl_LeastRing.f k x487000 x487001).bind fun bt507 => ((impl_GreatestRing.f k x487000 x487001).bind fun bt509 => ((impl_BackRing.f k x487000 x487001 x27).bind fun bt511 => ((impl_IsRing.f k x487000 x487001 x27).bind fun bt513 => ((impl_CountCodes.f k x487000 x487001).bind fun bt515 => ((impl_CountRings.f k x487000 x487001).bind fun bt517 => (if bt507.2 = true then (if (Op.bytesLess x1.toList bt507.1.toList) = true then (laws_FnRingsMeetOfAll.j2 k x1 x3 x4 x6 x8 x23 true x487000 x487001 x488000 x488001 x489000 x489001 x490000 x490001) else (if bt509.2 = true then (if (Op.bytesLess bt509.1.toList x1.toList) = true then (laws_FnRingsMeetOfAll.j2 k x1 x3 x4 x6 x8 x23 true x487000 x487001 x488000 x488001 x489000 x489001 x490000 x490001) else (if bt511.2 = true then (if bt511.1.toList = x1.toList then (if bt513.2 = true then (if bt513.1 = true then (if bt515.2 = true then (if (x23.length : Int) = bt515.1 then (if (x1.size : Int) = bt515.1 then (if bt517.2 = true then (laws_FnRingsMeetOfAll.j2 k x1 x3 x4 x6 x8 x23 (decide (bt517.1 < 1)) x487000 x487001 x488000 x488001 x489000 x489001 x490000 x490001) else (laws_FnRingsMeetOfAll.j2 k x1 x3 x4 x6 x8 x23 false x487000 x487001 x488000 x488001 x489000 x489001 x490000 x490001)) else (laws_FnRingsMeetOfAll.j2 k x1 x3 x4 x6 x8 x23 true x487000 x487001 x488000 x488001 x489000 x489001 x490000 x490001)) else (laws_FnRingsMeetOfAll.j2 k x1 x3 x4 x6 x8 x23 true x487000 x487001 x488000 x488001 x489000 x489001 x490000 x490001)) else (laws_FnRingsMeetOfAll.j2 k x1 x3 x4 x6 x8 x23 true x487000 x487001 x488000 x488001 x489000 x489001 x490000 x490001)) else (laws_FnRingsMeetOfAll.j2 k x1 x3 x4 x6 x8 x23 true x487000 x487001 x488000 x488001 x489000 x489001 x490000 x490001)) else (laws_FnRingsMeetOfAll.j2 k x1 x3 x4 x6 x8 x23 true x487000 x487001 x488000 x488001 x489000 x489001 x490000 x490001)) else (laws_FnRingsMeetOfAll.j2 k x1 x3 x4 x6 x8 x23 true x487000 x487001 x488000 x488001 x489000 x489001 x490000 x490001)) else (laws_FnRingsMeetOfAll.j2 k x1 x3 x4 x6 x8 x23 true x487000 x487001 x488000 x488001 x489000 x489001 x490000 x490001))) else (laws_FnRingsMeetOfAll.j2 k x1 x3 x4 x6 x8 x23 true x487000 x487001 x488000 x488001 x489000 x489001 x490000 x490001))) else (laws_FnRingsMeetOfAll.j2 k x1 x3 x4 x6 x8 x23 true x487000 x487001 x488000 x488001 x489000 x489001 x490000 x490001)))))))) else (laws_FnRingsMeetOfAll.j6 k x3 x4 x6 x8 x488000 x488001 x489000 x489001 x490000 x490001))
def laws_FnRingsMeetOfAll.j6 : Nat → ByteArray → Int → ByteArray → Int → Int → Int → Int → Int → Int → Int → Option (Bool)
  | 0, _, _, _, _, _, _, _, _, _, _ => none
  | k + 1, x3, x4, x6, x8, x488000, x488001, x489000, x489001, x490000, x490001 => (impl_TurnedRing.f k x488000 x488001 x3 x4).bind fun bt525 => ((spec_TurnedRing.f k x488000 x488001 x3 x4).bind fun bt527 => ((impl_RaisedRing.f k x488000 x488001 x3 x4).bind fun bt529 => ((spec_RaisedRing.f k x488000 x488001 x3 x4).bind fun bt531 => ((impl_PlaceInRing.f k x489000 x489001 x6).bind fun bt533 => ((spec_PlaceInRing.f k x489000 x489001 x6).bind fun bt535 => ((impl_CodeAtPlace.f k x490000 x490001 x8).bind fun bt537 => ((spec_CodeAtPlace.f k x490000 x490001 x8).bind fun bt539 => (if (bt525.2 != bt527.2) = true then (laws_FnRingsMeetOfAll.j7 k x3 x4 x6 x8 bt525.1 bt525.2 bt529.1 bt529.2 bt533.1 bt533.2 bt537.1 bt537.2 true x488000 x488001 x489000 x489001 x490000 x490001) else (if bt525.1.toList = bt527.1.toList then (if (bt529.2 != bt531.2) = true then (laws_FnRingsMeetOfAll.j7 k x3 x4 x6 x8 bt525.1 bt525.2 bt529.1 bt529.2 bt533.1 bt533.2 bt537.1 bt537.2 true x488000 x488001 x489000 x489001 x490000 x490001) else (if bt529.1.toList = bt531.1.toList then (if (bt533.2 != bt535.2) = true then (laws_FnRingsMeetOfAll.j7 k x3 x4 x6 x8 bt525.1 bt525.2 bt529.1 bt529.2 bt533.1 bt533.2 bt537.1 bt537.2 true x488000 x488001 x489000 x489001 x490000 x490001) else (if bt533.1 = bt535.1 then (if (bt537.2 != bt539.2) = true then (laws_FnRingsMeetOfAll.j7 k x3 x4 x6 x8 bt525.1 bt525.2 bt529.1 bt529.2 bt533.1 bt533.2 bt537.1 bt537.2 true x488000 x488001 x489000 x489001 x490000 x490001) else (laws_FnRingsMeetOfAll.j7 k x3 x4 x6 x8 bt525.1 bt525.2 bt529.1 bt529.2 bt533.1 bt533.2 bt537.1 bt537.2 (bt537.1.toList != bt539.1.toList) x488000 x488001 x489000 x489001 x490000 x490001)) else (laws_FnRingsMeetOfAll.j7 k x3 x4 x6 x8 bt525.1 bt525.2 bt529.1 bt529.2 bt533.1 bt533.2 bt537.1 bt537.2 true x488000 x488001 x489000 x489001 x490000 x490001))) else (laws_FnRingsMeetOfAll.j7 k x3 x4 x6 x8 bt525.1 bt525.2 bt529.1 bt529.2 bt533.1 bt533.2 bt537.1 bt537.2 true x488000 x488001 x489000 x489001 x490000 x490001))) else (laws_FnRingsMeetOfAll.j7 k x3 x4 x6 x8 bt525.1 bt525.2 bt529.1 bt529.2 bt533.1 bt533.2 bt537.1 bt537.2 true x488000 x488001 x489000 x489001 x490000 x490001))))))))))
def laws_FnRingsMeetOfAll.j7 : Nat → ByteArray → Int → ByteArray → Int → ByteArray → Bool → ByteArray → Bool → Int → Bool → ByteArray → Bool → Bool → Int → Int → Int → Int → Int → Int → Option (Bool)
  | 0, _, _, _, _, _, _, _, _, _, _, _, _, _, _, _, _, _, _, _ => none
  | k + 1, x3, x4, x6, x8, x47, x48, x51, x52, x55, x56, x59, x60, x380, x488000, x488001, x489000, x489001, x490000, x490001 => if x380 = true then (some false) else (if x48 = true then ((impl_IsRing.f k x488000 x488001 x47).bind fun bt541 => (if (x3.size : Int) = 0 then (none) else ((impl_TurnedRing.f k x488000 x488001 x47 (Int.tmod (wrap64 ((x3.size : Int) - x4)) (x3.size : Int))).bind fun bt543 => (if bt541.2 = true then (if bt541.1 = true then (if bt543.2 = true then (if bt543.1.toList = x3.toList then (laws_FnRingsMeetOfAll.j8 k x3 x4 x6 x8 x51 x52 x55 x56 x59 x60 x488000 x488001 x489000 x489001 x490000 x490001) else (some false)) else (some false)) else (some false)) else (some false))))) else (laws_FnRingsMeetOfAll.j8 k x3 x4 x6 x8 x51 x52 x55 x56 x59 x60 x488000 x488001 x489000 x489001 x490000 x490001))
def laws_FnRingsMeetOfAll.j8 : Nat → ByteArray → Int → ByteArray → Int → ByteArray → Bool → Int → Bool → ByteArray → Bool → Int → Int → Int → Int → Int → Int → Option (Bool)
  | 0, _, _, _, _, _, _, _, _, _, _, _, _, _, _, _, _ => none
  | k + 1, x3, x4, x6, x8, x51, x52, x55, x56, x59, x60, x488000, x488001, x489000, x489001, x490000, x490001 => if x52 = true then ((impl_IsRing.f k x488000 x488001 x51).bind fun bt545 => (if x488001 = 0 then (none) else ((impl_RaisedRing.f k x488000 x488001 x51 (Int.tmod (wrap64 (x488001 - x4)) x488001)).bind fun bt547 => (if bt545.2 = true then (if bt545.1 = true then (if bt547.2 = true then (if bt547.1.toList = x3.toList then (laws_FnRingsMeetOfAll.j9 k x6 x8 x55 x56 x59 x60 x489000 x489001 x490000 x490001) else (some false)) else (some false)) else (some false)) else (some false))))) else (laws_FnRingsMeetOfAll.j9 k x6 x8 x55 x56 x59 x60 x489000 x489001 x490000 x490001)
def laws_FnRingsMeetOfAll.j9 : Nat → ByteArray → Int → Int → Bool → ByteArray → Bool → Int → Int → Int → Int → Option (Bool)
  | 0, _, _, _, _, _, _, _, _, _, _ => none
  | k + 1, x6, x8, x55, x56, x59, x60, x489000, x489001, x490000, x490001 => if x56 = true then ((impl_CodeAtPlace.f k x489000 x489001 x55).bind fun bt549 => (if bt549.2 = true then (laws_FnRingsMeetOfAll.j10 k x8 x59 x60 (bt549.1.toList != x6.toList) x490000 x490001) else (laws_FnRingsMeetOfAll.j10 k x8 x59 x60 true x490000 x490001))) else (if x60 = true then ((impl_PlaceInRing.f k x490000 x490001 x59).bind fun bt553 => (if bt553.2 = true then (some (bt553.1 == x8)) else (some false))) else (some true))
def laws_FnRingsMeetOfAll.j10 : Nat → Int → ByteArray → Bool → Bool → Int → Int → Option (Bool)
  | 0, _, _, _, _, _, _ => none
  | k + 1, x8, x59, x60, x464, x490000, x490001 => if x464 = true then (some false) else (if x60 = true then ((impl_PlaceInRing.f k x490000 x490001 x59).bind fun bt551 => (if bt551.2 = true then (some (bt551.1 == x8)) else (some false))) else (some true))
def laws_FnRingsMeetOfAll.j2 : Nat → ByteArray → ByteArray → Int → ByteArray → Int → List ByteArray → Bool → Int → Int → Int → Int → Int → Int → Int → Int → Option (Bool)
  | 0, _, _, _, _, _, _, _, _, _, _, _, _, _, _, _ => none
  | k + 1, x1, x3, x4, x6, x8, x23, x254, x487000, x487001, x488000, x488001, x489000, x489001, x490000, x490001 => if x254 = true then (some false) else (laws_FnRingsMeetOfAll.l0 k x1 x3 x4 x6 x8 x23 x23 (x23.length : Int) 0 x487000 x487001 x488000 x488001 x489000 x489001 x490000 x490001)
def laws_FnRingsMeetOfAll.l0 : Nat → ByteArray → ByteArray → Int → ByteArray → Int → List ByteArray → List ByteArray → Int → Int → Int → Int → Int → Int → Int → Int → Int → Int → Option (Bool)
  | 0, _, _, _, _, _, _, _, _, _, _, _, _, _, _, _, _, _ => none
  | k + 1, x1, x3, x4, x6, x8, x23, x255, x256, x257, x487000, x487001, x488000, x488001, x489000, x489001, x490000, x490001 => if x257 < x256 then (if 0 ≤ x257 then (if x257 < (x255.length : Int) then (if ((rdOf ByteArray.empty x255 x257).size : Int) = x487000 then (if 0 < ((rdOf ByteArray.empty x255 x257).size : Int) then (if x257 < (x1.size : Int) then (laws_FnRingsMeetOfAll.j4 k x1 x3 x4 x6 x8 x23 x257 (rdOf ByteArray.empty x255 x257) x255 x256 x257 ((bt (rdOf ByteArray.empty x255 x257) 0) != (bt x1 x257)) x487000 x487001 x488000 x488001 x489000 x489001 x490000 x490001) else (none)) else (none)) else (laws_FnRingsMeetOfAll.j4 k x1 x3 x4 x6 x8 x23 x257 (rdOf ByteArray.empty x255 x257) x255 x256 x257 true x487000 x487001 x488000 x488001 x489000 x489001 x490000 x490001)) else (none)) else (none)) else (laws_FnRingsMeetOfAll.j6 k x3 x4 x6 x8 x488000 x488001 x489000 x489001 x490000 x490001)
def laws_FnRingsMeetOfAll.j4 : Nat → ByteArray → ByteArray → Int → ByteArray → Int → List ByteArray → Int → ByteArray → List ByteArray → Int → Int → Bool → Int → Int → Int → Int → Int → Int → Int → Int → Option (Bool)
  | 0, _, _, _, _, _, _, _, _, _, _, _, _, _, _, _, _, _, _, _, _ => none
  | k + 1, x1, x3, x4, x6, x8, x23, x43, x44, x255, x256, x257, x274, x487000, x487001, x488000, x488001, x489000, x489001, x490000, x490001 => if x274 = true then (some false) else (if x43 < 8 then (if 0 ≤ (wrap64 (x43 + 1)) then (if (wrap64 (x43 + 1)) ≤ (x23.length : Int) then ((some (x23.drop ((wrap64 (x43 + 1)) : Int).toNat : List ByteArray)).bind fun y520 => (laws_FnRingsMeetOfAll.l1 k x1 x3 x4 x6 x8 x23 x44 x255 x256 x257 y520 (y520.length : Int) 0 x487000 x487001 x488000 x488001 x489000 x489001 x490000 x490001)) else (none)) else (none)) else (laws_FnRingsMeetOfAll.l0 k x1 x3 x4 x6 x8 x23 x255 x256 (wrap64 (x257 + 1)) x487000 x487001 x488000 x488001 x489000 x489001 x490000 x490001))
def laws_FnRingsMeetOfAll.l1 : Nat → ByteArray → ByteArray → Int → ByteArray → Int → List ByteArray → ByteArray → List ByteArray → Int → Int → List ByteArray → Int → Int → Int → Int → Int → Int → Int → Int → Int → Int → Option (Bool)
  | 0, _, _, _, _, _, _, _, _, _, _, _, _, _, _, _, _, _, _, _, _, _ => none
  | k + 1, x1, x3, x4, x6, x8, x23, x44, x255, x256, x257, x280, x281, x282, x487000, x487001, x488000, x488001, x489000, x489001, x490000, x490001 => if x282 < x281 then (if 0 ≤ x282 then (if x282 < (x280.length : Int) then (if (rdOf ByteArray.empty x280 x282).toList = x44.toList then (some false) else (laws_FnRingsMeetOfAll.l1 k x1 x3 x4 x6 x8 x23 x44 x255 x256 x257 x280 x281 (wrap64 (x282 + 1)) x487000 x487001 x488000 x488001 x489000 x489001 x490000 x490001)) else (none)) else (none)) else (laws_FnRingsMeetOfAll.l0 k x1 x3 x4 x6 x8 x23 x255 x256 (wrap64 (x257 + 1)) x487000 x487001 x488000 x488001 x489000 x489001 x490000 x490001)
end
def laws_FnRingsMeetOfAll.f (k : Nat) (a0_0 : Int) (a0_1 : Int) (a1 : ByteArray) (a2_0 : Int) (a2_1 : Int) (a3 : ByteArray) (a4 : Int) (a5_0 : Int) (a5_1 : Int) (a6 : ByteArray) (a7_0 : Int) (a7_1 : Int) (a8 : Int) : Option (Bool) := if (a1.size : Int) > 1048576 then (laws_FnRingsMeetOfAll.j0 k a1 a3 a4 a6 a8 true a0_0 a0_1 a2_0 a2_1 a5_0 a5_1 a7_0 a7_1) else (if (a3.size : Int) > 1048576 then (laws_FnRingsMeetOfAll.j0 k a1 a3 a4 a6 a8 true a0_0 a0_1 a2_0 a2_1 a5_0 a5_1 a7_0 a7_1) else (laws_FnRingsMeetOfAll.j0 k a1 a3 a4 a6 a8 (decide ((a6.size : Int) > 1048576)) a0_0 a0_1 a2_0 a2_1 a5_0 a5_1 a7_0 a7_1))
theorem laws_FnRingsMeetOfAll.mono_l : ∀ k, (∀ y0 y1 y2 y3 y4 y5 y6 y7 y8 y9 y10 y11 y12 y13, LeO (laws_FnRingsMeetOfAll.j0 k y0 y1 y2 y3 y4 y5 y6 y7 y8 y9 y10 y11 y12 y13) (laws_FnRingsMeetOfAll.j0 (k + 1) y0 y1 y2 y3 y4 y5 y6 y7 y8 y9 y10 y11 y12 y13)) ∧ (∀ y0 y1 y2 y3 y4 y5 y6 y7 y8 y9 y10 y11 y12 y13 y14 y15 y16, LeO (laws_FnRingsMeetOfAll.j1 k y0 y1 y2 y3 y4 y5 y6 y7 y8 y9 y10 y11 y12 y13 y14 y15 y16) (laws_FnRingsMeetOfAll.j1 (k + 1) y0 y1 y2 y3 y4 y5 y6 y7 y8 y9 y10 y11 y12 y13 y14 y15 y16)) ∧ (∀ y0 y1 y2 y3 y4 y5 y6 y7 y8 y9, LeO (laws_FnRingsMeetOfAll.j6 k y0 y1 y2 y3 y4 y5 y6 y7 y8 y9) (laws_FnRingsMeetOfAll.j6 (k + 1) y0 y1 y2 y3 y4 y5 y6 y7 y8 y9)) ∧ (∀ y0 y1 y2 y3 y4 y5 y6 y7 y8 y9 y10 y11 y12 y13 y14 y15 y16 y17 y18, LeO (laws_FnRingsMeetOfAll.j7 k y0 y1 y2 y3 y4 y5 y6 y7 y8 y9 y10 y11 y12 y13 y14 y15 y16 y17 y18) (laws_FnRingsMeetOfAll.j7 (k + 1) y0 y1 y2 y3 y4 y5 y6 y7 y8 y9 y10 y11 y12 y13 y14 y15 y16 y17 y18)) ∧ (∀ y0 y1 y2 y3 y4 y5 y6 y7 y8 y9 y10 y11 y12 y13 y14 y15, LeO (laws_FnRingsMeetOfAll.j8 k y0 y1 y2 y3 y4 y5 y6 y7 y8 y9 y10 y11 y12 y13 y14 y15) (laws_FnRingsMeetOfAll.j8 (k + 1) y0 y1 y2 y3 y4 y5 y6 y7 y8 y9 y10 y11 y12 y13 y14 y15)) ∧ (∀ y0 y1 y2 y3 y4 y5 y6 y7 y8 y9, LeO (laws_FnRingsMeetOfAll.j9 k y0 y1 y2 y3 y4 y5 y6 y7 y8 y9) (laws_FnRingsMeetOfAll.j9 (k + 1) y0 y1 y2 y3 y4 y5 y6 y7 y8 y9)) ∧ (∀ y0 y1 y2 y3 y4 y5, LeO (laws_FnRingsMeetOfAll.j10 k y0 y1 y2 y3 y4 y5) (laws_FnRingsMeetOfAll.j10 (k + 1) y0 y1 y2 y3 y4 y5)) ∧ (∀ y0 y1 y2 y3 y4 y5 y6 y7 y8 y9 y10 y11 y12 y13 y14, LeO (laws_FnRingsMeetOfAll.j2 k y0 y1 y2 y3 y4 y5 y6 y7 y8 y9 y10 y11 y12 y13 y14) (laws_FnRingsMeetOfAll.j2 (k + 1) y0 y1 y2 y3 y4 y5 y6 y7 y8 y9 y10 y11 y12 y13 y14)) ∧ (∀ y0 y1 y2 y3 y4 y5 y6 y7 y8 y9 y10 y11 y12 y13 y14 y15 y16, LeO (laws_FnRingsMeetOfAll.l0 k y0 y1 y2 y3 y4 y5 y6 y7 y8 y9 y10 y11 y12 y13 y14 y15 y16) (laws_FnRingsMeetOfAll.l0 (k + 1) y0 y1 y2 y3 y4 y5 y6 y7 y8 y9 y10 y11 y12 y13 y14 y15 y16)) ∧ (∀ y0 y1 y2 y3 y4 y5 y6 y7 y8 y9 y10 y11 y12 y13 y14 y15 y16 y17 y18 y19, LeO (laws_FnRingsMeetOfAll.j4 k y0 y1 y2 y3 y4 y5 y6 y7 y8 y9 y10 y11 y12 y13 y14 y15 y16 y17 y18 y19) (laws_FnRingsMeetOfAll.j4 (k + 1) y0 y1 y2 y3 y4 y5 y6 y7 y8 y9 y10 y11 y12 y13 y14 y15 y16 y17 y18 y19)) ∧ (∀ y0 y1 y2 y3 y4 y5 y6 y7 y8 y9 y10 y11 y12 y13 y14 y15 y16 y17 y18 y19 y20, LeO (laws_FnRingsMeetOfAll.l1 k y0 y1 y2 y3 y4 y5 y6 y7 y8 y9 y10 y11 y12 y13 y14 y15 y16 y17 y18 y19 y20) (laws_FnRingsMeetOfAll.l1 (k + 1) y0 y1 y2 y3 y4 y5 y6 y7 y8 y9 y10 y11 y12 y13 y14 y15 y16 y17 y18 y19 y20))
  | 0 => ⟨fun _ _ _ _ _ _ _ _ _ _ _ _ _ _ r h => by simp [laws_FnRingsMeetOfAll.j0] at h, fun _ _ _ _ _ _ _ _ _ _ _ _ _ _ _ _ _ r h => by simp [laws_FnRingsMeetOfAll.j1] at h, fun _ _ _ _ _ _ _ _ _ _ r h => by simp [laws_FnRingsMeetOfAll.j6] at h, fun _ _ _ _ _ _ _ _ _ _ _ _ _ _ _ _ _ _ _ r h => by simp [laws_FnRingsMeetOfAll.j7] at h, fun _ _ _ _ _ _ _ _ _ _ _ _ _ _ _ _ r h => by simp [laws_FnRingsMeetOfAll.j8] at h, fun _ _ _ _ _ _ _ _ _ _ r h => by simp [laws_FnRingsMeetOfAll.j9] at h, fun _ _ _ _ _ _ r h => by simp [laws_FnRingsMeetOfAll.j10] at h, fun _ _ _ _ _ _ _ _ _ _ _ _ _ _ _ r h => by simp [laws_FnRingsMeetOfAll.j2] at h, fun _ _ _ _ _ _ _ _ _ _ _ _ _ _ _ _ _ r h => by simp [laws_FnRingsMeetOfAll.l0] at h, fun _ _ _ _ _ _ _ _ _ _ _ _ _ _ _ _ _ _ _ _ r h => by simp [laws_FnRingsMeetOfAll.j4] at h, fun _ _ _ _ _ _ _ _ _ _ _ _ _ _ _ _ _ _ _ _ _ r h => by simp [laws_FnRingsMeetOfAll.l1] at h⟩
  | k + 1 => by
    obtain ⟨ih0, ih1, ih2, ih3, ih4, ih5, ih6, ih7, ih8, ih9, ih10⟩ := laws_FnRingsMeetOfAll.mono_l k
    refine ⟨?_, ?_, ?_, ?_, ?_, ?_, ?_, ?_, ?_, ?_, ?_⟩
    · intro y0 y1 y2 y3 y4 y5 y6 y7 y8 y9 y10 y11 y12 y13
      unfold laws_FnRingsMeetOfAll.j0
      repeat' first
      | (with_reducible exact ih0 _ _ _ _ _ _ _ _ _ _ _ _ _ _)
      | (with_reducible exact ih1 _ _ _ _ _ _ _ _ _ _ _ _ _ _ _ _ _)
      | (with_reducible exact ih2 _ _ _ _ _ _ _ _ _ _)
      | (with_reducible exact ih3 _ _ _ _ _ _ _ _ _ _ _ _ _ _ _ _ _ _ _)
      | (with_reducible exact ih4 _ _ _ _ _ _ _ _ _ _ _ _ _ _ _ _)
      | (with_reducible exact ih5 _ _ _ _ _ _ _ _ _ _)
      | (with_reducible exact ih6 _ _ _ _ _ _)
      | (with_reducible exact ih7 _ _ _ _ _ _ _ _ _ _ _ _ _ _ _)
      | (with_reducible exact ih8 _ _ _ _ _ _ _ _ _ _ _ _ _ _ _ _ _)
      | (with_reducible exact ih9 _ _ _ _ _ _ _ _ _ _ _ _ _ _ _ _ _ _ _ _)
      | (with_reducible exact ih10 _ _ _ _ _ _ _ _ _ _ _ _ _ _ _ _ _ _ _ _ _)
      | (with_reducible exact impl_BackRing.mono _ _ _ _)
      | (with_reducible exact impl_CodeAtPlace.mono _ _ _ _)
      | (with_reducible exact impl_CodesOfRing.mono _ _ _ _)
      | (with_reducible exact impl_CountCodes.mono _ _ _)
      | (with_reducible exact impl_CountRings.mono _ _ _)
      | (with_reducible exact impl_GreatestRing.mono _ _ _)
      | (with_reducible exact impl_IsRing.mono _ _ _ _)
      | (with_reducible exact impl_LeastRing.mono _ _ _)
      | (with_reducible exact impl_PlaceInRing.mono _ _ _ _)
      | (with_reducible exact impl_RaisedRing.mono _ _ _ _ _)
      | (with_reducible exact impl_TurnedRing.mono _ _ _ _ _)
      | (with_reducible exact laws_eTexts.mono _ _ _)
      | (with_reducible exact spec_BackRing.mono _ _ _ _)
      | (with_reducible exact spec_CodeAtPlace.mono _ _ _ _)
      | (with_reducible exact spec_CodesOfRing.mono _ _ _ _)
      | (with_reducible exact spec_IsRing.mono _ _ _ _)
      | (with_reducible exact spec_PlaceInRing.mono _ _ _ _)
      | (with_reducible exact spec_RaisedRing.mono _ _ _ _ _)
      | (with_reducible exact spec_TurnedRing.mono _ _ _ _ _)
      | (with_reducible exact LeO.refl _)
      | (with_reducible exact LeO.none _)
      | (with_reducible refine LeO.ite ?_ ?_)
      | (with_reducible refine LeO.bind ?_ (fun _ => ?_))
      | exact ih0 _ _ _ _ _ _ _ _ _ _ _ _ _ _
      | exact ih1 _ _ _ _ _ _ _ _ _ _ _ _ _ _ _ _ _
      | exact ih2 _ _ _ _ _ _ _ _ _ _
      | exact ih3 _ _ _ _ _ _ _ _ _ _ _ _ _ _ _ _ _ _ _
      | exact ih4 _ _ _ _ _ _ _ _ _ _ _ _ _ _ _ _
      | exact ih5 _ _ _ _ _ _ _ _ _ _
      | exact ih6 _ _ _ _ _ _
      | exact ih7 _ _ _ _ _ _ _ _ _ _ _ _ _ _ _
      | exact ih8 _ _ _ _ _ _ _ _ _ _ _ _ _ _ _ _ _
      | exact ih9 _ _ _ _ _ _ _ _ _ _ _ _ _ _ _ _ _ _ _ _
      | exact ih10 _ _ _ _ _ _ _ _ _ _ _ _ _ _ _ _ _ _ _ _ _
      | exact impl_BackRing.mono _ _ _ _
      | exact impl_CodeAtPlace.mono _ _ _ _
      | exact impl_CodesOfRing.mono _ _ _ _
      | exact impl_CountCodes.mono _ _ _
      | exact impl_CountRings.mono _ _ _
      | exact impl_GreatestRing.mono _ _ _
      | exact impl_IsRing.mono _ _ _ _
      | exact impl_LeastRing.mono _ _ _
      | exact impl_PlaceInRing.mono _ _ _ _
      | exact impl_RaisedRing.mono _ _ _ _ _
      | exact impl_TurnedRing.mono _ _ _ _ _
      | exact laws_eTexts.mono _ _ _
      | exact spec_BackRing.mono _ _ _ _
      | exact spec_CodeAtPlace.mono _ _ _ _
      | exact spec_CodesOfRing.mono _ _ _ _
      | exact spec_IsRing.mono _ _ _ _
      | exact spec_PlaceInRing.mono _ _ _ _
      | exact spec_RaisedRing.mono _ _ _ _ _
      | exact spec_TurnedRing.mono _ _ _ _ _
      | exact LeO.none _
      | refine LeO.ite ?_ ?_
      | refine LeO.bind ?_ (fun _ => ?_)
    · intro y0 y1 y2 y3 y4 y5 y6 y7 y8 y9 y10 y11 y12 y13 y14 y15 y16
      unfold laws_FnRingsMeetOfAll.j1
      repeat' first
      | (with_reducible exact ih0 _ _ _ _ _ _ _ _ _ _ _ _ _ _)
      | (with_reducible exact ih1 _ _ _ _ _ _ _ _ _ _ _ _ _ _ _ _ _)
      | (with_reducible exact ih2 _ _ _ _ _ _ _ _ _ _)
      | (with_reducible exact ih3 _ _ _ _ _ _ _ _ _ _ _ _ _ _ _ _ _ _ _)
      | (with_reducible exact ih4 _ _ _ _ _ _ _ _ _ _ _ _ _ _ _ _)
      | (with_reducible exact ih5 _ _ _ _ _ _ _ _ _ _)
      | (with_reducible exact ih6 _ _ _ _ _ _)
      | (with_reducible exact ih7 _ _ _ _ _ _ _ _ _ _ _ _ _ _ _)
      | (with_reducible exact ih8 _ _ _ _ _ _ _ _ _ _ _ _ _ _ _ _ _)
      | (with_reducible exact ih9 _ _ _ _ _ _ _ _ _ _ _ _ _ _ _ _ _ _ _ _)
      | (with_reducible exact ih10 _ _ _ _ _ _ _ _ _ _ _ _ _ _ _ _ _ _ _ _ _)
      | (with_reducible exact impl_BackRing.mono _ _ _ _)
      | (with_reducible exact impl_CodeAtPlace.mono _ _ _ _)
      | (with_reducible exact impl_CodesOfRing.mono _ _ _ _)
      | (with_reducible exact impl_CountCodes.mono _ _ _)
      | (with_reducible exact impl_CountRings.mono _ _ _)
      | (with_reducible exact impl_GreatestRing.mono _ _ _)
      | (with_reducible exact impl_IsRing.mono _ _ _ _)
      | (with_reducible exact impl_LeastRing.mono _ _ _)
      | (with_reducible exact impl_PlaceInRing.mono _ _ _ _)
      | (with_reducible exact impl_RaisedRing.mono _ _ _ _ _)
      | (with_reducible exact impl_TurnedRing.mono _ _ _ _ _)
      | (with_reducible exact laws_eTexts.mono _ _ _)
      | (with_reducible exact spec_BackRing.mono _ _ _ _)
      | (with_reducible exact spec_CodeAtPlace.mono _ _ _ _)
      | (with_reducible exact spec_CodesOfRing.mono _ _ _ _)
      | (with_reducible exact spec_IsRing.mono _ _ _ _)
      | (with_reducible exact spec_PlaceInRing.mono _ _ _ _)
      | (with_reducible exact spec_RaisedRing.mono _ _ _ _ _)
      | (with_reducible exact spec_TurnedRing.mono _ _ _ _ _)
      | (with_reducible exact LeO.refl _)
      | (with_reducible exact LeO.none _)
      | (with_reducible refine LeO.ite ?_ ?_)
      | (with_reducible refine LeO.bind ?_ (fun _ => ?_))
      | exact ih0 _ _ _ _ _ _ _ _ _ _ _ _ _ _
      | exact ih1 _ _ _ _ _ _ _ _ _ _ _ _ _ _ _ _ _
      | exact ih2 _ _ _ _ _ _ _ _ _ _
      | exact ih3 _ _ _ _ _ _ _ _ _ _ _ _ _ _ _ _ _ _ _
      | exact ih4 _ _ _ _ _ _ _ _ _ _ _ _ _ _ _ _
      | exact ih5 _ _ _ _ _ _ _ _ _ _
      | exact ih6 _ _ _ _ _ _
      | exact ih7 _ _ _ _ _ _ _ _ _ _ _ _ _ _ _
      | exact ih8 _ _ _ _ _ _ _ _ _ _ _ _ _ _ _ _ _
      | exact ih9 _ _ _ _ _ _ _ _ _ _ _ _ _ _ _ _ _ _ _ _
      | exact ih10 _ _ _ _ _ _ _ _ _ _ _ _ _ _ _ _ _ _ _ _ _
      | exact impl_BackRing.mono _ _ _ _
      | exact impl_CodeAtPlace.mono _ _ _ _
      | exact impl_CodesOfRing.mono _ _ _ _
      | exact impl_CountCodes.mono _ _ _
      | exact impl_CountRings.mono _ _ _
      | exact impl_GreatestRing.mono _ _ _
      | exact impl_IsRing.mono _ _ _ _
      | exact impl_LeastRing.mono _ _ _
      | exact impl_PlaceInRing.mono _ _ _ _
      | exact impl_RaisedRing.mono _ _ _ _ _
      | exact impl_TurnedRing.mono _ _ _ _ _
      | exact laws_eTexts.mono _ _ _
      | exact spec_BackRing.mono _ _ _ _
      | exact spec_CodeAtPlace.mono _ _ _ _
      | exact spec_CodesOfRing.mono _ _ _ _
      | exact spec_IsRing.mono _ _ _ _
      | exact spec_PlaceInRing.mono _ _ _ _
      | exact spec_RaisedRing.mono _ _ _ _ _
      | exact spec_TurnedRing.mono _ _ _ _ _
      | exact LeO.none _
      | refine LeO.ite ?_ ?_
      | refine LeO.bind ?_ (fun _ => ?_)
    · intro y0 y1 y2 y3 y4 y5 y6 y7 y8 y9
      unfold laws_FnRingsMeetOfAll.j6
      repeat' first
      | (with_reducible exact ih0 _ _ _ _ _ _ _ _ _ _ _ _ _ _)
      | (with_reducible exact ih1 _ _ _ _ _ _ _ _ _ _ _ _ _ _ _ _ _)
      | (with_reducible exact ih2 _ _ _ _ _ _ _ _ _ _)
      | (with_reducible exact ih3 _ _ _ _ _ _ _ _ _ _ _ _ _ _ _ _ _ _ _)
      | (with_reducible exact ih4 _ _ _ _ _ _ _ _ _ _ _ _ _ _ _ _)
      | (with_reducible exact ih5 _ _ _ _ _ _ _ _ _ _)
      | (with_reducible exact ih6 _ _ _ _ _ _)
      | (with_reducible exact ih7 _ _ _ _ _ _ _ _ _ _ _ _ _ _ _)
      | (with_reducible exact ih8 _ _ _ _ _ _ _ _ _ _ _ _ _ _ _ _ _)
      | (with_reducible exact ih9 _ _ _ _ _ _ _ _ _ _ _ _ _ _ _ _ _ _ _ _)
      | (with_reducible exact ih10 _ _ _ _ _ _ _ _ _ _ _ _ _ _ _ _ _ _ _ _ _)
      | (with_reducible exact impl_BackRing.mono _ _ _ _)
      | (with_reducible exact impl_CodeAtPlace.mono _ _ _ _)
      | (with_reducible exact impl_CodesOfRing.mono _ _ _ _)
      | (with_reducible exact impl_CountCodes.mono _ _ _)
      | (with_reducible exact impl_CountRings.mono _ _ _)
      | (with_reducible exact impl_GreatestRing.mono _ _ _)
      | (with_reducible exact impl_IsRing.mono _ _ _ _)
      | (with_reducible exact impl_LeastRing.mono _ _ _)
      | (with_reducible exact impl_PlaceInRing.mono _ _ _ _)
      | (with_reducible exact impl_RaisedRing.mono _ _ _ _ _)
      | (with_reducible exact impl_TurnedRing.mono _ _ _ _ _)
      | (with_reducible exact laws_eTexts.mono _ _ _)
      | (with_reducible exact spec_BackRing.mono _ _ _ _)
      | (with_reducible exact spec_CodeAtPlace.mono _ _ _ _)
      | (with_reducible exact spec_CodesOfRing.mono _ _ _ _)
      | (with_reducible exact spec_IsRing.mono _ _ _ _)
      | (with_reducible exact spec_PlaceInRing.mono _ _ _ _)
      | (with_reducible exact spec_RaisedRing.mono _ _ _ _ _)
      | (with_reducible exact spec_TurnedRing.mono _ _ _ _ _)
      | (with_reducible exact LeO.refl _)
      | (with_reducible exact LeO.none _)
      | (with_reducible refine LeO.ite ?_ ?_)
      | (with_reducible refine LeO.bind ?_ (fun _ => ?_))
      | exact ih0 _ _ _ _ _ _ _ _ _ _ _ _ _ _
      | exact ih1 _ _ _ _ _ _ _ _ _ _ _ _ _ _ _ _ _
      | exact ih2 _ _ _ _ _ _ _ _ _ _
      | exact ih3 _ _ _ _ _ _ _ _ _ _ _ _ _ _ _ _ _ _ _
      | exact ih4 _ _ _ _ _ _ _ _ _ _ _ _ _ _ _ _
      | exact ih5 _ _ _ _ _ _ _ _ _ _
      | exact ih6 _ _ _ _ _ _
      | exact ih7 _ _ _ _ _ _ _ _ _ _ _ _ _ _ _
      | exact ih8 _ _ _ _ _ _ _ _ _ _ _ _ _ _ _ _ _
      | exact ih9 _ _ _ _ _ _ _ _ _ _ _ _ _ _ _ _ _ _ _ _
      | exact ih10 _ _ _ _ _ _ _ _ _ _ _ _ _ _ _ _ _ _ _ _ _
      | exact impl_BackRing.mono _ _ _ _
      | exact impl_CodeAtPlace.mono _ _ _ _
      | exact impl_CodesOfRing.mono _ _ _ _
      | exact impl_CountCodes.mono _ _ _
      | exact impl_CountRings.mono _ _ _
      | exact impl_GreatestRing.mono _ _ _
      | exact impl_IsRing.mono _ _ _ _
      | exact impl_LeastRing.mono _ _ _
      | exact impl_PlaceInRing.mono _ _ _ _
      | exact impl_RaisedRing.mono _ _ _ _ _
      | exact impl_TurnedRing.mono _ _ _ _ _
      | exact laws_eTexts.mono _ _ _
      | exact spec_BackRing.mono _ _ _ _
      | exact spec_CodeAtPlace.mono _ _ _ _
      | exact spec_CodesOfRing.mono _ _ _ _
      | exact spec_IsRing.mono _ _ _ _
      | exact spec_PlaceInRing.mono _ _ _ _
      | exact spec_RaisedRing.mono _ _ _ _ _
      | exact spec_TurnedRing.mono _ _ _ _ _
      | exact LeO.none _
      | refine LeO.ite ?_ ?_
      | refine LeO.bind ?_ (fun _ => ?_)
    · intro y0 y1 y2 y3 y4 y5 y6 y7 y8 y9 y10 y11 y12 y13 y14 y15 y16 y17 y18
      unfold laws_FnRingsMeetOfAll.j7
      repeat' first
      | (with_reducible exact ih0 _ _ _ _ _ _ _ _ _ _ _ _ _ _)
      | (with_reducible exact ih1 _ _ _ _ _ _ _ _ _ _ _ _ _ _ _ _ _)
      | (with_reducible exact ih2 _ _ _ _ _ _ _ _ _ _)
      | (with_reducible exact ih3 _ _ _ _ _ _ _ _ _ _ _ _ _ _ _ _ _ _ _)
      | (with_reducible exact ih4 _ _ _ _ _ _ _ _ _ _ _ _ _ _ _ _)
      | (with_reducible exact ih5 _ _ _ _ _ _ _ _ _ _)
      | (with_reducible exact ih6 _ _ _ _ _ _)
      | (with_reducible exact ih7 _ _ _ _ _ _ _ _ _ _ _ _ _ _ _)
      | (with_reducible exact ih8 _ _ _ _ _ _ _ _ _ _ _ _ _ _ _ _ _)
      | (with_reducible exact ih9 _ _ _ _ _ _ _ _ _ _ _ _ _ _ _ _ _ _ _ _)
      | (with_reducible exact ih10 _ _ _ _ _ _ _ _ _ _ _ _ _ _ _ _ _ _ _ _ _)
      | (with_reducible exact impl_BackRing.mono _ _ _ _)
      | (with_reducible exact impl_CodeAtPlace.mono _ _ _ _)
      | (with_reducible exact impl_CodesOfRing.mono _ _ _ _)
      | (with_reducible exact impl_CountCodes.mono _ _ _)
      | (with_reducible exact impl_CountRings.mono _ _ _)
      | (with_reducible exact impl_GreatestRing.mono _ _ _)
      | (with_reducible exact impl_IsRing.mono _ _ _ _)
      | (with_reducible exact impl_LeastRing.mono _ _ _)
      | (with_reducible exact impl_PlaceInRing.mono _ _ _ _)
      | (with_reducible exact impl_RaisedRing.mono _ _ _ _ _)
      | (with_reducible exact impl_TurnedRing.mono _ _ _ _ _)
      | (with_reducible exact laws_eTexts.mono _ _ _)
      | (with_reducible exact spec_BackRing.mono _ _ _ _)
      | (with_reducible exact spec_CodeAtPlace.mono _ _ _ _)
      | (with_reducible exact spec_CodesOfRing.mono _ _ _ _)
      | (with_reducible exact spec_IsRing.mono _ _ _ _)
      | (with_reducible exact spec_PlaceInRing.mono _ _ _ _)
      | (with_reducible exact spec_RaisedRing.mono _ _ _ _ _)
      | (with_reducible exact spec_TurnedRing.mono _ _ _ _ _)
      | (with_reducible exact LeO.refl _)
      | (with_reducible exact LeO.none _)
      | (with_reducible refine LeO.ite ?_ ?_)
      | (with_reducible refine LeO.bind ?_ (fun _ => ?_))
      | exact ih0 _ _ _ _ _ _ _ _ _ _ _ _ _ _
      | exact ih1 _ _ _ _ _ _ _ _ _ _ _ _ _ _ _ _ _
      | exact ih2 _ _ _ _ _ _ _ _ _ _
      | exact ih3 _ _ _ _ _ _ _ _ _ _ _ _ _ _ _ _ _ _ _
      | exact ih4 _ _ _ _ _ _ _ _ _ _ _ _ _ _ _ _
      | exact ih5 _ _ _ _ _ _ _ _ _ _
      | exact ih6 _ _ _ _ _ _
      | exact ih7 _ _ _ _ _ _ _ _ _ _ _ _ _ _ _
      | exact ih8 _ _ _ _ _ _ _ _ _ _ _ _ _ _ _ _ _
      | exact ih9 _ _ _ _ _ _ _ _ _ _ _ _ _ _ _ _ _ _ _ _
      | exact ih10 _ _ _ _ _ _ _ _ _ _ _ _ _ _ _ _ _ _ _ _ _
      | exact impl_BackRing.mono _ _ _ _
      | exact impl_CodeAtPlace.mono _ _ _ _
      | exact impl_CodesOfRing.mono _ _ _ _
      | exact impl_CountCodes.mono _ _ _
      | exact impl_CountRings.mono _ _ _
      | exact impl_GreatestRing.mono _ _ _
      | exact impl_IsRing.mono _ _ _ _
      | exact impl_LeastRing.mono _ _ _
      | exact impl_PlaceInRing.mono _ _ _ _
      | exact impl_RaisedRing.mono _ _ _ _ _
      | exact impl_TurnedRing.mono _ _ _ _ _
      | exact laws_eTexts.mono _ _ _
      | exact spec_BackRing.mono _ _ _ _
      | exact spec_CodeAtPlace.mono _ _ _ _
      | exact spec_CodesOfRing.mono _ _ _ _
      | exact spec_IsRing.mono _ _ _ _
      | exact spec_PlaceInRing.mono _ _ _ _
      | exact spec_RaisedRing.mono _ _ _ _ _
      | exact spec_TurnedRing.mono _ _ _ _ _
      | exact LeO.none _
      | refine LeO.ite ?_ ?_
      | refine LeO.bind ?_ (fun _ => ?_)
    · intro y0 y1 y2 y3 y4 y5 y6 y7 y8 y9 y10 y11 y12 y13 y14 y15
      unfold laws_FnRingsMeetOfAll.j8
      repeat' first
      | (with_reducible exact ih0 _ _ _ _ _ _ _ _ _ _ _ _ _ _)
      | (with_reducible exact ih1 _ _ _ _ _ _ _ _ _ _ _ _ _ _ _ _ _)
      | (with_reducible exact ih2 _ _ _ _ _ _ _ _ _ _)
      | (with_reducible exact ih3 _ _ _ _ _ _ _ _ _ _ _ _ _ _ _ _ _ _ _)
      | (with_reducible exact ih4 _ _ _ _ _ _ _ _ _ _ _ _ _ _ _ _)
      | (with_reducible exact ih5 _ _ _ _ _ _ _ _ _ _)
      | (with_reducible exact ih6 _ _ _ _ _ _)
      | (with_reducible exact ih7 _ _ _ _ _ _ _ _ _ _ _ _ _ _ _)
      | (with_reducible exact ih8 _ _ _ _ _ _ _ _ _ _ _ _ _ _ _ _ _)
      | (with_reducible exact ih9 _ _ _ _ _ _ _ _ _ _ _ _ _ _ _ _ _ _ _ _)
      | (with_reducible exact ih10 _ _ _ _ _ _ _ _ _ _ _ _ _ _ _ _ _ _ _ _ _)
      | (with_reducible exact impl_BackRing.mono _ _ _ _)
      | (with_reducible exact impl_CodeAtPlace.mono _ _ _ _)
      | (with_reducible exact impl_CodesOfRing.mono _ _ _ _)
      | (with_reducible exact impl_CountCodes.mono _ _ _)
      | (with_reducible exact impl_CountRings.mono _ _ _)
      | (with_reducible exact impl_GreatestRing.mono _ _ _)
      | (with_reducible exact impl_IsRing.mono _ _ _ _)
      | (with_reducible exact impl_LeastRing.mono _ _ _)
      | (with_reducible exact impl_PlaceInRing.mono _ _ _ _)
      | (with_reducible exact impl_RaisedRing.mono _ _ _ _ _)
      | (with_reducible exact impl_TurnedRing.mono _ _ _ _ _)
      | (with_reducible exact laws_eTexts.mono _ _ _)
      | (with_reducible exact spec_BackRing.mono _ _ _ _)
      | (with_reducible exact spec_CodeAtPlace.mono _ _ _ _)
      | (with_reducible exact spec_CodesOfRing.mono _ _ _ _)
      | (with_reducible exact spec_IsRing.mono _ _ _ _)
      | (with_reducible exact spec_PlaceInRing.mono _ _ _ _)
      | (with_reducible exact spec_RaisedRing.mono _ _ _ _ _)
      | (with_reducible exact spec_TurnedRing.mono _ _ _ _ _)
      | (with_reducible exact LeO.refl _)
      | (with_reducible exact LeO.none _)
      | (with_reducible refine LeO.ite ?_ ?_)
      | (with_reducible refine LeO.bind ?_ (fun _ => ?_))
      | exact ih0 _ _ _ _ _ _ _ _ _ _ _ _ _ _
      | exact ih1 _ _ _ _ _ _ _ _ _ _ _ _ _ _ _ _ _
      | exact ih2 _ _ _ _ _ _ _ _ _ _
      | exact ih3 _ _ _ _ _ _ _ _ _ _ _ _ _ _ _ _ _ _ _
      | exact ih4 _ _ _ _ _ _ _ _ _ _ _ _ _ _ _ _
      | exact ih5 _ _ _ _ _ _ _ _ _ _
      | exact ih6 _ _ _ _ _ _
      | exact ih7 _ _ _ _ _ _ _ _ _ _ _ _ _ _ _
      | exact ih8 _ _ _ _ _ _ _ _ _ _ _ _ _ _ _ _ _
      | exact ih9 _ _ _ _ _ _ _ _ _ _ _ _ _ _ _ _ _ _ _ _
      | exact ih10 _ _ _ _ _ _ _ _ _ _ _ _ _ _ _ _ _ _ _ _ _
      | exact impl_BackRing.mono _ _ _ _
      | exact impl_CodeAtPlace.mono _ _ _ _
      | exact impl_CodesOfRing.mono _ _ _ _
      | exact impl_CountCodes.mono _ _ _
      | exact impl_CountRings.mono _ _ _
      | exact impl_GreatestRing.mono _ _ _
      | exact impl_IsRing.mono _ _ _ _
      | exact impl_LeastRing.mono _ _ _
      | exact impl_PlaceInRing.mono _ _ _ _
      | exact impl_RaisedRing.mono _ _ _ _ _
      | exact impl_TurnedRing.mono _ _ _ _ _
      | exact laws_eTexts.mono _ _ _
      | exact spec_BackRing.mono _ _ _ _
      | exact spec_CodeAtPlace.mono _ _ _ _
      | exact spec_CodesOfRing.mono _ _ _ _
      | exact spec_IsRing.mono _ _ _ _
      | exact spec_PlaceInRing.mono _ _ _ _
      | exact spec_RaisedRing.mono _ _ _ _ _
      | exact spec_TurnedRing.mono _ _ _ _ _
      | exact LeO.none _
      | refine LeO.ite ?_ ?_
      | refine LeO.bind ?_ (fun _ => ?_)
    · intro y0 y1 y2 y3 y4 y5 y6 y7 y8 y9
      unfold laws_FnRingsMeetOfAll.j9
      repeat' first
      | (with_reducible exact ih0 _ _ _ _ _ _ _ _ _ _ _ _ _ _)
      | (with_reducible exact ih1 _ _ _ _ _ _ _ _ _ _ _ _ _ _ _ _ _)
      | (with_reducible exact ih2 _ _ _ _ _ _ _ _ _ _)
      | (with_reducible exact ih3 _ _ _ _ _ _ _ _ _ _ _ _ _ _ _ _ _ _ _)
      | (with_reducible exact ih4 _ _ _ _ _ _ _ _ _ _ _ _ _ _ _ _)
      | (with_reducible exact ih5 _ _ _ _ _ _ _ _ _ _)
      | (with_reducible exact ih6 _ _ _ _ _ _)
      | (with_reducible exact ih7 _ _ _ _ _ _ _ _ _ _ _ _ _ _ _)
      | (with_reducible exact ih8 _ _ _ _ _ _ _ _ _ _ _ _ _ _ _ _ _)
      | (with_reducible exact ih9 _ _ _ _ _ _ _ _ _ _ _ _ _ _ _ _ _ _ _ _)
      | (with_reducible exact ih10 _ _ _ _ _ _ _ _ _ _ _ _ _ _ _ _ _ _ _ _ _)
      | (with_reducible exact impl_BackRing.mono _ _ _ _)
      | (with_reducible exact impl_CodeAtPlace.mono _ _ _ _)
      | (with_reducible exact impl_CodesOfRing.mono _ _ _ _)
      | (with_reducible exact impl_CountCodes.mono _ _ _)
      | (with_reducible exact impl_CountRings.mono _ _ _)
      | (with_reducible exact impl_GreatestRing.mono _ _ _)
      | (with_reducible exact impl_IsRing.mono _ _ _ _)
      | (with_reducible exact impl_LeastRing.mono _ _ _)
      | (with_reducible exact impl_PlaceInRing.mono _ _ _ _)
      | (with_reducible exact impl_RaisedRing.mono _ _ _ _ _)
      | (with_reducible exact impl_TurnedRing.mono _ _ _ _ _)
      | (with_reducible exact laws_eTexts.mono _ _ _)
      | (with_reducible exact spec_BackRing.mono _ _ _ _)
      | (with_reducible exact spec_CodeAtPlace.mono _ _ _ _)
      | (with_reducible exact spec_CodesOfRing.mono _ _ _ _)
      | (with_reducible exact spec_IsRing.mono _ _ _ _)
      | (with_reducible exact spec_PlaceInRing.mono _ _ _ _)
      | (with_reducible exact spec_RaisedRing.mono _ _ _ _ _)
      | (with_reducible exact spec_TurnedRing.mono _ _ _ _ _)
      | (with_reducible exact LeO.refl _)
      | (with_reducible exact LeO.none _)
      | (with_reducible refine LeO.ite ?_ ?_)
      | (with_reducible refine LeO.bind ?_ (fun _ => ?_))
      | exact ih0 _ _ _ _ _ _ _ _ _ _ _ _ _ _
      | exact ih1 _ _ _ _ _ _ _ _ _ _ _ _ _ _ _ _ _
      | exact ih2 _ _ _ _ _ _ _ _ _ _
      | exact ih3 _ _ _ _ _ _ _ _ _ _ _ _ _ _ _ _ _ _ _
      | exact ih4 _ _ _ _ _ _ _ _ _ _ _ _ _ _ _ _
      | exact ih5 _ _ _ _ _ _ _ _ _ _
      | exact ih6 _ _ _ _ _ _
      | exact ih7 _ _ _ _ _ _ _ _ _ _ _ _ _ _ _
      | exact ih8 _ _ _ _ _ _ _ _ _ _ _ _ _ _ _ _ _
      | exact ih9 _ _ _ _ _ _ _ _ _ _ _ _ _ _ _ _ _ _ _ _
      | exact ih10 _ _ _ _ _ _ _ _ _ _ _ _ _ _ _ _ _ _ _ _ _
      | exact impl_BackRing.mono _ _ _ _
      | exact impl_CodeAtPlace.mono _ _ _ _
      | exact impl_CodesOfRing.mono _ _ _ _
      | exact impl_CountCodes.mono _ _ _
      | exact impl_CountRings.mono _ _ _
      | exact impl_GreatestRing.mono _ _ _
      | exact impl_IsRing.mono _ _ _ _
      | exact impl_LeastRing.mono _ _ _
      | exact impl_PlaceInRing.mono _ _ _ _
      | exact impl_RaisedRing.mono _ _ _ _ _
      | exact impl_TurnedRing.mono _ _ _ _ _
      | exact laws_eTexts.mono _ _ _
      | exact spec_BackRing.mono _ _ _ _
      | exact spec_CodeAtPlace.mono _ _ _ _
      | exact spec_CodesOfRing.mono _ _ _ _
      | exact spec_IsRing.mono _ _ _ _
      | exact spec_PlaceInRing.mono _ _ _ _
      | exact spec_RaisedRing.mono _ _ _ _ _
      | exact spec_TurnedRing.mono _ _ _ _ _
      | exact LeO.none _
      | refine LeO.ite ?_ ?_
      | refine LeO.bind ?_ (fun _ => ?_)
    · intro y0 y1 y2 y3 y4 y5
      unfold laws_FnRingsMeetOfAll.j10
      repeat' first
      | (with_reducible exact ih0 _ _ _ _ _ _ _ _ _ _ _ _ _ _)
      | (with_reducible exact ih1 _ _ _ _ _ _ _ _ _ _ _ _ _ _ _ _ _)
      | (with_reducible exact ih2 _ _ _ _ _ _ _ _ _ _)
      | (with_reducible exact ih3 _ _ _ _ _ _ _ _ _ _ _ _ _ _ _ _ _ _ _)
      | (with_reducible exact ih4 _ _ _ _ _ _ _ _ _ _ _ _ _ _ _ _)
      | (with_reducible exact ih5 _ _ _ _ _ _ _ _ _ _)
      | (with_reducible exact ih6 _ _ _ _ _ _)
      | (with_reducible exact ih7 _ _ _ _ _ _ _ _ _ _ _ _ _ _ _)
      | (with_reducible exact ih8 _ _ _ _ _ _ _ _ _ _ _ _ _ _ _ _ _)
      | (with_reducible exact ih9 _ _ _ _ _ _ _ _ _ _ _ _ _ _ _ _ _ _ _ _)
      | (with_reducible exact ih10 _ _ _ _ _ _ _ _ _ _ _ _ _ _ _ _ _ _ _ _ _)
      | (with_reducible exact impl_BackRing.mono _ _ _ _)
      | (with_reducible exact impl_CodeAtPlace.mono _ _ _ _)
      | (with_reducible exact impl_CodesOfRing.mono _ _ _ _)
      | (with_reducible exact impl_CountCodes.mono _ _ _)
      | (with_reducible exact impl_CountRings.mono _ _ _)
      | (with_reducible exact impl_GreatestRing.mono _ _ _)
      | (with_reducible exact impl_IsRing.mono _ _ _ _)
      | (with_reducible exact impl_LeastRing.mono _ _ _)
      | (with_reducible exact impl_PlaceInRing.mono _ _ _ _)
      | (with_reducible exact impl_RaisedRing.mono _ _ _ _ _)
      | (with_reducible exact impl_TurnedRing.mono _ _ _ _ _)
      | (with_reducible exact laws_eTexts.mono _ _ _)
      | (with_reducible exact spec_BackRing.mono _ _ _ _)
      | (with_reducible exact spec_CodeAtPlace.mono _ _ _ _)
      | (with_reducible exact spec_CodesOfRing.mono _ _ _ _)
      | (with_reducible exact spec_IsRing.mono _ _ _ _)
      | (with_reducible exact spec_PlaceInRing.mono _ _ _ _)
      | (with_reducible exact spec_RaisedRing.mono _ _ _ _ _)
      | (with_reducible exact spec_TurnedRing.mono _ _ _ _ _)
      | (with_reducible exact LeO.refl _)
      | (with_reducible exact LeO.none _)
      | (with_reducible refine LeO.ite ?_ ?_)
      | (with_reducible refine LeO.bind ?_ (fun _ => ?_))
      | exact ih0 _ _ _ _ _ _ _ _ _ _ _ _ _ _
      | exact ih1 _ _ _ _ _ _ _ _ _ _ _ _ _ _ _ _ _
      | exact ih2 _ _ _ _ _ _ _ _ _ _
      | exact ih3 _ _ _ _ _ _ _ _ _ _ _ _ _ _ _ _ _ _ _
      | exact ih4 _ _ _ _ _ _ _ _ _ _ _ _ _ _ _ _
      | exact ih5 _ _ _ _ _ _ _ _ _ _
      | exact ih6 _ _ _ _ _ _
      | exact ih7 _ _ _ _ _ _ _ _ _ _ _ _ _ _ _
      | exact ih8 _ _ _ _ _ _ _ _ _ _ _ _ _ _ _ _ _
      | exact ih9 _ _ _ _ _ _ _ _ _ _ _ _ _ _ _ _ _ _ _ _
      | exact ih10 _ _ _ _ _ _ _ _ _ _ _ _ _ _ _ _ _ _ _ _ _
      | exact impl_BackRing.mono _ _ _ _
      | exact impl_CodeAtPlace.mono _ _ _ _
      | exact impl_CodesOfRing.mono _ _ _ _
      | exact impl_CountCodes.mono _ _ _
      | exact impl_CountRings.mono _ _ _
      | exact impl_GreatestRing.mono _ _ _
      | exact impl_IsRing.mono _ _ _ _
      | exact impl_LeastRing.mono _ _ _
      | exact impl_PlaceInRing.mono _ _ _ _
      | exact impl_RaisedRing.mono _ _ _ _ _
      | exact impl_TurnedRing.mono _ _ _ _ _
      | exact laws_eTexts.mono _ _ _
      | exact spec_BackRing.mono _ _ _ _
      | exact spec_CodeAtPlace.mono _ _ _ _
      | exact spec_CodesOfRing.mono _ _ _ _
      | exact spec_IsRing.mono _ _ _ _
      | exact spec_PlaceInRing.mono _ _ _ _
      | exact spec_RaisedRing.mono _ _ _ _ _
      | exact spec_TurnedRing.mono _ _ _ _ _
      | exact LeO.none _
      | refine LeO.ite ?_ ?_
      | refine LeO.bind ?_ (fun _ => ?_)
    · intro y0 y1 y2 y3 y4 y5 y6 y7 y8 y9 y10 y11 y12 y13 y14
      unfold laws_FnRingsMeetOfAll.j2
      repeat' first
      | (with_reducible exact ih0 _ _ _ _ _ _ _ _ _ _ _ _ _ _)
      | (with_reducible exact ih1 _ _ _ _ _ _ _ _ _ _ _ _ _ _ _ _ _)
      | (with_reducible exact ih2 _ _ _ _ _ _ _ _ _ _)
      | (with_reducible exact ih3 _ _ _ _ _ _ _ _ _ _ _ _ _ _ _ _ _ _ _)
      | (with_reducible exact ih4 _ _ _ _ _ _ _ _ _ _ _ _ _ _ _ _)
      | (with_reducible exact ih5 _ _ _ _ _ _ _ _ _ _)
      | (with_reducible exact ih6 _ _ _ _ _ _)
      | (with_reducible exact ih7 _ _ _ _ _ _ _ _ _ _ _ _ _ _ _)
      | (with_reducible exact ih8 _ _ _ _ _ _ _ _ _ _ _ _ _ _ _ _ _)
      | (with_reducible exact ih9 _ _ _ _ _ _ _ _ _ _ _ _ _ _ _ _ _ _ _ _)
      | (with_reducible exact ih10 _ _ _ _ _ _ _ _ _ _ _ _ _ _ _ _ _ _ _ _ _)
      | (with_reducible exact impl_BackRing.mono _ _ _ _)
      | (with_reducible exact impl_CodeAtPlace.mono _ _ _ _)
      | (with_reducible exact impl_CodesOfRing.mono _ _ _ _)
      | (with_reducible exact impl_CountCodes.mono _ _ _)
      | (with_reducible exact impl_CountRings.mono _ _ _)
      | (with_reducible exact impl_GreatestRing.mono _ _ _)
      | (with_reducible exact impl_IsRing.mono _ _ _ _)
      | (with_reducible exact impl_LeastRing.mono _ _ _)
      | (with_reducible exact impl_PlaceInRing.mono _ _ _ _)
      | (with_reducible exact impl_RaisedRing.mono _ _ _ _ _)
      | (with_reducible exact impl_TurnedRing.mono _ _ _ _ _)
      | (with_reducible exact laws_eTexts.mono _ _ _)
      | (with_reducible exact spec_BackRing.mono _ _ _ _)
      | (with_reducible exact spec_CodeAtPlace.mono _ _ _ _)
      | (with_reducible exact spec_CodesOfRing.mono _ _ _ _)
      | (with_reducible exact spec_IsRing.mono _ _ _ _)
      | (with_reducible exact spec_PlaceInRing.mono _ _ _ _)
      | (with_reducible exact spec_RaisedRing.mono _ _ _ _ _)
      | (with_reducible exact spec_TurnedRing.mono _ _ _ _ _)
      | (with_reducible exact LeO.refl _)
      | (with_reducible exact LeO.none _)
      | (with_reducible refine LeO.ite ?_ ?_)
      | (with_reducible refine LeO.bind ?_ (fun _ => ?_))
      | exact ih0 _ _ _ _ _ _ _ _ _ _ _ _ _ _
      | exact ih1 _ _ _ _ _ _ _ _ _ _ _ _ _ _ _ _ _
      | exact ih2 _ _ _ _ _ _ _ _ _ _
      | exact ih3 _ _ _ _ _ _ _ _ _ _ _ _ _ _ _ _ _ _ _
      | exact ih4 _ _ _ _ _ _ _ _ _ _ _ _ _ _ _ _
      | exact ih5 _ _ _ _ _ _ _ _ _ _
      | exact ih6 _ _ _ _ _ _
      | exact ih7 _ _ _ _ _ _ _ _ _ _ _ _ _ _ _
      | exact ih8 _ _ _ _ _ _ _ _ _ _ _ _ _ _ _ _ _
      | exact ih9 _ _ _ _ _ _ _ _ _ _ _ _ _ _ _ _ _ _ _ _
      | exact ih10 _ _ _ _ _ _ _ _ _ _ _ _ _ _ _ _ _ _ _ _ _
      | exact impl_BackRing.mono _ _ _ _
      | exact impl_CodeAtPlace.mono _ _ _ _
      | exact impl_CodesOfRing.mono _ _ _ _
      | exact impl_CountCodes.mono _ _ _
      | exact impl_CountRings.mono _ _ _
      | exact impl_GreatestRing.mono _ _ _
      | exact impl_IsRing.mono _ _ _ _
      | exact impl_LeastRing.mono _ _ _
      | exact impl_PlaceInRing.mono _ _ _ _
      | exact impl_RaisedRing.mono _ _ _ _ _
      | exact impl_TurnedRing.mono _ _ _ _ _
      | exact laws_eTexts.mono _ _ _
      | exact spec_BackRing.mono _ _ _ _
      | exact spec_CodeAtPlace.mono _ _ _ _
      | exact spec_CodesOfRing.mono _ _ _ _
      | exact spec_IsRing.mono _ _ _ _
      | exact spec_PlaceInRing.mono _ _ _ _
      | exact spec_RaisedRing.mono _ _ _ _ _
      | exact spec_TurnedRing.mono _ _ _ _ _
      | exact LeO.none _
      | refine LeO.ite ?_ ?_
      | refine LeO.bind ?_ (fun _ => ?_)
    · intro y0 y1 y2 y3 y4 y5 y6 y7 y8 y9 y10 y11 y12 y13 y14 y15 y16
      unfold laws_FnRingsMeetOfAll.l0
      repeat' first
      | (with_reducible exact ih0 _ _ _ _ _ _ _ _ _ _ _ _ _ _)
      | (with_reducible exact ih1 _ _ _ _ _ _ _ _ _ _ _ _ _ _ _ _ _)
      | (with_reducible exact ih2 _ _ _ _ _ _ _ _ _ _)
      | (with_reducible exact ih3 _ _ _ _ _ _ _ _ _ _ _ _ _ _ _ _ _ _ _)
      | (with_reducible exact ih4 _ _ _ _ _ _ _ _ _ _ _ _ _ _ _ _)
      | (with_reducible exact ih5 _ _ _ _ _ _ _ _ _ _)
      | (with_reducible exact ih6 _ _ _ _ _ _)
      | (with_reducible exact ih7 _ _ _ _ _ _ _ _ _ _ _ _ _ _ _)
      | (with_reducible exact ih8 _ _ _ _ _ _ _ _ _ _ _ _ _ _ _ _ _)
      | (with_reducible exact ih9 _ _ _ _ _ _ _ _ _ _ _ _ _ _ _ _ _ _ _ _)
      | (with_reducible exact ih10 _ _ _ _ _ _ _ _ _ _ _ _ _ _ _ _ _ _ _ _ _)
      | (with_reducible exact impl_BackRing.mono _ _ _ _)
      | (with_reducible exact impl_CodeAtPlace.mono _ _ _ _)
      | (with_reducible exact impl_CodesOfRing.mono _ _ _ _)
      | (with_reducible exact impl_CountCodes.mono _ _ _)
      | (with_reducible exact impl_CountRings.mono _ _ _)
      | (with_reducible exact impl_GreatestRing.mono _ _ _)
      | (with_reducible exact impl_IsRing.mono _ _ _ _)
      | (with_reducible exact impl_LeastRing.mono _ _ _)
      | (with_reducible exact impl_PlaceInRing.mono _ _ _ _)
      | (with_reducible exact impl_RaisedRing.mono _ _ _ _ _)
      | (with_reducible exact impl_TurnedRing.mono _ _ _ _ _)
      | (with_reducible exact laws_eTexts.mono _ _ _)
      | (with_reducible exact spec_BackRing.mono _ _ _ _)
      | (with_reducible exact spec_CodeAtPlace.mono _ _ _ _)
      | (with_reducible exact spec_CodesOfRing.mono _ _ _ _)
      | (with_reducible exact spec_IsRing.mono _ _ _ _)
      | (with_reducible exact spec_PlaceInRing.mono _ _ _ _)
      | (with_reducible exact spec_RaisedRing.mono _ _ _ _ _)
      | (with_reducible exact spec_TurnedRing.mono _ _ _ _ _)
      | (with_reducible exact LeO.refl _)
      | (with_reducible exact LeO.none _)
      | (with_reducible refine LeO.ite ?_ ?_)
      | (with_reducible refine LeO.bind ?_ (fun _ => ?_))
      | exact ih0 _ _ _ _ _ _ _ _ _ _ _ _ _ _
      | exact ih1 _ _ _ _ _ _ _ _ _ _ _ _ _ _ _ _ _
      | exact ih2 _ _ _ _ _ _ _ _ _ _
      | exact ih3 _ _ _ _ _ _ _ _ _ _ _ _ _ _ _ _ _ _ _
      | exact ih4 _ _ _ _ _ _ _ _ _ _ _ _ _ _ _ _
      | exact ih5 _ _ _ _ _ _ _ _ _ _
      | exact ih6 _ _ _ _ _ _
      | exact ih7 _ _ _ _ _ _ _ _ _ _ _ _ _ _ _
      | exact ih8 _ _ _ _ _ _ _ _ _ _ _ _ _ _ _ _ _
      | exact ih9 _ _ _ _ _ _ _ _ _ _ _ _ _ _ _ _ _ _ _ _
      | exact ih10 _ _ _ _ _ _ _ _ _ _ _ _ _ _ _ _ _ _ _ _ _
      | exact impl_BackRing.mono _ _ _ _
      | exact impl_CodeAtPlace.mono _ _ _ _
      | exact impl_CodesOfRing.mono _ _ _ _
      | exact impl_CountCodes.mono _ _ _
      | exact impl_CountRings.mono _ _ _
      | exact impl_GreatestRing.mono _ _ _
      | exact impl_IsRing.mono _ _ _ _
      | exact impl_LeastRing.mono _ _ _
      | exact impl_PlaceInRing.mono _ _ _ _
      | exact impl_RaisedRing.mono _ _ _ _ _
      | exact impl_TurnedRing.mono _ _ _ _ _
      | exact laws_eTexts.mono _ _ _
      | exact spec_BackRing.mono _ _ _ _
      | exact spec_CodeAtPlace.mono _ _ _ _
      | exact spec_CodesOfRing.mono _ _ _ _
      | exact spec_IsRing.mono _ _ _ _
      | exact spec_PlaceInRing.mono _ _ _ _
      | exact spec_RaisedRing.mono _ _ _ _ _
      | exact spec_TurnedRing.mono _ _ _ _ _
      | exact LeO.none _
      | refine LeO.ite ?_ ?_
      | refine LeO.bind ?_ (fun _ => ?_)
    · intro y0 y1 y2 y3 y4 y5 y6 y7 y8 y9 y10 y11 y12 y13 y14 y15 y16 y17 y18 y19
      unfold laws_FnRingsMeetOfAll.j4
      repeat' first
      | (with_reducible exact ih0 _ _ _ _ _ _ _ _ _ _ _ _ _ _)
      | (with_reducible exact ih1 _ _ _ _ _ _ _ _ _ _ _ _ _ _ _ _ _)
      | (with_reducible exact ih2 _ _ _ _ _ _ _ _ _ _)
      | (with_reducible exact ih3 _ _ _ _ _ _ _ _ _ _ _ _ _ _ _ _ _ _ _)
      | (with_reducible exact ih4 _ _ _ _ _ _ _ _ _ _ _ _ _ _ _ _)
      | (with_reducible exact ih5 _ _ _ _ _ _ _ _ _ _)
      | (with_reducible exact ih6 _ _ _ _ _ _)
      | (with_reducible exact ih7 _ _ _ _ _ _ _ _ _ _ _ _ _ _ _)
      | (with_reducible exact ih8 _ _ _ _ _ _ _ _ _ _ _ _ _ _ _ _ _)
      | (with_reducible exact ih9 _ _ _ _ _ _ _ _ _ _ _ _ _ _ _ _ _ _ _ _)
      | (with_reducible exact ih10 _ _ _ _ _ _ _ _ _ _ _ _ _ _ _ _ _ _ _ _ _)
      | (with_reducible exact impl_BackRing.mono _ _ _ _)
      | (with_reducible exact impl_CodeAtPlace.mono _ _ _ _)
      | (with_reducible exact impl_CodesOfRing.mono _ _ _ _)
      | (with_reducible exact impl_CountCodes.mono _ _ _)
      | (with_reducible exact impl_CountRings.mono _ _ _)
      | (with_reducible exact impl_GreatestRing.mono _ _ _)
      | (with_reducible exact impl_IsRing.mono _ _ _ _)
      | (with_reducible exact impl_LeastRing.mono _ _ _)
      | (with_reducible exact impl_PlaceInRing.mono _ _ _ _)
      | (with_reducible exact impl_RaisedRing.mono _ _ _ _ _)
      | (with_reducible exact impl_TurnedRing.mono _ _ _ _ _)
      | (with_reducible exact laws_eTexts.mono _ _ _)
      | (with_reducible exact spec_BackRing.mono _ _ _ _)
      | (with_reducible exact spec_CodeAtPlace.mono _ _ _ _)
      | (with_reducible exact spec_CodesOfRing.mono _ _ _ _)
      | (with_reducible exact spec_IsRing.mono _ _ _ _)
      | (with_reducible exact spec_PlaceInRing.mono _ _ _ _)
      | (with_reducible exact spec_RaisedRing.mono _ _ _ _ _)
      | (with_reducible exact spec_TurnedRing.mono _ _ _ _ _)
      | (with_reducible exact LeO.refl _)
      | (with_reducible exact LeO.none _)
      | (with_reducible refine LeO.ite ?_ ?_)
      | (with_reducible refine LeO.bind ?_ (fun _ => ?_))
      | exact ih0 _ _ _ _ _ _ _ _ _ _ _ _ _ _
      | exact ih1 _ _ _ _ _ _ _ _ _ _ _ _ _ _ _ _ _
      | exact ih2 _ _ _ _ _ _ _ _ _ _
      | exact ih3 _ _ _ _ _ _ _ _ _ _ _ _ _ _ _ _ _ _ _
      | exact ih4 _ _ _ _ _ _ _ _ _ _ _ _ _ _ _ _
      | exact ih5 _ _ _ _ _ _ _ _ _ _
      | exact ih6 _ _ _ _ _ _
      | exact ih7 _ _ _ _ _ _ _ _ _ _ _ _ _ _ _
      | exact ih8 _ _ _ _ _ _ _ _ _ _ _ _ _ _ _ _ _
      | exact ih9 _ _ _ _ _ _ _ _ _ _ _ _ _ _ _ _ _ _ _ _
      | exact ih10 _ _ _ _ _ _ _ _ _ _ _ _ _ _ _ _ _ _ _ _ _
      | exact impl_BackRing.mono _ _ _ _
      | exact impl_CodeAtPlace.mono _ _ _ _
      | exact impl_CodesOfRing.mono _ _ _ _
      | exact impl_CountCodes.mono _ _ _
      | exact impl_CountRings.mono _ _ _
      | exact impl_GreatestRing.mono _ _ _
      | exact impl_IsRing.mono _ _ _ _
      | exact impl_LeastRing.mono _ _ _
      | exact impl_PlaceInRing.mono _ _ _ _
      | exact impl_RaisedRing.mono _ _ _ _ _
      | exact impl_TurnedRing.mono _ _ _ _ _
      | exact laws_eTexts.mono _ _ _
      | exact spec_BackRing.mono _ _ _ _
      | exact spec_CodeAtPlace.mono _ _ _ _
      | exact spec_CodesOfRing.mono _ _ _ _
      | exact spec_IsRing.mono _ _ _ _
      | exact spec_PlaceInRing.mono _ _ _ _
      | exact spec_RaisedRing.mono _ _ _ _ _
      | exact spec_TurnedRing.mono _ _ _ _ _
      | exact LeO.none _
      | refine LeO.ite ?_ ?_
      | refine LeO.bind ?_ (fun _ => ?_)
    · intro y0 y1 y2 y3 y4 y5 y6 y7 y8 y9 y10 y11 y12 y13 y14 y15 y16 y17 y18 y19 y20
      unfold laws_FnRingsMeetOfAll.l1
      repeat' first
      | (with_reducible exact ih0 _ _ _ _ _ _ _ _ _ _ _ _ _ _)
      | (with_reducible exact ih1 _ _ _ _ _ _ _ _ _ _ _ _ _ _ _ _ _)
      | (with_reducible exact ih2 _ _ _ _ _ _ _ _ _ _)
      | (with_reducible exact ih3 _ _ _ _ _ _ _ _ _ _ _ _ _ _ _ _ _ _ _)
      | (with_reducible exact ih4 _ _ _ _ _ _ _ _ _ _ _ _ _ _ _ _)
      | (with_reducible exact ih5 _ _ _ _ _ _ _ _ _ _)
      | (with_reducible exact ih6 _ _ _ _ _ _)
      | (with_reducible exact ih7 _ _ _ _ _ _ _ _ _ _ _ _ _ _ _)
      | (with_reducible exact ih8 _ _ _ _ _ _ _ _ _ _ _ _ _ _ _ _ _)
      | (with_reducible exact ih9 _ _ _ _ _ _ _ _ _ _ _ _ _ _ _ _ _ _ _ _)
      | (with_reducible exact ih10 _ _ _ _ _ _ _ _ _ _ _ _ _ _ _ _ _ _ _ _ _)
      | (with_reducible exact impl_BackRing.mono _ _ _ _)
      | (with_reducible exact impl_CodeAtPlace.mono _ _ _ _)
      | (with_reducible exact impl_CodesOfRing.mono _ _ _ _)
      | (with_reducible exact impl_CountCodes.mono _ _ _)
      | (with_reducible exact impl_CountRings.mono _ _ _)
      | (with_reducible exact impl_GreatestRing.mono _ _ _)
      | (with_reducible exact impl_IsRing.mono _ _ _ _)
      | (with_reducible exact impl_LeastRing.mono _ _ _)
      | (with_reducible exact impl_PlaceInRing.mono _ _ _ _)
      | (with_reducible exact impl_RaisedRing.mono _ _ _ _ _)
      | (with_reducible exact impl_TurnedRing.mono _ _ _ _ _)
      | (with_reducible exact laws_eTexts.mono _ _ _)
      | (with_reducible exact spec_BackRing.mono _ _ _ _)
      | (with_reducible exact spec_CodeAtPlace.mono _ _ _ _)
      | (with_reducible exact spec_CodesOfRing.mono _ _ _ _)
      | (with_reducible exact spec_IsRing.mono _ _ _ _)
      | (with_reducible exact spec_PlaceInRing.mono _ _ _ _)
      | (with_reducible exact spec_RaisedRing.mono _ _ _ _ _)
      | (with_reducible exact spec_TurnedRing.mono _ _ _ _ _)
      | (with_reducible exact LeO.refl _)
      | (with_reducible exact LeO.none _)
      | (with_reducible refine LeO.ite ?_ ?_)
      | (with_reducible refine LeO.bind ?_ (fun _ => ?_))
      | exact ih0 _ _ _ _ _ _ _ _ _ _ _ _ _ _
      | exact ih1 _ _ _ _ _ _ _ _ _ _ _ _ _ _ _ _ _
      | exact ih2 _ _ _ _ _ _ _ _ _ _
      | exact ih3 _ _ _ _ _ _ _ _ _ _ _ _ _ _ _ _ _ _ _
      | exact ih4 _ _ _ _ _ _ _ _ _ _ _ _ _ _ _ _
      | exact ih5 _ _ _ _ _ _ _ _ _ _
      | exact ih6 _ _ _ _ _ _
      | exact ih7 _ _ _ _ _ _ _ _ _ _ _ _ _ _ _
      | exact ih8 _ _ _ _ _ _ _ _ _ _ _ _ _ _ _ _ _
      | exact ih9 _ _ _ _ _ _ _ _ _ _ _ _ _ _ _ _ _ _ _ _
      | exact ih10 _ _ _ _ _ _ _ _ _ _ _ _ _ _ _ _ _ _ _ _ _
      | exact impl_BackRing.mono _ _ _ _
      | exact impl_CodeAtPlace.mono _ _ _ _
      | exact impl_CodesOfRing.mono _ _ _ _
      | exact impl_CountCodes.mono _ _ _
      | exact impl_CountRings.mono _ _ _
      | exact impl_GreatestRing.mono _ _ _
      | exact impl_IsRing.mono _ _ _ _
      | exact impl_LeastRing.mono _ _ _
      | exact impl_PlaceInRing.mono _ _ _ _
      | exact impl_RaisedRing.mono _ _ _ _ _
      | exact impl_TurnedRing.mono _ _ _ _ _
      | exact laws_eTexts.mono _ _ _
      | exact spec_BackRing.mono _ _ _ _
      | exact spec_CodeAtPlace.mono _ _ _ _
      | exact spec_CodesOfRing.mono _ _ _ _
      | exact spec_IsRing.mono _ _ _ _
      | exact spec_PlaceInRing.mono _ _ _ _
      | exact spec_RaisedRing.mono _ _ _ _ _
      | exact spec_TurnedRing.mono _ _ _ _ _
      | exact LeO.none _
      | refine LeO.ite ?_ ?_
      | refine LeO.bind ?_ (fun _ => ?_)
theorem laws_FnRingsMeetOfAll.mono : ∀ a0 a1 a2 a3 a4 a5 a6 a7 a8 a9 a10 a11 a12 k, LeO (laws_FnRingsMeetOfAll.f k a0 a1 a2 a3 a4 a5 a6 a7 a8 a9 a10 a11 a12) (laws_FnRingsMeetOfAll.f (k + 1) a0 a1 a2 a3 a4 a5 a6 a7 a8 a9 a10 a11 a12) := by
  intro a0 a1 a2 a3 a4 a5 a6 a7 a8 a9 a10 a11 a12 k
  obtain ⟨ih0, ih1, ih2, ih3, ih4, ih5, ih6, ih7, ih8, ih9, ih10⟩ := laws_FnRingsMeetOfAll.mono_l k
  unfold laws_FnRingsMeetOfAll.f
  repeat' first
      | (with_reducible exact ih0 _ _ _ _ _ _ _ _ _ _ _ _ _ _)
      | (with_reducible exact ih1 _ _ _ _ _ _ _ _ _ _ _ _ _ _ _ _ _)
      | (with_reducible exact ih2 _ _ _ _ _ _ _ _ _ _)
      | (with_reducible exact ih3 _ _ _ _ _ _ _ _ _ _ _ _ _ _ _ _ _ _ _)
      | (with_reducible exact ih4 _ _ _ _ _ _ _ _ _ _ _ _ _ _ _ _)
      | (with_reducible exact ih5 _ _ _ _ _ _ _ _ _ _)
      | (with_reducible exact ih6 _ _ _ _ _ _)
      | (with_reducible exact ih7 _ _ _ _ _ _ _ _ _ _ _ _ _ _ _)
      | (with_reducible exact ih8 _ _ _ _ _ _ _ _ _ _ _ _ _ _ _ _ _)
      | (with_reducible exact ih9 _ _ _ _ _ _ _ _ _ _ _ _ _ _ _ _ _ _ _ _)
      | (with_reducible exact ih10 _ _ _ _ _ _ _ _ _ _ _ _ _ _ _ _ _ _ _ _ _)
      | (with_reducible exact impl_BackRing.mono _ _ _ _)
      | (with_reducible exact impl_CodeAtPlace.mono _ _ _ _)
      | (with_reducible exact impl_CodesOfRing.mono _ _ _ _)
      | (with_reducible exact impl_CountCodes.mono _ _ _)
      | (with_reducible exact impl_CountRings.mono _ _ _)
      | (with_reducible exact impl_GreatestRing.mono _ _ _)
      | (with_reducible exact impl_IsRing.mono _ _ _ _)
      | (with_reducible exact impl_LeastRing.mono _ _ _)
      | (with_reducible exact impl_PlaceInRing.mono _ _ _ _)
      | (with_reducible exact impl_RaisedRing.mono _ _ _ _ _)
      | (with_reducible exact impl_TurnedRing.mono _ _ _ _ _)
      | (with_reducible exact laws_eTexts.mono _ _ _)
      | (with_reducible exact spec_BackRing.mono _ _ _ _)
      | (with_reducible exact spec_CodeAtPlace.mono _ _ _ _)
      | (with_reducible exact spec_CodesOfRing.mono _ _ _ _)
      | (with_reducible exact spec_IsRing.mono _ _ _ _)
      | (with_reducible exact spec_PlaceInRing.mono _ _ _ _)
      | (with_reducible exact spec_RaisedRing.mono _ _ _ _ _)
      | (with_reducible exact spec_TurnedRing.mono _ _ _ _ _)
      | (with_reducible exact LeO.refl _)
      | (with_reducible exact LeO.none _)
      | (with_reducible refine LeO.ite ?_ ?_)
      | (with_reducible refine LeO.bind ?_ (fun _ => ?_))
      | exact ih0 _ _ _ _ _ _ _ _ _ _ _ _ _ _
      | exact ih1 _ _ _ _ _ _ _ _ _ _ _ _ _ _ _ _ _
      | exact ih2 _ _ _ _ _ _ _ _ _ _
      | exact ih3 _ _ _ _ _ _ _ _ _ _ _ _ _ _ _ _ _ _ _
      | exact ih4 _ _ _ _ _ _ _ _ _ _ _ _ _ _ _ _
      | exact ih5 _ _ _ _ _ _ _ _ _ _
      | exact ih6 _ _ _ _ _ _
      | exact ih7 _ _ _ _ _ _ _ _ _ _ _ _ _ _ _
      | exact ih8 _ _ _ _ _ _ _ _ _ _ _ _ _ _ _ _ _
      | exact ih9 _ _ _ _ _ _ _ _ _ _ _ _ _ _ _ _ _ _ _ _
      | exact ih10 _ _ _ _ _ _ _ _ _ _ _ _ _ _ _ _ _ _ _ _ _
      | exact impl_BackRing.mono _ _ _ _
      | exact impl_CodeAtPlace.mono _ _ _ _
      | exact impl_CodesOfRing.mono _ _ _ _
      | exact impl_CountCodes.mono _ _ _
      | exact impl_CountRings.mono _ _ _
      | exact impl_GreatestRing.mono _ _ _
      | exact impl_IsRing.mono _ _ _ _
      | exact impl_LeastRing.mono _ _ _
      | exact impl_PlaceInRing.mono _ _ _ _
      | exact impl_RaisedRing.mono _ _ _ _ _
      | exact impl_TurnedRing.mono _ _ _ _ _
      | exact laws_eTexts.mono _ _ _
      | exact spec_BackRing.mono _ _ _ _
      | exact spec_CodeAtPlace.mono _ _ _ _
      | exact spec_CodesOfRing.mono _ _ _ _
      | exact spec_IsRing.mono _ _ _ _
      | exact spec_PlaceInRing.mono _ _ _ _
      | exact spec_RaisedRing.mono _ _ _ _ _
      | exact spec_TurnedRing.mono _ _ _ _ _
      | exact LeO.none _
      | refine LeO.ite ?_ ?_
      | refine LeO.bind ?_ (fun _ => ?_)
def laws_FnRingsMeetOfAll.T23 : Bool × List (List Nat × List Nat) := (true, [([], []), ([0], [0]), ([], []), ([2], [2]), ([1, 3], [1, 3]), ([4], [4]), ([5], [5]), ([6, 5], [5, 6]), ([5], [5]), ([5], [5]), ([8, 9, 5], [5, 8, 9]), ([7, 10, 5], [5, 7, 10]), ([5, 11], [5, 11])])
def laws_FnRingsMeetOfAll.B23 : List Nat := [0, 1, 0, 4, 15, 31, 63, 127, 63, 63, 831, 2047, 4095]
theorem laws_FnRingsMeetOfAll.tab23 : rtab .any (opsOf Try.f4 23) = laws_FnRingsMeetOfAll.T23 := by kernel_rfl
theorem laws_FnRingsMeetOfAll.bits23 : waitsOk laws_FnRingsMeetOfAll.T23.2 laws_FnRingsMeetOfAll.B23 = true := by kernel_rfl
def laws_FnRingsMeetOfAll.T45 : Bool × List (List Nat × List Nat) := (true, [([], []), ([], []), ([], []), ([2], [2]), ([], []), ([3, 4], [3, 4]), ([], []), ([6], [6]), ([5, 7], [5, 7]), ([0, 1, 8], [0, 1, 8]), ([9], [9]), ([10], [10]), ([10], [10]), ([11, 9, 0, 1, 2, 3, 4, 5, 6, 7, 8, 9, 10, 11], [11]), ([12, 13, 0, 1, 2, 3, 4, 5, 6, 7, 8, 9, 10, 11, 12, 13], [12])])
def laws_FnRingsMeetOfAll.B45 : List Nat := [0, 0, 0, 4, 0, 28, 0, 64, 252, 511, 1023, 2047, 2047, 4095, 16383]
theorem laws_FnRingsMeetOfAll.tab45 : rtab .any (opsOf Try.f4 45) = laws_FnRingsMeetOfAll.T45 := by kernel_rfl
theorem laws_FnRingsMeetOfAll.bits45 : waitsOk laws_FnRingsMeetOfAll.T45.2 laws_FnRingsMeetOfAll.B45 = true := by kernel_rfl
def laws_FnRingsMeetOfAll.T50 : Bool × List (List Nat × List Nat) := (true, [([], []), ([], []), ([], []), ([2], [2]), ([], []), ([3, 4], [3, 4]), ([], []), ([6], [6]), ([5, 7], [5, 7]), ([0, 1, 8], [0, 1, 8]), ([9], [9]), ([10], [10]), ([10], [10]), ([11, 9, 0, 1, 2, 3, 4, 5, 6, 7, 8, 9, 10, 11], [11]), ([12, 13, 0, 1, 2, 3, 4, 5, 6, 7, 8, 9, 10, 11, 12, 13], [12])])
def laws_FnRingsMeetOfAll.B50 : List Nat := [0, 0, 0, 4, 0, 28, 0, 64, 252, 511, 1023, 2047, 2047, 4095, 16383]
theorem laws_FnRingsMeetOfAll.tab50 : rtab .any (opsOf Try.f4 50) = laws_FnRingsMeetOfAll.T50 := by kernel_rfl
theorem laws_FnRingsMeetOfAll.bits50 : waitsOk laws_FnRingsMeetOfAll.T50.2 laws_FnRingsMeetOfAll.B50 = true := by kernel_rfl
set_option maxHeartbeats 8000000 in
set_option maxRecDepth 100000 in
theorem laws_FnRingsMeetOfAll.calls (k : Nat) (a0_0 : Int) (a0_1 : Int) (a1 : ByteArray) (a2_0 : Int) (a2_1 : Int) (a3 : ByteArray) (a4 : Int) (a5_0 : Int) (a5_1 : Int) (a6 : ByteArray) (a7_0 : Int) (a7_1 : Int) (a8 : Int) (r : Bool) (w : World) (hG : strings_Index.Gl w) (h : laws_FnRingsMeetOfAll.f k a0_0 a0_1 a1 a2_0 a2_1 a3 a4 a5_0 a5_1 a6 a7_0 a7_1 a8 = some r) (hr_ : r = true := by rfl) :
    Calls Try.prog 4 #[.agg #[.int .i64 a0_0, .int .i64 a0_1], .string a1, .agg #[.int .i64 a2_0, .int .i64 a2_1], .string a3, .int .i64 a4, .agg #[.int .i64 a5_0, .int .i64 a5_1], .string a6, .agg #[.int .i64 a7_0, .int .i64 a7_1], .int .i64 a8] w fun e w' => e = .returned (.bool r) ∧ Below w.heap.size w w' := by
  have HRT := Aside0.mk hr_
  clear hr_
  have HG := Aside0.mk hG
  clear hG
  have hu26 := Try.underlying26
  have HB := Aside0.mk (Below.refl w.heap.size w)
  have H : (if (a1.size : Int) > 1048576 then (laws_FnRingsMeetOfAll.j0 k a1 a3 a4 a6 a8 true a0_0 a0_1 a2_0 a2_1 a5_0 a5_1 a7_0 a7_1) else (if (a3.size : Int) > 1048576 then (laws_FnRingsMeetOfAll.j0 k a1 a3 a4 a6 a8 true a0_0 a0_1 a2_0 a2_1 a5_0 a5_1 a7_0 a7_1) else (laws_FnRingsMeetOfAll.j0 k a1 a3 a4 a6 a8 (decide ((a6.size : Int) > 1048576)) a0_0 a0_1 a2_0 a2_1 a5_0 a5_1 a7_0 a7_1))) = some r := h
  clear h
  have HC10 := Aside0.mk H
  clear H
  go_enter Try.func4, Try.ntmps4
  go_upto_region 1 with (first | ((with_reducible refine gate_dst (N := 9) rfl ?_); (try (refine gate_guard (by rfl) ?_; dsimp only)); refine box_event ?hg (N := 9) ?hd (cs := #[.int .i64 a0_0, .int .i64 a0_1]) (t := 26) ?hr ?_; (case hd => rfl); (case hg => rfl); (case hr => first | (go_simp; done) | (go_simp; rfl)); intro gb486 hg w11 hbox hb; have n0_ := bsx hb HB; have n1_ := Aside0.mk (hbox); have n2_ := gwx hg HB; have n3_ := n2_; clear HB; have HB := n0_; have BK486 := n1_; have GW486 := n2_; have GE486 := n3_; clear n0_ n1_ n2_ n3_; clear hb hbox hg) | ((with_reducible refine gate_dst (N := 11) rfl ?_); (try (refine gate_guard (by rfl) ?_; dsimp only)); refine box_event ?hg (N := 11) ?hd (cs := #[.int .i64 a2_0, .int .i64 a2_1]) (t := 26) ?hr ?_; (case hd => rfl); (case hg => rfl); (case hr => first | (go_simp; done) | (go_simp; rfl)); intro gb487 hg w12 hbox hb; have n0_ := bbx hb BK486; have n1_ := bsx hb HB; have n2_ := Aside0.mk (hbox); have n3_ := gwx hg HB; have n4_ := gwx hg HB; have n5_ := nlx hg BK486; have n6_ := ngx hg BK486; clear BK486; clear HB; have BK486 := n0_; have HB := n1_; have BK487 := n2_; have GW487 := n3_; have GE487 := n4_; have NB486_487 := n5_; have NB487_486 := n6_; clear n0_ n1_ n2_ n3_ n4_ n5_ n6_; clear hb hbox hg) | ((with_reducible refine gate_dst (N := 14) rfl ?_); (try (refine gate_guard (by rfl) ?_; dsimp only)); refine box_event ?hg (N := 14) ?hd (cs := #[.int .i64 a5_0, .int .i64 a5_1]) (t := 26) ?hr ?_; (case hd => rfl); (case hg => rfl); (case hr => first | (go_simp; done) | (go_simp; rfl)); intro gb488 hg w13 hbox hb; have n0_ := bbx hb BK486; have n1_ := bbx hb BK487; have n2_ := bsx hb HB; have n3_ := Aside0.mk (hbox); have n4_ := gwx hg HB; have n5_ := gwx hg HB; have n6_ := nlx hg BK486; have n7_ := ngx hg BK486; have n8_ := nlx hg BK487; have n9_ := ngx hg BK487; clear BK486; clear BK487; clear HB; have BK486 := n0_; have BK487 := n1_; have HB := n2_; have BK488 := n3_; have GW488 := n4_; have GE488 := n5_; have NB486_488 := n6_; have NB488_486 := n7_; have NB487_488 := n8_; have NB488_487 := n9_; clear n0_ n1_ n2_ n3_ n4_ n5_ n6_ n7_ n8_ n9_; clear hb hbox hg) | ((with_reducible refine gate_dst (N := 16) rfl ?_); (try (refine gate_guard (by rfl) ?_; dsimp only)); refine box_event ?hg (N := 16) ?hd (cs := #[.int .i64 a7_0, .int .i64 a7_1]) (t := 26) ?hr ?_; (case hd => rfl); (case hg => rfl); (case hr => first | (go_simp; done) | (go_simp; rfl)); intro gb489 hg w14 hbox hb; have n0_ := bbx hb BK486; have n1_ := bbx hb BK487; have n2_ := bbx hb BK488; have n3_ := bsx hb HB; have n4_ := Aside0.mk (hbox); have n5_ := gwx hg HB; have n6_ := gwx hg HB; have n7_ := nlx hg BK486; have n8_ := ngx hg BK486; have n9_ := nlx hg BK487; have n10_ := ngx hg BK487; have n11_ := nlx hg BK488; have n12_ := ngx hg BK488; clear BK486; clear BK487; clear BK488; clear HB; have BK486 := n0_; have BK487 := n1_; have BK488 := n2_; have HB := n3_; have BK489 := n4_; have GW489 := n5_; have GE489 := n6_; have NB486_489 := n7_; have NB489_486 := n8_; have NB487_489 := n9_; have NB489_487 := n10_; have NB488_489 := n11_; have NB489_488 := n12_; clear n0_ n1_ n2_ n3_ n4_ n5_ n6_ n7_ n8_ n9_ n10_ n11_ n12_; clear hb hbox hg))
  (try simp only [Act.put, s_1, s_2, s_3])
  go_cut [87] from 1 to 0 (fun v87 wc => ∃ (kq : Nat) (x87_9 : Bool), v87 = .bool x87_9 ∧ Aside0 (laws_FnRingsMeetOfAll.j0 kq a1 a3 a4 a6 a8 x87_9 a0_0 a0_1 a2_0 a2_1 a5_0 a5_1 a7_0 a7_1 = some r) ∧ Aside0 (kq ≤ k) ∧ Aside0 (wc.heap[gb486]? = some (.cells #[.int .i64 a0_0, .int .i64 a0_1] 26 (0, 0))) ∧ Aside0 (wc.heap[gb487]? = some (.cells #[.int .i64 a2_0, .int .i64 a2_1] 26 (0, 0))) ∧ Aside0 (wc.heap[gb488]? = some (.cells #[.int .i64 a5_0, .int .i64 a5_1] 26 (0, 0))) ∧ Aside0 (wc.heap[gb489]? = some (.cells #[.int .i64 a7_0, .int .i64 a7_1] 26 (0, 0))) ∧ Aside0 (Below w.heap.size w wc))
  case first => as_aux_lemma =>
    have H := HC10.out
    clear HC10
    by_cases c15 : (a1.size : Int) > 1048576
    · rw [if_pos c15] at H
      have c15b0 : decide (1048576 < (a1.size : Int)) = true := decide_eq_true c15
      have c15b1 : decide (1048576 < a1.size) = true := decide_eq_true (by omega)
      clear c15
      (first | rw [c15b0] | (simp only [i64_w, i32_w]; rw [c15b0]) | skip)
      have H' := Aside0.mk H
      clear H
      go_wp2
      go_meet
      case rel => refine ⟨_, (true), (by first | rfl | (simp; done) | (simp [*]; done)), H', ⟨by first | omega | exact Nat.le_refl _⟩, ⟨?_⟩, ⟨?_⟩, ⟨?_⟩, ⟨?_⟩, ⟨bB HB⟩⟩ <;> (with_reducible repeat (first | refine g_d ?_ _ | refine g_e ?_ | refine g_a ?_ _)) <;> first | exact BK486.out | exact BK487.out | exact BK488.out | exact BK489.out
    rw [if_neg c15] at H
    have c15b0 : decide (1048576 < (a1.size : Int)) = false := decide_eq_false c15
    have c15b1 : decide (1048576 < a1.size) = false := decide_eq_false (by omega)
    clear c15
    (first | rw [c15b0] | (simp only [i64_w, i32_w]; rw [c15b0]) | skip)
    by_cases c16 : (a3.size : Int) > 1048576
    rotate_left
    · rw [if_neg c16] at H
      have c16b0 : decide (1048576 < (a3.size : Int)) = false := decide_eq_false c16
      have c16b1 : decide (1048576 < a3.size) = false := decide_eq_false (by omega)
      clear c16
      have H' := Aside0.mk H
      clear H
      go_wp2
      go_meet
      case rel => refine ⟨_, (decide ((a6.size : Int) > 1048576)), (by first | rfl | (simp; done) | (simp [*]; done)), H', ⟨by first | omega | exact Nat.le_refl _⟩, ⟨?_⟩, ⟨?_⟩, ⟨?_⟩, ⟨?_⟩, ⟨bB HB⟩⟩ <;> (with_reducible repeat (first | refine g_d ?_ _ | refine g_e ?_ | refine g_a ?_ _)) <;> first | exact BK486.out | exact BK487.out | exact BK488.out | exact BK489.out
    rw [if_pos c16] at H
    have c16b0 : decide (1048576 < (a3.size : Int)) = true := decide_eq_true c16
    have c16b1 : decide (1048576 < a3.size) = true := decide_eq_true (by omega)
    clear c16
    have H' := Aside0.mk H
    clear H
    go_wp2
    go_meet
    case rel => refine ⟨_, (true), (by first | rfl | (simp; done) | (simp [*]; done)), H', ⟨by first | omega | exact Nat.le_refl _⟩, ⟨?_⟩, ⟨?_⟩, ⟨?_⟩, ⟨?_⟩, ⟨bB HB⟩⟩ <;> (with_reducible repeat (first | refine g_d ?_ _ | refine g_e ?_ | refine g_a ?_ _)) <;> first | exact BK486.out | exact BK487.out | exact BK488.out | exact BK489.out
  clear HC10
  obtain ⟨kq, x87_9, rfl, HA, HJ9, BK486, BK487, BK488, BK489, HB⟩ := hcut
  rcases kq with _ | kj9
  · exact absurd HA.out (by simp [laws_FnRingsMeetOfAll.j0])
  have H := HA.out
  clear HA
  simp only [laws_FnRingsMeetOfAll.j0] at H
  by_cases c17 : x87_9 = true
  · subst c17
    rw [if_pos rfl] at H
    obtain rfl := Option.some.inj H
    go_wp2
    go_ret
    exact ⟨by first | rfl | (simp [errW_none, errW_some] <;> rfl) | (simp [*, errW_none, errW_some] <;> rfl), bB HB⟩
  replace c17 := Bool.eq_false_iff.mpr c17
  subst c17
  rw [if_neg (show ¬ (false = true) by decide)] at H
  replace H := Option.bind_eq_some_iff.mp H
  obtain ⟨⟨t490, t491⟩, A180, H⟩ := H
  try dsimp only at H
  have A18 := Aside0.mk A180
  clear A180
  replace H := Option.bind_eq_some_iff.mp H
  obtain ⟨⟨t492, t493⟩, A190, H⟩ := H
  try dsimp only at H
  have A19 := Aside0.mk A190
  clear A190
  replace H := Option.bind_eq_some_iff.mp H
  obtain ⟨⟨t494, t497⟩, A200, H⟩ := H
  try dsimp only at H
  have A20 := Aside0.mk A200
  clear A200
  replace H := Option.bind_eq_some_iff.mp H
  obtain ⟨⟨t498, t501⟩, A210, H⟩ := H
  try dsimp only at H
  have A21 := Aside0.mk A210
  clear A210
  replace H := Option.bind_eq_some_iff.mp H
  obtain ⟨⟨t502, t503⟩, A220, H⟩ := H
  try dsimp only at H
  have A22 := Aside0.mk A220
  clear A220
  replace H := Option.bind_eq_some_iff.mp H
  obtain ⟨⟨t504, t505⟩, A230, H⟩ := H
  try dsimp only at H
  have A23 := Aside0.mk A230
  clear A230
  have HC24 := Aside0.mk H
  clear H
  have hnb25 := eq_false NB486_487.out
  have hnc25 := eq_false NB487_486.out
  have hnb26 := eq_false NB486_488.out
  have hnc26 := eq_false NB488_486.out
  have hnb27 := eq_false NB486_489.out
  have hnc27 := eq_false NB489_486.out
  have hcz28_0 := cz0 BK486
  have hcz28_1 := cz1 BK486
  have hfz28_0 := blk_frozen BK486.out 0
  have hfz28_1 := blk_frozen BK486.out 1
  go_upto_region 9 with (first | ((with_reducible refine gate_callee (f := 8) rfl ?_); refine goesL_ (some 91) rfl rfl Try.func8 (by kernel_rfl) rfl #[.agg #[.int .i64 a0_0, .int .i64 a0_1], .string a1] rfl (by (try simp only [m_1, m_2, m_3]); first | done | rfl | (simp only [m_4, m_5]; rfl)) ?_; (with_reducible refine (impl_IsRing.calls kj9 a0_0 a0_1 a1 t490 t491 _ A18.out).mono ?_); rintro e w29 ⟨rfl, hb⟩; refine ⟨_, rfl, ?_⟩; replace BK486 := bbx hb BK486; replace BK487 := bbx hb BK487; replace BK488 := bbx hb BK488; replace BK489 := bbx hb BK489; replace HB := bsx hb HB; skip; (try clear hb); (try clear hb2); (try clear hk); (try clear hi); have hcz30_0 := cz0 BK486; have hcz30_1 := cz1 BK486; have hfz30_0 := blk_frozen BK486.out 0; have hfz30_1 := blk_frozen BK486.out 1) | ((with_reducible refine gate_callee (f := 9) rfl ?_); refine goesL_ (some 97) rfl rfl Try.func9 (by kernel_rfl) rfl #[.agg #[.int .i64 a0_0, .int .i64 a0_1], .string a1] rfl (by (try simp only [m_1, m_2, m_3]); first | done | rfl | (simp only [m_4, m_5]; rfl)) ?_; (with_reducible refine (spec_IsRing.calls kj9 a0_0 a0_1 a1 t492 t493 _ A19.out).mono ?_); rintro e w31 ⟨rfl, hb⟩; refine ⟨_, rfl, ?_⟩; replace BK486 := bbx hb BK486; replace BK487 := bbx hb BK487; replace BK488 := bbx hb BK488; replace BK489 := bbx hb BK489; replace HB := bsx hb HB; skip; (try clear hb); (try clear hb2); (try clear hk); (try clear hi); have hcz32_0 := cz0 BK486; have hcz32_1 := cz1 BK486; have hfz32_0 := blk_frozen BK486.out 0; have hfz32_1 := blk_frozen BK486.out 1) | ((with_reducible refine gate_callee (f := 10) rfl ?_); refine goesL_ (some 103) rfl rfl Try.func10 (by kernel_rfl) rfl #[.agg #[.int .i64 a0_0, .int .i64 a0_1], .string a1] rfl (by (try simp only [m_1, m_2, m_3]); first | done | rfl | (simp only [m_4, m_5]; rfl)) ?_; (with_reducible refine (impl_CodesOfRing.calls kj9 a0_0 a0_1 a1 t494 t497 _ A20.out).mono ?_); rintro e w33 ⟨v495, rfl, ho0, hb⟩; refine ⟨_, rfl, ?_⟩; have n0_ := Aside0.mk (Kd.R_lower ho0 (below_size (bB HB))); replace BK486 := bbx hb BK486; replace BK487 := bbx hb BK487; replace BK488 := bbx hb BK488; replace BK489 := bbx hb BK489; have n5_ := bsx hb HB; clear HB; have HO496 := n0_; have HB := n5_; clear n0_ n5_; (try clear hb); (try clear hb2); (try clear hk); (try clear hi); (try clear ho0); have hcz34_0 := cz0 BK486; have hcz34_1 := cz1 BK486; have hfz34_0 := blk_frozen BK486.out 0; have hfz34_1 := blk_frozen BK486.out 1) | ((with_reducible refine gate_callee (f := 11) rfl ?_); refine goesL_ (some 109) rfl rfl Try.func11 (by kernel_rfl) rfl #[.agg #[.int .i64 a0_0, .int .i64 a0_1], .string a1] rfl (by (try simp only [m_1, m_2, m_3]); first | done | rfl | (simp only [m_4, m_5]; rfl)) ?_; (with_reducible refine (spec_CodesOfRing.calls kj9 a0_0 a0_1 a1 t498 t501 _ A21.out).mono ?_); rintro e w35 ⟨v499, rfl, ho0, hb⟩; refine ⟨_, rfl, ?_⟩; have n0_ := Aside0.mk (Kd.R_elder' (by (with_reducible repeat (first | apply r_a | apply r_d | apply r_e)); exact HO496.out) (Kd.R_base ho0) hb); have n1_ := Aside0.mk (Kd.R_lower (Kd.R_new' ho0 (Kd.R_lt (by (with_reducible repeat (first | apply r_a | apply r_d | apply r_e)); exact HO496.out))) (below_size (bB HB))); replace BK486 := bbx hb BK486; replace BK487 := bbx hb BK487; replace BK488 := bbx hb BK488; replace BK489 := bbx hb BK489; have n6_ := bsx hb HB; clear HO496; clear HB; have HO496 := n0_; have HO500 := n1_; have HB := n6_; clear n0_ n1_ n6_; (try clear hb); (try clear hb2); (try clear hk); (try clear hi); (try clear ho0); have hcz36_0 := cz0 BK486; have hcz36_1 := cz1 BK486; have hfz36_0 := blk_frozen BK486.out 0; have hfz36_1 := blk_frozen BK486.out 1) | ((with_reducible refine gate_callee (f := 12) rfl ?_); refine goesL_ (some 115) rfl rfl Try.func12 (by kernel_rfl) rfl #[.agg #[.int .i64 a0_0, .int .i64 a0_1], .string a1] rfl (by (try simp only [m_1, m_2, m_3]); first | done | rfl | (simp only [m_4, m_5]; rfl)) ?_; (with_reducible refine (impl_BackRing.calls kj9 a0_0 a0_1 a1 t502 t503 _ A22.out).mono ?_); rintro e w37 ⟨rfl, hb⟩; refine ⟨_, rfl, ?_⟩; have n0_ := Aside0.mk (Kd.R_below (by (with_reducible repeat (first | apply r_a | apply r_d | apply r_e)); exact HO496.out) hb); have n1_ := Aside0.mk (Kd.R_below (by (with_reducible repeat (first | apply r_a | apply r_d | apply r_e)); exact HO500.out) hb); replace BK486 := bbx hb BK486; replace BK487 := bbx hb BK487; replace BK488 := bbx hb BK488; replace BK489 := bbx hb BK489; replace HB := bsx hb HB; clear HO496; clear HO500; have HO496 := n0_; have HO500 := n1_; clear n0_ n1_; (try clear hb); (try clear hb2); (try clear hk); (try clear hi); have hcz38_0 := cz0 BK486; have hcz38_1 := cz1 BK486; have hfz38_0 := blk_frozen BK486.out 0; have hfz38_1 := blk_frozen BK486.out 1) | ((with_reducible refine gate_callee (f := 13) rfl ?_); refine goesL_ (some 121) rfl rfl Try.func13 (by kernel_rfl) rfl #[.agg #[.int .i64 a0_0, .int .i64 a0_1], .string a1] rfl (by (try simp only [m_1, m_2, m_3]); first | done | rfl | (simp only [m_4, m_5]; rfl)) ?_; (with_reducible refine (spec_BackRing.calls kj9 a0_0 a0_1 a1 t504 t505 _ A23.out).mono ?_); rintro e w39 ⟨rfl, hb⟩; refine ⟨_, rfl, ?_⟩; have n0_ := Aside0.mk (Kd.R_below (by (with_reducible repeat (first | apply r_a | apply r_d | apply r_e)); exact HO496.out) hb); have n1_ := Aside0.mk (Kd.R_below (by (with_reducible repeat (first | apply r_a | apply r_d | apply r_e)); exact HO500.out) hb); replace BK486 := bbx hb BK486; replace BK487 := bbx hb BK487; replace BK488 := bbx hb BK488; replace BK489 := bbx hb BK489; replace HB := bsx hb HB; clear HO496; clear HO500; have HO496 := n0_; have HO500 := n1_; clear n0_ n1_; (try clear hb); (try clear hb2); (try clear hk); (try clear hi)))
  (try simp only [Act.put, s_1, s_2, s_3])
  go_cut [165] from 1 to 0 (fun v165 wc => ∃ (kq : Nat) (x165_23 : Bool), v165 = .bool x165_23 ∧ Aside0 (laws_FnRingsMeetOfAll.j1 kq a1 a3 a4 a6 a8 t494 t497 t502 x165_23 a0_0 a0_1 a2_0 a2_1 a5_0 a5_1 a7_0 a7_1 = some r) ∧ Aside0 (kq ≤ kj9) ∧ Aside0 (Kd.R Kd.string 9 wc w.heap.size (fun _ => True) v495 t494) ∧ Aside0 (wc.heap[gb486]? = some (.cells #[.int .i64 a0_0, .int .i64 a0_1] 26 (0, 0))) ∧ Aside0 (wc.heap[gb487]? = some (.cells #[.int .i64 a2_0, .int .i64 a2_1] 26 (0, 0))) ∧ Aside0 (wc.heap[gb488]? = some (.cells #[.int .i64 a5_0, .int .i64 a5_1] 26 (0, 0))) ∧ Aside0 (wc.heap[gb489]? = some (.cells #[.int .i64 a7_0, .int .i64 a7_1] 26 (0, 0))) ∧ Aside0 (Below w.heap.size w wc))
  case first => as_aux_lemma =>
    have H := HC24.out
    clear HC24
    by_cases c40 : (t491 != t493) = true
    · rw [if_pos c40] at H
      have c40b0 : (t491 != t493) = true := c40
      (try (have c40b1 : decide (t491 = t493) = false := by simpa using c40))
      (try (have c40b2 : (t491 == t493) = false := by simpa using c40))
      (try (have c40b3 : ¬ (t491 = t493) := by simpa using c40))
      clear c40
      (first | rw [c40b0] | (simp only [i64_w, i32_w]; rw [c40b0]) | skip)
      rw [HRT.out] at H
      exact absurd H (by generalize kj9 = q_; cases q_ <;> simp [laws_FnRingsMeetOfAll.j1])
    rw [if_neg c40] at H
    have c40b0 : (t491 != t493) = false := by simpa using c40
    (try (have c40b1 : decide (t491 = t493) = true := by simpa using c40))
    (try (have c40b2 : (t491 == t493) = true := by simpa using c40))
    clear c40
    (first | rw [c40b0] | (simp only [i64_w, i32_w]; rw [c40b0]) | skip)
    by_cases c41 : (t490 != t492) = true
    · rw [if_pos c41] at H
      have c41b0 : (t490 != t492) = true := c41
      (try (have c41b1 : decide (t490 = t492) = false := by simpa using c41))
      (try (have c41b2 : (t490 == t492) = false := by simpa using c41))
      (try (have c41b3 : ¬ (t490 = t492) := by simpa using c41))
      clear c41
      rw [HRT.out] at H
      exact absurd H (by generalize kj9 = q_; cases q_ <;> simp [laws_FnRingsMeetOfAll.j1])
    rw [if_neg c41] at H
    have c41b0 : (t490 != t492) = false := by simpa using c41
    (try (have c41b1 : decide (t490 = t492) = true := by simpa using c41))
    (try (have c41b2 : (t490 == t492) = true := by simpa using c41))
    clear c41
    by_cases c42 : (t497 != t501) = true
    · rw [if_pos c42] at H
      have c42b0 : (t497 != t501) = true := c42
      (try (have c42b1 : decide (t497 = t501) = false := by simpa using c42))
      (try (have c42b2 : (t497 == t501) = false := by simpa using c42))
      (try (have c42b3 : ¬ (t497 = t501) := by simpa using c42))
      clear c42
      rw [HRT.out] at H
      exact absurd H (by generalize kj9 = q_; cases q_ <;> simp [laws_FnRingsMeetOfAll.j1])
    rw [if_neg c42] at H
    have c42b0 : (t497 != t501) = false := by simpa using c42
    (try (have c42b1 : decide (t497 = t501) = true := by simpa using c42))
    (try (have c42b2 : (t497 == t501) = true := by simpa using c42))
    clear c42
    replace H := Option.bind_eq_some_iff.mp H
    obtain ⟨t506, A430, H⟩ := H
    try dsimp only at H
    have A43 := Aside0.mk A430
    clear A430
    by_cases c44 : t506 = true
    rotate_left
    · replace c44 := Bool.eq_false_iff.mpr c44
      subst c44
      rw [if_neg (show ¬ (false = true) by decide)] at H
      rw [HRT.out] at H
      exact absurd H (by generalize kj9 = q_; cases q_ <;> simp [laws_FnRingsMeetOfAll.j1])
    subst c44
    rw [if_pos rfl] at H
    by_cases c45 : (t503 != t505) = true
    · rw [if_pos c45] at H
      have c45b0 : (t503 != t505) = true := c45
      (try (have c45b1 : decide (t503 = t505) = false := by simpa using c45))
      (try (have c45b2 : (t503 == t505) = false := by simpa using c45))
      (try (have c45b3 : ¬ (t503 = t505) := by simpa using c45))
      clear c45
      rw [HRT.out] at H
      exact absurd H (by generalize kj9 = q_; cases q_ <;> simp [laws_FnRingsMeetOfAll.j1])
    rw [if_neg c45] at H
    have c45b0 : (t503 != t505) = false := by simpa using c45
    (try (have c45b1 : decide (t503 = t505) = true := by simpa using c45))
    (try (have c45b2 : (t503 == t505) = true := by simpa using c45))
    clear c45
    by_cases c46 : t502.toList = t504.toList
    rotate_left
    · rw [if_neg c46] at H
      have c46b0 : (t502.toList == t504.toList) = false := beq_eq_false_iff_ne.mpr c46
      have c46b1 : (t502.toList != t504.toList) = true := bne_iff_ne.mpr c46
      rw [HRT.out] at H
      exact absurd H (by generalize kj9 = q_; cases q_ <;> simp [laws_FnRingsMeetOfAll.j1])
    rw [if_pos c46] at H
    have c46b0 : (t502.toList == t504.toList) = true := beq_iff_eq.mpr c46
    have c46b1 : (t502.toList != t504.toList) = false := bne_eq_false_iff_eq.mpr c46
    clear c46
    by_cases c47 : t491 = true
    · subst c47
      rw [if_pos rfl] at H
      by_cases c48 : (t497 != t490) = true
      · rw [if_pos c48] at H
        have c48b0 : (t497 != t490) = true := c48
        (try (have c48b1 : decide (t497 = t490) = false := by simpa using c48))
        (try (have c48b2 : (t497 == t490) = false := by simpa using c48))
        (try (have c48b3 : ¬ (t497 = t490) := by simpa using c48))
        clear c48
        rw [HRT.out] at H
        exact absurd H (by generalize kj9 = q_; cases q_ <;> simp [laws_FnRingsMeetOfAll.j1])
      · rw [if_neg c48] at H
        have c48b0 : (t497 != t490) = false := by simpa using c48
        (try (have c48b1 : decide (t497 = t490) = true := by simpa using c48))
        (try (have c48b2 : (t497 == t490) = true := by simpa using c48))
        clear c48
        have H' := Aside0.mk H
        clear H
        obtain ⟨Ao49, co49, eo49⟩ := Kd.R_slice HO496.out
        subst eo49
        obtain ⟨Ao50, co50, eo50⟩ := Kd.R_slice HO500.out
        subst eo50
        go_wp2_with (first | (go_at_call 14; (with_reducible refine (laws_eTexts.calls kj9 _ _ t494 _ _ t498 true _ ?side1 ?side2 ?side3 ?side4 A43.out).mono ?_); (case side1 => repeat (first | exact (Kd.R_reads' HO496.out).2.2 | (with_reducible refine Kd.C_alloc ?_ _) | (with_reducible refine Kd.C_drewN ?_ _) | (with_reducible refine Kd.C_drew ?_))); (case side2 => exact (Kd.R_reads' HO496.out).2.1); (case side3 => repeat (first | exact (Kd.R_reads' HO500.out).2.2 | (with_reducible refine Kd.C_alloc ?_ _) | (with_reducible refine Kd.C_drewN ?_ _) | (with_reducible refine Kd.C_drew ?_))); (case side4 => exact (Kd.R_reads' HO500.out).2.1); rintro e w' ⟨rfl, ⟨nd, rfl⟩⟩))
        go_meet
        case rel => refine ⟨_, ((t503 != t497)), (by first | rfl | (simp; done) | (simp [*]; done)), H', ⟨by have := HJ9.out; first | omega | exact Nat.le_refl _⟩, ⟨by (with_reducible repeat (first | apply r_a | apply r_d | apply r_e)); exact Kd.R_mono HO496.out (fun _ hk => trivial)⟩, ⟨?_⟩, ⟨?_⟩, ⟨?_⟩, ⟨?_⟩, ⟨bB HB⟩⟩ <;> (with_reducible repeat (first | refine g_d ?_ _ | refine g_e ?_ | refine g_a ?_ _)) <;> first | exact BK486.out | exact BK487.out | exact BK488.out | exact BK489.out
    replace c47 := Bool.eq_false_iff.mpr c47
    subst c47
    rw [if_neg (show ¬ (false = true) by decide)] at H
    by_cases c51 : (t497 != false) = true
    · rw [if_pos c51] at H
      have c51e : t497 = true := by simpa using c51
      clear c51
      subst c51e
      rw [HRT.out] at H
      exact absurd H (by generalize kj9 = q_; cases q_ <;> simp [laws_FnRingsMeetOfAll.j1])
    rw [if_neg c51] at H
    have c51b0 : (t497 != false) = false := by simpa using c51
    (try (have c51b1 : decide (t497 = false) = true := by simpa using c51))
    (try (have c51b2 : (t497 == false) = true := by simpa using c51))
    clear c51
    have H' := Aside0.mk H
    clear H
    obtain ⟨Ao52, co52, eo52⟩ := Kd.R_slice HO496.out
    subst eo52
    obtain ⟨Ao53, co53, eo53⟩ := Kd.R_slice HO500.out
    subst eo53
    go_wp2_with (first | (go_at_call 14; (with_reducible refine (laws_eTexts.calls kj9 _ _ t494 _ _ t498 true _ ?side1 ?side2 ?side3 ?side4 A43.out).mono ?_); (case side1 => repeat (first | exact (Kd.R_reads' HO496.out).2.2 | (with_reducible refine Kd.C_alloc ?_ _) | (with_reducible refine Kd.C_drewN ?_ _) | (with_reducible refine Kd.C_drew ?_))); (case side2 => exact (Kd.R_reads' HO496.out).2.1); (case side3 => repeat (first | exact (Kd.R_reads' HO500.out).2.2 | (with_reducible refine Kd.C_alloc ?_ _) | (with_reducible refine Kd.C_drewN ?_ _) | (with_reducible refine Kd.C_drew ?_))); (case side4 => exact (Kd.R_reads' HO500.out).2.1); rintro e w' ⟨rfl, ⟨nd, rfl⟩⟩))
    go_meet
    case rel => refine ⟨_, ((t503 != t497)), (by first | rfl | (simp; done) | (simp [*]; done)), H', ⟨by have := HJ9.out; first | omega | exact Nat.le_refl _⟩, ⟨by (with_reducible repeat (first | apply r_a | apply r_d | apply r_e)); exact Kd.R_mono HO496.out (fun _ hk => trivial)⟩, ⟨?_⟩, ⟨?_⟩, ⟨?_⟩, ⟨?_⟩, ⟨bB HB⟩⟩ <;> (with_reducible repeat (first | refine g_d ?_ _ | refine g_e ?_ | refine g_a ?_ _)) <;> first | exact BK486.out | exact BK487.out | exact BK488.out | exact BK489.out
  clear HC24
  try clear c17
  try clear hcz28_0
  try clear hcz28_1
  try clear hcz30_0
  try clear hcz30_1
  try clear hcz32_0
  try clear hcz32_1
  try clear hcz34_0
  try clear hcz34_1
  try clear hcz36_0
  try clear hcz36_1
  try clear hcz38_0
  try clear hcz38_1
  try clear hfz28_0
  try clear hfz28_1
  try clear hfz30_0
  try clear hfz30_1
  try clear hfz32_0
  try clear hfz32_1
  try clear hfz34_0
  try clear hfz34_1
  try clear hfz36_0
  try clear hfz36_1
  try clear hfz38_0
  try clear hfz38_1
  obtain ⟨kq, x165_23, rfl, HA, HJ23, HO_23, BK486, BK487, BK488, BK489, HB⟩ := hcut
  rcases kq with _ | kj23
  · exact absurd HA.out (by simp [laws_FnRingsMeetOfAll.j1])
  have H := HA.out
  clear HA
  simp only [laws_FnRingsMeetOfAll.j1] at H
  by_cases c54 : x165_23 = true
  · subst c54
    rw [if_pos rfl] at H
    rw [HRT.out] at H
    exact absurd H (by simp)
  replace c54 := Bool.eq_false_iff.mpr c54
  subst c54
  rw [if_neg (show ¬ (false = true) by decide)] at H
  have HC55 := Aside0.mk H
  clear H
  go_upto_if 166 with (fail)
  go_cut [] from 1 to 0 (fun wc => ∃ (kq : Nat), Aside0 (laws_FnRingsMeetOfAll.j6 kq a3 a4 a6 a8 a2_0 a2_1 a5_0 a5_1 a7_0 a7_1 = some r) ∧ Aside0 (kq ≤ kj23) ∧ Aside0 (wc.heap[gb486]? = some (.cells #[.int .i64 a0_0, .int .i64 a0_1] 26 (0, 0))) ∧ Aside0 (wc.heap[gb487]? = some (.cells #[.int .i64 a2_0, .int .i64 a2_1] 26 (0, 0))) ∧ Aside0 (wc.heap[gb488]? = some (.cells #[.int .i64 a5_0, .int .i64 a5_1] 26 (0, 0))) ∧ Aside0 (wc.heap[gb489]? = some (.cells #[.int .i64 a7_0, .int .i64 a7_1] 26 (0, 0))) ∧ Aside0 (Below w.heap.size w wc))
  case first => as_aux_lemma =>
    have H := HC55.out
    clear HC55
    by_cases c56 : t497 = true
    rotate_left
    · replace c56 := Bool.eq_false_iff.mpr c56
      subst c56
      rw [if_neg (show ¬ (false = true) by decide)] at H
      have H' := Aside0.mk H
      clear H
      go_wp2
      go_meet
      case rel => refine ⟨_, H', ⟨by have := HJ9.out; have := HJ23.out; first | omega | exact Nat.le_refl _⟩, ⟨?_⟩, ⟨?_⟩, ⟨?_⟩, ⟨?_⟩, ⟨bB HB⟩⟩ <;> (with_reducible repeat (first | refine g_d ?_ _ | refine g_e ?_ | refine g_a ?_ _)) <;> first | exact BK486.out | exact BK487.out | exact BK488.out | exact BK489.out
    subst c56
    rw [if_pos rfl] at H
    replace H := Option.bind_eq_some_iff.mp H
    obtain ⟨⟨t507, t508⟩, A570, H⟩ := H
    try dsimp only at H
    have A57 := Aside0.mk A570
    clear A570
    replace H := Option.bind_eq_some_iff.mp H
    obtain ⟨⟨t509, t510⟩, A580, H⟩ := H
    try dsimp only at H
    have A58 := Aside0.mk A580
    clear A580
    replace H := Option.bind_eq_some_iff.mp H
    obtain ⟨⟨t511, t512⟩, A590, H⟩ := H
    try dsimp only at H
    have A59 := Aside0.mk A590
    clear A590
    replace H := Option.bind_eq_some_iff.mp H
    obtain ⟨⟨t513, t514⟩, A600, H⟩ := H
    try dsimp only at H
    have A60 := Aside0.mk A600
    clear A600
    replace H := Option.bind_eq_some_iff.mp H
    obtain ⟨⟨t515, t516⟩, A610, H⟩ := H
    try dsimp only at H
    have A61 := Aside0.mk A610
    clear A610
    replace H := Option.bind_eq_some_iff.mp H
    obtain ⟨⟨t517, t518⟩, A620, H⟩ := H
    try dsimp only at H
    have A62 := Aside0.mk A620
    clear A620
    have HC63 := Aside0.mk H
    clear H
    have hnb64 := eq_false NB486_487.out
    have hnc64 := eq_false NB487_486.out
    have hnb65 := eq_false NB486_488.out
    have hnc65 := eq_false NB488_486.out
    have hnb66 := eq_false NB486_489.out
    have hnc66 := eq_false NB489_486.out
    have hcz67_0 := cz0 BK486
    have hcz67_1 := cz1 BK486
    have hfz67_0 := blk_frozen BK486.out 0
    have hfz67_1 := blk_frozen BK486.out 1
    go_upto_region 18 with (first | ((with_reducible refine gate_callee (f := 15) rfl ?_); refine goesL_ (some 169) rfl rfl Try.func15 (by kernel_rfl) rfl #[.agg #[.int .i64 a0_0, .int .i64 a0_1]] rfl (by (try simp only [m_1, m_2, m_3]); first | done | rfl | (simp only [m_4, m_5]; rfl)) ?_; (with_reducible refine (impl_LeastRing.calls kj23 a0_0 a0_1 t507 t508 _ A57.out).mono ?_); rintro e w68 ⟨rfl, hb⟩; refine ⟨_, rfl, ?_⟩; have n0_ := Aside0.mk (Kd.R_below (by (with_reducible repeat (first | apply r_a | apply r_d | apply r_e)); exact HO_23.out) hb); replace BK486 := bbx hb BK486; replace BK487 := bbx hb BK487; replace BK488 := bbx hb BK488; replace BK489 := bbx hb BK489; replace HB := bsx hb HB; clear HO_23; have HO_23 := n0_; clear n0_; (try clear hb); (try clear hb2); (try clear hk); (try clear hi); have hcz69_0 := cz0 BK486; have hcz69_1 := cz1 BK486; have hfz69_0 := blk_frozen BK486.out 0; have hfz69_1 := blk_frozen BK486.out 1) | ((with_reducible refine gate_callee (f := 16) rfl ?_); refine goesL_ (some 174) rfl rfl Try.func16 (by kernel_rfl) rfl #[.agg #[.int .i64 a0_0, .int .i64 a0_1]] rfl (by (try simp only [m_1, m_2, m_3]); first | done | rfl | (simp only [m_4, m_5]; rfl)) ?_; (with_reducible refine (impl_GreatestRing.calls kj23 a0_0 a0_1 t509 t510 _ A58.out).mono ?_); rintro e w70 ⟨rfl, hb⟩; refine ⟨_, rfl, ?_⟩; have n0_ := Aside0.mk (Kd.R_below (by (with_reducible repeat (first | apply r_a | apply r_d | apply r_e)); exact HO_23.out) hb); replace BK486 := bbx hb BK486; replace BK487 := bbx hb BK487; replace BK488 := bbx hb BK488; replace BK489 := bbx hb BK489; replace HB := bsx hb HB; clear HO_23; have HO_23 := n0_; clear n0_; (try clear hb); (try clear hb2); (try clear hk); (try clear hi); have hcz71_0 := cz0 BK486; have hcz71_1 := cz1 BK486; have hfz71_0 := blk_frozen BK486.out 0; have hfz71_1 := blk_frozen BK486.out 1) | ((with_reducible refine gate_callee (f := 12) rfl ?_); refine goesL_ (some 180) rfl rfl Try.func12 (by kernel_rfl) rfl #[.agg #[.int .i64 a0_0, .int .i64 a0_1], .string t502] rfl (by (try simp only [m_1, m_2, m_3]); first | done | rfl | (simp only [m_4, m_5]; rfl)) ?_; (with_reducible refine (impl_BackRing.calls kj23 a0_0 a0_1 t502 t511 t512 _ A59.out).mono ?_); rintro e w72 ⟨rfl, hb⟩; refine ⟨_, rfl, ?_⟩; have n0_ := Aside0.mk (Kd.R_below (by (with_reducible repeat (first | apply r_a | apply r_d | apply r_e)); exact HO_23.out) hb); replace BK486 := bbx hb BK486; replace BK487 := bbx hb BK487; replace BK488 := bbx hb BK488; replace BK489 := bbx hb BK489; replace HB := bsx hb HB; clear HO_23; have HO_23 := n0_; clear n0_; (try clear hb); (try clear hb2); (try clear hk); (try clear hi); have hcz73_0 := cz0 BK486; have hcz73_1 := cz1 BK486; have hfz73_0 := blk_frozen BK486.out 0; have hfz73_1 := blk_frozen BK486.out 1) | ((with_reducible refine gate_callee (f := 8) rfl ?_); refine goesL_ (some 186) rfl rfl Try.func8 (by kernel_rfl) rfl #[.agg #[.int .i64 a0_0, .int .i64 a0_1], .string t502] rfl (by (try simp only [m_1, m_2, m_3]); first | done | rfl | (simp only [m_4, m_5]; rfl)) ?_; (with_reducible refine (impl_IsRing.calls kj23 a0_0 a0_1 t502 t513 t514 _ A60.out).mono ?_); rintro e w74 ⟨rfl, hb⟩; refine ⟨_, rfl, ?_⟩; have n0_ := Aside0.mk (Kd.R_below (by (with_reducible repeat (first | apply r_a | apply r_d | apply r_e)); exact HO_23.out) hb); replace BK486 := bbx hb BK486; replace BK487 := bbx hb BK487; replace BK488 := bbx hb BK488; replace BK489 := bbx hb BK489; replace HB := bsx hb HB; clear HO_23; have HO_23 := n0_; clear n0_; (try clear hb); (try clear hb2); (try clear hk); (try clear hi); have hcz75_0 := cz0 BK486; have hcz75_1 := cz1 BK486; have hfz75_0 := blk_frozen BK486.out 0; have hfz75_1 := blk_frozen BK486.out 1) | ((with_reducible refine gate_callee (f := 17) rfl ?_); refine goesL_ (some 191) rfl rfl Try.func17 (by kernel_rfl) rfl #[.agg #[.int .i64 a0_0, .int .i64 a0_1]] rfl (by (try simp only [m_1, m_2, m_3]); first | done | rfl | (simp only [m_4, m_5]; rfl)) ?_; (with_reducible refine (impl_CountCodes.calls kj23 a0_0 a0_1 t515 t516 _ A61.out).mono ?_); rintro e w76 ⟨rfl, hb⟩; refine ⟨_, rfl, ?_⟩; have n0_ := Aside0.mk (Kd.R_below (by (with_reducible repeat (first | apply r_a | apply r_d | apply r_e)); exact HO_23.out) hb); replace BK486 := bbx hb BK486; replace BK487 := bbx hb BK487; replace BK488 := bbx hb BK488; replace BK489 := bbx hb BK489; replace HB := bsx hb HB; clear HO_23; have HO_23 := n0_; clear n0_; (try clear hb); (try clear hb2); (try clear hk); (try clear hi); have hcz77_0 := cz0 BK486; have hcz77_1 := cz1 BK486; have hfz77_0 := blk_frozen BK486.out 0; have hfz77_1 := blk_frozen BK486.out 1) | ((with_reducible refine gate_callee (f := 18) rfl ?_); refine goesL_ (some 196) rfl rfl Try.func18 (by kernel_rfl) rfl #[.agg #[.int .i64 a0_0, .int .i64 a0_1]] rfl (by (try simp only [m_1, m_2, m_3]); first | done | rfl | (simp only [m_4, m_5]; rfl)) ?_; (with_reducible refine (impl_CountRings.calls kj23 a0_0 a0_1 t517 t518 _ A62.out).mono ?_); rintro e w78 ⟨rfl, hb⟩; refine ⟨_, rfl, ?_⟩; have n0_ := Aside0.mk (Kd.R_below (by (with_reducible repeat (first | apply r_a | apply r_d | apply r_e)); exact HO_23.out) hb); replace BK486 := bbx hb BK486; replace BK487 := bbx hb BK487; replace BK488 := bbx hb BK488; replace BK489 := bbx hb BK489; replace HB := bsx hb HB; clear HO_23; have HO_23 := n0_; clear n0_; (try clear hb); (try clear hb2); (try clear hk); (try clear hi)))
    (try simp only [Act.put, s_1, s_2, s_3])
    go_cut [254] from 1 to 0 (fun v254 wc => ∃ (kq : Nat) (x254_62 : Bool), v254 = .bool x254_62 ∧ Aside0 (laws_FnRingsMeetOfAll.j2 kq a1 a3 a4 a6 a8 t494 x254_62 a0_0 a0_1 a2_0 a2_1 a5_0 a5_1 a7_0 a7_1 = some r) ∧ Aside0 (kq ≤ kj23) ∧ Aside0 (Kd.R Kd.string 9 wc w.heap.size (fun _ => True) v495 t494) ∧ Aside0 (wc.heap[gb486]? = some (.cells #[.int .i64 a0_0, .int .i64 a0_1] 26 (0, 0))) ∧ Aside0 (wc.heap[gb487]? = some (.cells #[.int .i64 a2_0, .int .i64 a2_1] 26 (0, 0))) ∧ Aside0 (wc.heap[gb488]? = some (.cells #[.int .i64 a5_0, .int .i64 a5_1] 26 (0, 0))) ∧ Aside0 (wc.heap[gb489]? = some (.cells #[.int .i64 a7_0, .int .i64 a7_1] 26 (0, 0))) ∧ Aside0 (Below w.heap.size w wc))
    case first => as_aux_lemma =>
      have H := HC63.out
      clear HC63
      by_cases c79 : t508 = true
      rotate_left
      · replace c79 := Bool.eq_false_iff.mpr c79
        subst c79
        rw [if_neg (show ¬ (false = true) by decide)] at H
        rw [HRT.out] at H
        exact absurd H (by generalize kj23 = q_; cases q_ <;> simp [laws_FnRingsMeetOfAll.j2])
      subst c79
      rw [if_pos rfl] at H
      by_cases c80 : (Op.bytesLess a1.toList t507.toList) = true
      · rw [if_pos c80] at H
        have c80b0 : (Op.bytesLess a1.toList t507.toList) = true := c80
        clear c80
        (first | rw [c80b0] | (simp only [i64_w, i32_w]; rw [c80b0]) | skip)
        rw [HRT.out] at H
        exact absurd H (by generalize kj23 = q_; cases q_ <;> simp [laws_FnRingsMeetOfAll.j2])
      rw [if_neg c80] at H
      have c80b0 : (Op.bytesLess a1.toList t507.toList) = false := by simpa using c80
      clear c80
      (first | rw [c80b0] | (simp only [i64_w, i32_w]; rw [c80b0]) | skip)
      by_cases c81 : t510 = true
      rotate_left
      · replace c81 := Bool.eq_false_iff.mpr c81
        subst c81
        rw [if_neg (show ¬ (false = true) by decide)] at H
        rw [HRT.out] at H
        exact absurd H (by generalize kj23 = q_; cases q_ <;> simp [laws_FnRingsMeetOfAll.j2])
      subst c81
      rw [if_pos rfl] at H
      by_cases c82 : (Op.bytesLess t509.toList a1.toList) = true
      · rw [if_pos c82] at H
        have c82b0 : (Op.bytesLess t509.toList a1.toList) = true := c82
        clear c82
        rw [HRT.out] at H
        exact absurd H (by generalize kj23 = q_; cases q_ <;> simp [laws_FnRingsMeetOfAll.j2])
      rw [if_neg c82] at H
      have c82b0 : (Op.bytesLess t509.toList a1.toList) = false := by simpa using c82
      clear c82
      by_cases c83 : t512 = true
      rotate_left
      · replace c83 := Bool.eq_false_iff.mpr c83
        subst c83
        rw [if_neg (show ¬ (false = true) by decide)] at H
        rw [HRT.out] at H
        exact absurd H (by generalize kj23 = q_; cases q_ <;> simp [laws_FnRingsMeetOfAll.j2])
      subst c83
      rw [if_pos rfl] at H
      by_cases c84 : t511.toList = a1.toList
      rotate_left
      · rw [if_neg c84] at H
        have c84b0 : (t511.toList == a1.toList) = false := beq_eq_false_iff_ne.mpr c84
        have c84b1 : (t511.toList != a1.toList) = true := bne_iff_ne.mpr c84
        rw [HRT.out] at H
        exact absurd H (by generalize kj23 = q_; cases q_ <;> simp [laws_FnRingsMeetOfAll.j2])
      rw [if_pos c84] at H
      have c84b0 : (t511.toList == a1.toList) = true := beq_iff_eq.mpr c84
      have c84b1 : (t511.toList != a1.toList) = false := bne_eq_false_iff_eq.mpr c84
      clear c84
      by_cases c85 : t514 = true
      rotate_left
      · replace c85 := Bool.eq_false_iff.mpr c85
        subst c85
        rw [if_neg (show ¬ (false = true) by decide)] at H
        rw [HRT.out] at H
        exact absurd H (by generalize kj23 = q_; cases q_ <;> simp [laws_FnRingsMeetOfAll.j2])
      subst c85
      rw [if_pos rfl] at H
      by_cases c86 : t513 = true
      rotate_left
      · replace c86 := Bool.eq_false_iff.mpr c86
        subst c86
        rw [if_neg (show ¬ (false = true) by decide)] at H
        rw [HRT.out] at H
        exact absurd H (by generalize kj23 = q_; cases q_ <;> simp [laws_FnRingsMeetOfAll.j2])
      subst c86
      rw [if_pos rfl] at H
      by_cases c87 : t516 = true
      rotate_left
      · replace c87 := Bool.eq_false_iff.mpr c87
        subst c87
        rw [if_neg (show ¬ (false = true) by decide)] at H
        rw [HRT.out] at H
        exact absurd H (by generalize kj23 = q_; cases q_ <;> simp [laws_FnRingsMeetOfAll.j2])
      subst c87
      rw [if_pos rfl] at H
      by_cases c88 : (t494.length : Int) = t515
      rotate_left
      · rw [if_neg c88] at H
        have c88b0 : ((t494.length : Int) == t515) = false := beq_eq_false_iff_ne.mpr c88
        have c88b1 : ((t494.length : Int) != t515) = true := bne_iff_ne.mpr c88
        rw [HRT.out] at H
        exact absurd H (by generalize kj23 = q_; cases q_ <;> simp [laws_FnRingsMeetOfAll.j2])
      rw [if_pos c88] at H
      have c88b0 : ((t494.length : Int) == t515) = true := beq_iff_eq.mpr c88
      have c88b1 : ((t494.length : Int) != t515) = false := bne_eq_false_iff_eq.mpr c88
      clear c88
      by_cases c89 : (a1.size : Int) = t515
      rotate_left
      · rw [if_neg c89] at H
        have c89b0 : ((a1.size : Int) == t515) = false := beq_eq_false_iff_ne.mpr c89
        have c89b1 : ((a1.size : Int) != t515) = true := bne_iff_ne.mpr c89
        rw [HRT.out] at H
        exact absurd H (by generalize kj23 = q_; cases q_ <;> simp [laws_FnRingsMeetOfAll.j2])
      rw [if_pos c89] at H
      have c89b0 : ((a1.size : Int) == t515) = true := beq_iff_eq.mpr c89
      have c89b1 : ((a1.size : Int) != t515) = false := bne_eq_false_iff_eq.mpr c89
      clear c89
      by_cases c90 : t518 = true
      · subst c90
        rw [if_pos rfl] at H
        have H' := Aside0.mk H
        clear H
        obtain ⟨Ao91, co91, eo91⟩ := Kd.R_slice HO_23.out
        subst eo91
        go_wp2
        go_meet
        case rel => refine ⟨_, (decide (t517 < 1)), (by first | rfl | (simp; done) | (simp [*]; done)), H', ⟨by have := HJ9.out; have := HJ23.out; first | omega | exact Nat.le_refl _⟩, ⟨?_⟩, ⟨?_⟩, ⟨?_⟩, ⟨?_⟩, ⟨?_⟩, ⟨bB HB⟩⟩ <;> (with_reducible repeat (first | refine g_d ?_ _ | refine g_e ?_ | refine g_a ?_ _ | apply r_a | apply r_d | apply r_e)) <;> first | exact BK486.out | exact BK487.out | exact BK488.out | exact BK489.out | exact HO_23.out
      replace c90 := Bool.eq_false_iff.mpr c90
      subst c90
      rw [if_neg (show ¬ (false = true) by decide)] at H
      have H' := Aside0.mk H
      clear H
      obtain ⟨Ao92, co92, eo92⟩ := Kd.R_slice HO_23.out
      subst eo92
      go_wp2
      go_meet
      case rel => refine ⟨_, (false), (by first | rfl | (simp; done) | (simp [*]; done)), H', ⟨by have := HJ9.out; have := HJ23.out; first | omega | exact Nat.le_refl _⟩, ⟨?_⟩, ⟨?_⟩, ⟨?_⟩, ⟨?_⟩, ⟨?_⟩, ⟨bB HB⟩⟩ <;> (with_reducible repeat (first | refine g_d ?_ _ | refine g_e ?_ | refine g_a ?_ _ | apply r_a | apply r_d | apply r_e)) <;> first | exact BK486.out | exact BK487.out | exact BK488.out | exact BK489.out | exact HO_23.out
    clear HC63
    try clear c54
    try clear c56
    try clear hcz67_0
    try clear hcz67_1
    try clear hcz69_0
    try clear hcz69_1
    try clear hcz71_0
    try clear hcz71_1
    try clear hcz73_0
    try clear hcz73_1
    try clear hcz75_0
    try clear hcz75_1
    try clear hcz77_0
    try clear hcz77_1
    try clear hfz67_0
    try clear hfz67_1
    try clear hfz69_0
    try clear hfz69_1
    try clear hfz71_0
    try clear hfz71_1
    try clear hfz73_0
    try clear hfz73_1
    try clear hfz75_0
    try clear hfz75_1
    try clear hfz77_0
    try clear hfz77_1
    obtain ⟨kq, x254_62, rfl, HA, HJ62, HO_23, BK486, BK487, BK488, BK489, HB⟩ := hcut
    rcases kq with _ | kj62
    · exact absurd HA.out (by simp [laws_FnRingsMeetOfAll.j2])
    have H := HA.out
    clear HA
    simp only [laws_FnRingsMeetOfAll.j2] at H
    by_cases c93 : x254_62 = true
    · subst c93
      rw [if_pos rfl] at H
      rw [HRT.out] at H
      exact absurd H (by simp)
    replace c93 := Bool.eq_false_iff.mpr c93
    subst c93
    rw [if_neg (show ¬ (false = true) by decide)] at H
    have H' := Aside0.mk H
    clear H
    obtain ⟨Ao94, co94, eo94⟩ := Kd.R_slice HO_23.out
    subst eo94
    go_wp2
    go_loopg [257] kj62 (fun kq v257 w' => ∃ (x257_4 : Int), v257 = .int .i64 x257_4 ∧ Aside0 (laws_FnRingsMeetOfAll.l0 kq a1 a3 a4 a6 a8 t494 t494 (t494.length : Int) x257_4 a0_0 a0_1 a2_0 a2_1 a5_0 a5_1 a7_0 a7_1 = some r) ∧ Aside0 (kq ≤ kj62) ∧ Aside0 (Kd.R Kd.string 9 w' w.heap.size (fun _ => True) (.slice Ao94 t494.length co94) t494) ∧ Aside0 (Kd.R Kd.string 9 w' w.heap.size (fun _ => True) (.slice Ao94 t494.length co94) t494) ∧ Aside0 (w'.heap[gb486]? = some (.cells #[.int .i64 a0_0, .int .i64 a0_1] 26 (0, 0))) ∧ Aside0 (w'.heap[gb487]? = some (.cells #[.int .i64 a2_0, .int .i64 a2_1] 26 (0, 0))) ∧ Aside0 (w'.heap[gb488]? = some (.cells #[.int .i64 a5_0, .int .i64 a5_1] 26 (0, 0))) ∧ Aside0 (w'.heap[gb489]? = some (.cells #[.int .i64 a7_0, .int .i64 a7_1] 26 (0, 0))) ∧ Aside0 (Below w.heap.size w w'))
    case atStart => refine ⟨(0), (by first | rfl | (simp; done) | (simp [*]; done)), H', ⟨Nat.le_refl _⟩, ⟨?_⟩, ⟨?_⟩, ⟨?_⟩, ⟨?_⟩, ⟨?_⟩, ⟨?_⟩, ⟨bB HB⟩⟩ <;> (with_reducible repeat (first | refine g_d ?_ _ | refine g_e ?_ | refine g_a ?_ _ | apply r_a | apply r_d | apply r_e)) <;> first | exact BK486.out | exact BK487.out | exact BK488.out | exact BK489.out | exact HO_23.out
    clear H'
    try clear c93
    obtain ⟨x257_4, rfl, HA, HK4, HO_23, HO_255, BK486, BK487, BK488, BK489, HB⟩ := hrel
    rcases gk with _ | k4
    · exact absurd HA.out (by simp [laws_FnRingsMeetOfAll.l0])
    have H := HA.out
    clear HA
    simp only [laws_FnRingsMeetOfAll.l0] at H
    by_cases c95 : x257_4 < (t494.length : Int)
    rotate_left
    · rw [if_neg c95] at H
      have c95b0 : decide (x257_4 < (t494.length : Int)) = false := decide_eq_false c95
      clear c95
      have H' := Aside0.mk H
      clear H
      go_wp2
      go_meet
      case rel => refine ⟨_, H', ⟨by have := HJ9.out; have := HJ23.out; have := HJ62.out; have := HK4.out; first | omega | exact Nat.le_refl _⟩, ⟨?_⟩, ⟨?_⟩, ⟨?_⟩, ⟨?_⟩, ⟨bB HB⟩⟩ <;> (with_reducible repeat (first | refine g_d ?_ _ | refine g_e ?_ | refine g_a ?_ _)) <;> first | exact BK486.out | exact BK487.out | exact BK488.out | exact BK489.out
    rw [if_pos c95] at H
    have c95b0 : decide (x257_4 < (t494.length : Int)) = true := decide_eq_true c95
    clear c95
    by_cases c96 : 0 ≤ x257_4
    rotate_left
    · rw [if_neg c96] at H
      exact absurd H (by simp)
    rw [if_pos c96] at H
    have c96b0 : decide (0 ≤ x257_4) = true := decide_eq_true c96
    clear c96
    by_cases c97 : x257_4 < (t494.length : Int)
    rotate_left
    · rw [if_neg c97] at H
      exact absurd H (by simp)
    rw [if_pos c97] at H
    have c97b0 : decide (x257_4 < (t494.length : Int)) = true := decide_eq_true c97
    clear c97
    have HC98 := Aside0.mk H
    clear H
    have p519 : 0 ≤ (x257_4 : Int) := of_decide_eq_true (by first | (with_reducible assumption) | assumption)
    have q519 : x257_4 < (t494.length : Int) := of_decide_eq_true (by first | (with_reducible assumption) | assumption)
    obtain ⟨ad519, e519, hx519_0⟩ := Kd.at_string (Kd.R_reads' HO_255.out).2.2 x257_4 p519 q519
    cases e519
    replace p519 := eq_true p519
    replace q519 := eq_true q519
    go_upto_region 23 with (fail)
    go_cut [274] from 1 to 0 (fun v274 wc => ∃ (kq : Nat) (x274_97 : Bool), v274 = .bool x274_97 ∧ Aside0 (laws_FnRingsMeetOfAll.j4 kq a1 a3 a4 a6 a8 t494 x257_4 (rdOf ByteArray.empty t494 x257_4) t494 (t494.length : Int) x257_4 x274_97 a0_0 a0_1 a2_0 a2_1 a5_0 a5_1 a7_0 a7_1 = some r) ∧ Aside0 (kq ≤ k4) ∧ Aside0 (Kd.R Kd.string 9 wc w.heap.size (fun _ => True) (.slice (some ad519) t494.length co94) t494) ∧ Aside0 (Kd.R Kd.string 9 wc w.heap.size (fun _ => True) (.slice (some ad519) t494.length co94) t494) ∧ Aside0 (wc.heap[gb486]? = some (.cells #[.int .i64 a0_0, .int .i64 a0_1] 26 (0, 0))) ∧ Aside0 (wc.heap[gb487]? = some (.cells #[.int .i64 a2_0, .int .i64 a2_1] 26 (0, 0))) ∧ Aside0 (wc.heap[gb488]? = some (.cells #[.int .i64 a5_0, .int .i64 a5_1] 26 (0, 0))) ∧ Aside0 (wc.heap[gb489]? = some (.cells #[.int .i64 a7_0, .int .i64 a7_1] 26 (0, 0))) ∧ Aside0 (Below w.heap.size w wc))
    case first => as_aux_lemma =>
      have H := HC98.out
      clear HC98
      by_cases c99 : ((rdOf ByteArray.empty t494 x257_4).size : Int) = a0_0
      rotate_left
      · rw [if_neg c99] at H
        have c99b0 : (((rdOf ByteArray.empty t494 x257_4).size : Int) == a0_0) = false := beq_eq_false_iff_ne.mpr c99
        have c99b1 : (((rdOf ByteArray.empty t494 x257_4).size : Int) != a0_0) = true := bne_iff_ne.mpr c99
        (first | rw [c99b0] | (simp only [i64_w, i32_w]; rw [c99b0]) | skip)
        rw [HRT.out] at H
        exact absurd H (by generalize k4 = q_; cases q_ <;> simp [laws_FnRingsMeetOfAll.j4])
      rw [if_pos c99] at H
      have c99b0 : (((rdOf ByteArray.empty t494 x257_4).size : Int) == a0_0) = true := beq_iff_eq.mpr c99
      have c99b1 : (((rdOf ByteArray.empty t494 x257_4).size : Int) != a0_0) = false := bne_eq_false_iff_eq.mpr c99
      clear c99
      (first | rw [c99b0] | (simp only [i64_w, i32_w]; rw [c99b0]) | skip)
      by_cases c100 : 0 < ((rdOf ByteArray.empty t494 x257_4).size : Int)
      rotate_left
      · rw [if_neg c100] at H
        exact absurd H (by simp)
      rw [if_pos c100] at H
      have c100b0 : decide (0 < ((rdOf ByteArray.empty t494 x257_4).size : Int)) = true := decide_eq_true c100
      have c100b1 : decide (0 < (rdOf ByteArray.empty t494 x257_4).size) = true := decide_eq_true (by omega)
      clear c100
      by_cases c102 : x257_4 < (a1.size : Int)
      rotate_left
      · rw [if_neg c102] at H
        exact absurd H (by simp)
      rw [if_pos c102] at H
      have c102b0 : decide (x257_4 < (a1.size : Int)) = true := decide_eq_true c102
      clear c102
      have H' := Aside0.mk H
      clear H
      try go_wp2
      have n0_ := Aside0.mk (r_e HO_23.out)
      have n1_ := Aside0.mk (r_e HO_255.out)
      have n2_ := Aside0.mk (g_e BK486.out)
      have n3_ := Aside0.mk (g_e BK487.out)
      have n4_ := Aside0.mk (g_e BK488.out)
      have n5_ := Aside0.mk (g_e BK489.out)
      have n6_ := Aside0.mk (b_e HB.out)
      clear HO_23
      clear HO_255
      clear BK486
      clear BK487
      clear BK488
      clear BK489
      clear HB
      have HO_23 := n0_
      have HO_255 := n1_
      have BK486 := n2_
      have BK487 := n3_
      have BK488 := n4_
      have BK489 := n5_
      have HB := n6_
      clear n0_ n1_ n2_ n3_ n4_ n5_ n6_
      have p101 : 0 ≤ (0 : Int) := (by omega)
      have q101 : 0 < (rdOf ByteArray.empty t494 x257_4).size := (by have : (0 : Int) < ((rdOf ByteArray.empty t494 x257_4).size : Int) := of_decide_eq_true (by first | (with_reducible assumption) | assumption); omega)
      have hx101 : ∀ h : 0 < (rdOf ByteArray.empty t494 x257_4).size, (((rdOf ByteArray.empty t494 x257_4)[0]'h).toNat : Int) = bt (rdOf ByteArray.empty t494 x257_4) 0 := bt_at (rdOf ByteArray.empty t494 x257_4) 0
      clear p101
      have qi101 : (0 < ((rdOf ByteArray.empty t494 x257_4).size : Int)) = True := eq_true (of_decide_eq_true (by first | (with_reducible assumption) | assumption))
      replace q101 := eq_true q101
      have p103 : 0 ≤ (x257_4 : Int) := of_decide_eq_true (by first | (with_reducible assumption) | assumption)
      have q103 : x257_4 < (a1.size : Int) := of_decide_eq_true (by first | (with_reducible assumption) | assumption)
      have hx103 := bt_at a1 x257_4
      replace p103 := eq_true p103
      replace q103 := eq_true q103
      refine start_ (n := 13) (S := fun w' => w'.cell? ⟨gb486, 0, none⟩ = some (.int .i64 a0_0) ∧ w'.cell? ⟨gb486, 1, none⟩ = some (.int .i64 a0_1)) (ds := []) (bs_ 13 0) (by kernel_rfl) rfl rfl ⟨(blk_cell BK486.out 0).trans rfl, (blk_cell BK486.out 1).trans rfl⟩ (fun hHeld => ?_); refine with_tabW laws_FnRingsMeetOfAll.tab23 laws_FnRingsMeetOfAll.bits23 (fun HT_ HW_ => ?_)
      generalize wr.drew = w104 at HO_23 HO_255 BK486 BK487 BK488 BK489 HB hHeld ⊢
      refine pua 0 262 (bs_ 13 1) HT_ ?_
      refine pua 1 263 (bs_ 13 3) HT_ ?_
      refine pua 2 264 (bs_ 13 7) HT_ ?_
      refine tk_ 3 265 (bs_ 13 15) rfl rfl HT_ HW_ (by kernel_rfl) (fun _ _ _ h => h) (by rfl) hHeld (by rintro w' ⟨s0, s1⟩; go_simp; with_reducible rfl) (by simp only [Act.put, s_1, s_2, s_3, i64_w, i32_w]; rfl) ?_
      refine pua 4 266 (bs_ 13 31) HT_ ?_
      refine pua 5 267 (bs_ 13 63) HT_ ?_
      refine pua 6 268 (bs_ 13 127) HT_ ?_
      refine pua 8 270 (bs_ 13 383) HT_ ?_
      refine pua 9 271 (bs_ 13 895) HT_ ?_
      refine tk_ 7 269 (bs_ 13 1023) rfl rfl HT_ HW_ (by kernel_rfl) (fun _ _ _ h => h) (by rfl) hHeld (by rintro w' ⟨s0, s1⟩; go_simp; with_reducible rfl) (by simp only [Act.put, s_1, s_2, s_3, i64_w, i32_w]; rfl) ?_
      refine tk_ 10 272 (bs_ 13 2047) rfl rfl HT_ HW_ (by kernel_rfl) (fun _ _ _ h => h) (by rfl) hHeld (by rintro w' ⟨s0, s1⟩; go_simp; with_reducible rfl) (by simp only [Act.put, s_1, s_2, s_3, i64_w, i32_w]; rfl) ?_
      refine pua 11 273 (bs_ 13 4095) HT_ ?_
      refine pua 12 274 (bs_ 13 8191) HT_ ?_
      refine done_ (done_of HT_.out (by kernel_rfl)) ?_
      try go_wp2
      go_meet
      case rel => refine ⟨_, (((bt (rdOf ByteArray.empty t494 x257_4) 0) != (bt a1 x257_4))), (by first | rfl | (simp; done) | (simp [*]; done)), H', ⟨by have := HJ9.out; have := HJ23.out; have := HJ62.out; have := HK4.out; first | omega | exact Nat.le_refl _⟩, ⟨?_⟩, ⟨?_⟩, ⟨?_⟩, ⟨?_⟩, ⟨?_⟩, ⟨?_⟩, ⟨bB HB⟩⟩ <;> (with_reducible repeat (first | refine g_d ?_ _ | refine g_e ?_ | refine g_a ?_ _ | apply r_a | apply r_d | apply r_e)) <;> first | exact BK486.out | exact BK487.out | exact BK488.out | exact BK489.out | exact HO_23.out | exact HO_255.out
    clear HC98
    try clear c95
    try clear c95b0
    try clear c96
    try clear c96b0
    try clear c97
    try clear c97b0
    try clear hx519_0
    try clear p519
    try clear q519
    obtain ⟨kq, x274_97, rfl, HA, HJ97, HO_23, HO_255, BK486, BK487, BK488, BK489, HB⟩ := hcut
    rcases kq with _ | kj97
    · exact absurd HA.out (by simp [laws_FnRingsMeetOfAll.j4])
    have H := HA.out
    clear HA
    simp only [laws_FnRingsMeetOfAll.j4] at H
    by_cases c105 : x274_97 = true
    · subst c105
      rw [if_pos rfl] at H
      rw [HRT.out] at H
      exact absurd H (by simp)
    replace c105 := Bool.eq_false_iff.mpr c105
    subst c105
    rw [if_neg (show ¬ (false = true) by decide)] at H
    by_cases c106 : x257_4 < 8
    rotate_left
    · rw [if_neg c106] at H
      have c106b0 : decide (x257_4 < 8) = false := decide_eq_false c106
      clear c106
      have H' := Aside0.mk H
      clear H
      go_wp2
      go_roundg kj97
      case measure => have := HJ9.out; have := HJ23.out; have := HJ62.out; have := HK4.out; have := HJ97.out; omega
      case rel => refine ⟨(wrap64 (x257_4 + 1)), (by first | rfl | (simp; done) | (simp [*]; done)), H', ⟨by have := HJ9.out; have := HJ23.out; have := HJ62.out; have := HK4.out; have := HJ97.out; omega⟩, ⟨?_⟩, ⟨?_⟩, ⟨?_⟩, ⟨?_⟩, ⟨?_⟩, ⟨?_⟩, ⟨bB HB⟩⟩ <;> (with_reducible repeat (first | refine g_d ?_ _ | refine g_e ?_ | refine g_a ?_ _ | apply r_a | apply r_d | apply r_e)) <;> first | exact BK486.out | exact BK487.out | exact BK488.out | exact BK489.out | exact HO_23.out | exact HO_255.out
    rw [if_pos c106] at H
    have c106b0 : decide (x257_4 < 8) = true := decide_eq_true c106
    clear c106
    obtain ⟨ji107, hji107⟩ : ∃ j_ : Int, (wrap64 (x257_4 + 1)) = j_ := ⟨_, rfl⟩
    replace H : (if 0 ≤ (ji107) then (if (ji107) ≤ (t494.length : Int) then ((some (t494.drop ((ji107) : Int).toNat : List ByteArray)).bind fun y520 => (laws_FnRingsMeetOfAll.l1 kj97 a1 a3 a4 a6 a8 t494 (rdOf ByteArray.empty t494 x257_4) t494 (t494.length : Int) x257_4 y520 (y520.length : Int) 0 a0_0 a0_1 a2_0 a2_1 a5_0 a5_1 a7_0 a7_1)) else (none)) else (none)) = some r := by first | (rw [hji107] at H; exact H) | (simp only [hji107] at H ⊢; exact H)
    have hji107w : (IntKind.i64.wrap (x257_4 + 1)) = ji107 := (i64_w _).trans hji107
    by_cases c108 : 0 ≤ (ji107)
    rotate_left
    · rw [if_neg c108] at H
      exact absurd H (by simp)
    rw [if_pos c108] at H
    have c108b0 := eq_true c108
    have c108b1 : decide (0 ≤ (ji107)) = true := decide_eq_true c108
    clear c108
    by_cases c109 : (ji107) ≤ (t494.length : Int)
    rotate_left
    · rw [if_neg c109] at H
      exact absurd H (by simp)
    rw [if_pos c109] at H
    have c109b0 := eq_true c109
    have c109b1 : decide ((ji107) ≤ (t494.length : Int)) = true := decide_eq_true c109
    clear c109
    obtain ⟨y520, hy520⟩ : ∃ y_ : List ByteArray, y_ = (t494.drop ((ji107) : Int).toNat) := ⟨_, rfl⟩
    replace H : (laws_FnRingsMeetOfAll.l1 kj97 a1 a3 a4 a6 a8 t494 (rdOf ByteArray.empty t494 x257_4) t494 (t494.length : Int) x257_4 y520 (y520.length : Int) 0 a0_0 a0_1 a2_0 a2_1 a5_0 a5_1 a7_0 a7_1) = some r := by first | (rw [hy520]; with_reducible exact H) | (have H2_ := (Option.bind_some _ _).symm.trans H; rw [hy520]; with_reducible exact H2_) | (have H2_ := (Option.bind_some _ _).symm.trans H; with_reducible exact H2_) | with_reducible exact H | (rw [hy520]; exact H) | exact H
    have Ny520 := Aside0.mk hy520
    clear hy520
    have H' := Aside0.mk H
    clear H
    have q110 : ((ji107) : Int) ≤ ((t494.length : Int) : Int) := of_decide_eq_true (by first | (with_reducible assumption) | assumption)
    obtain ⟨i0110, hi0110, _, hsz110, _⟩ := info_parts info9
    have hroom110 : t494.length ≤ co94 := (Kd.R_reads' HO_23.out).2.1
    have hC110 : Kd.C Kd.string _ (some ad519) t494.length t494 := (Kd.R_reads' HO_23.out).2.2
    have q0110 : (0 : Int) ≤ ((ji107) : Int) := of_decide_eq_true (by first | (with_reducible assumption) | assumption)
    have hcut110 := cut_from (P := Try.prog) 31 9 .i64 Try.underlying31 hi0110 1 hsz110 (some ad519) t494.length co94 (ji107) q0110 q110
    have hr110 := Kd.C_drop (m := ((ji107) : Int).toNat) (c := co94) hC110 (by omega) hroom110
    obtain ⟨A110, hA110⟩ : ∃ A1, A1 = (if co94 = ((ji107) : Int).toNat then (some ad519) else ((some ad519) : Option Addr).map (·.add (((ji107) : Int).toNat * 1))) := ⟨_, rfl⟩
    obtain ⟨c110, hc110⟩ : ∃ c1, c1 = co94 - ((ji107) : Int).toNat := ⟨_, rfl⟩
    have hy110 : y520.length = t494.length - ((ji107) : Int).toNat := (by rw [Ny520.out, m_4] <;> omega)
    rw [show (t494).drop ((ji107) : Int).toNat = y520 from Ny520.out.symm] at hr110
    replace hr110 : Kd.C Kd.string _ A110 y520.length y520 := (by rw [hA110]; exact hr110)
    rw [← hy110, ← hA110, ← hc110] at hcut110
    have HR523 := Aside0.mk hr110
    have HC523 := Aside0.mk (show y520.length ≤ c110 from by rw [hy110, hc110]; exact Nat.sub_le_sub_right hroom110 _)
    clear hr110 hC110 hroom110 hi0110 hsz110 hc110
    have KY110 := Aside0.mk hy110
    have KA110 := Aside0.mk hA110
    clear hy110 hA110
    have KL110 := Aside0.mk (show ((ji107) : Int).toNat ≤ t494.length from by omega)
    replace q110 := eq_true q110
    go_wp2
    go_loopg [282] kj97 (fun kq v282 w' => ∃ (x282_6 : Int), v282 = .int .i64 x282_6 ∧ Aside0 (laws_FnRingsMeetOfAll.l1 kq a1 a3 a4 a6 a8 t494 (rdOf ByteArray.empty t494 x257_4) t494 (t494.length : Int) x257_4 y520 (y520.length : Int) x282_6 a0_0 a0_1 a2_0 a2_1 a5_0 a5_1 a7_0 a7_1 = some r) ∧ Aside0 (kq ≤ kj97) ∧ Aside0 (Kd.R Kd.string 9 w' w.heap.size (fun _ => True) (.slice (some ad519) t494.length co94) t494) ∧ Aside0 (Kd.R Kd.string 9 w' w.heap.size (fun _ => True) (.slice (some ad519) t494.length co94) t494) ∧ Aside0 (w'.heap[gb486]? = some (.cells #[.int .i64 a0_0, .int .i64 a0_1] 26 (0, 0))) ∧ Aside0 (w'.heap[gb487]? = some (.cells #[.int .i64 a2_0, .int .i64 a2_1] 26 (0, 0))) ∧ Aside0 (w'.heap[gb488]? = some (.cells #[.int .i64 a5_0, .int .i64 a5_1] 26 (0, 0))) ∧ Aside0 (w'.heap[gb489]? = some (.cells #[.int .i64 a7_0, .int .i64 a7_1] 26 (0, 0))) ∧ Aside0 (Kd.C Kd.string w' A110 y520.length y520) ∧ Aside0 (Below w.heap.size w w'))
    case atStart => refine ⟨(0), (by first | rfl | (simp; done) | (simp [*]; done)), H', ⟨Nat.le_refl _⟩, ⟨?_⟩, ⟨?_⟩, ⟨?_⟩, ⟨?_⟩, ⟨?_⟩, ⟨?_⟩, ⟨by repeat (first | (with_reducible exact HR523.out) | (with_reducible refine Kd.C_alloc ?_ _) | (with_reducible refine Kd.C_drewN ?_ _) | (with_reducible refine Kd.C_drew ?_) | exact HR523.out)⟩, ⟨bB HB⟩⟩ <;> (with_reducible repeat (first | refine g_d ?_ _ | refine g_e ?_ | refine g_a ?_ _ | apply r_a | apply r_d | apply r_e)) <;> first | exact BK486.out | exact BK487.out | exact BK488.out | exact BK489.out | exact HO_23.out | exact HO_255.out
    clear H'
    try clear c1
    try clear c105
    try clear c106
    try clear c106b0
    try clear c108
    try clear c108b0
    try clear c108b1
    try clear c109
    try clear c109b0
    try clear c109b1
    try clear c110
    try clear q110
    try clear q0110
    obtain ⟨x282_6, rfl, HA, HK6, HO_23, HO_255, BK486, BK487, BK488, BK489, HR523, HB⟩ := hrel
    rcases gk with _ | k6
    · exact absurd HA.out (by simp [laws_FnRingsMeetOfAll.l1])
    have H := HA.out
    clear HA
    simp only [laws_FnRingsMeetOfAll.l1] at H
    by_cases c111 : x282_6 < (y520.length : Int)
    rotate_left
    · rw [if_neg c111] at H
      have c111b0 : decide (x282_6 < (y520.length : Int)) = false := decide_eq_false c111
      clear c111
      have H' := Aside0.mk H
      clear H
      go_wp2
      go_roundg k6
      case measure => have := HJ9.out; have := HJ23.out; have := HJ62.out; have := HK4.out; have := HJ97.out; have := HK6.out; omega
      case rel => refine ⟨(wrap64 (x257_4 + 1)), (by first | rfl | (simp; done) | (simp [*]; done)), H', ⟨by have := HJ9.out; have := HJ23.out; have := HJ62.out; have := HK4.out; have := HJ97.out; have := HK6.out; omega⟩, ⟨?_⟩, ⟨?_⟩, ⟨?_⟩, ⟨?_⟩, ⟨?_⟩, ⟨?_⟩, ⟨bB HB⟩⟩ <;> (with_reducible repeat (first | refine g_d ?_ _ | refine g_e ?_ | refine g_a ?_ _ | apply r_a | apply r_d | apply r_e)) <;> first | exact BK486.out | exact BK487.out | exact BK488.out | exact BK489.out | exact HO_23.out | exact HO_255.out
    rw [if_pos c111] at H
    have c111b0 : decide (x282_6 < (y520.length : Int)) = true := decide_eq_true c111
    clear c111
    by_cases c112 : 0 ≤ x282_6
    rotate_left
    · rw [if_neg c112] at H
      exact absurd H (by simp)
    rw [if_pos c112] at H
    have c112b0 : decide (0 ≤ x282_6) = true := decide_eq_true c112
    clear c112
    by_cases c113 : x282_6 < (y520.length : Int)
    rotate_left
    · rw [if_neg c113] at H
      exact absurd H (by simp)
    rw [if_pos c113] at H
    have c113b0 : decide (x282_6 < (y520.length : Int)) = true := decide_eq_true c113
    clear c113
    by_cases c114 : (rdOf ByteArray.empty y520 x282_6).toList = (rdOf ByteArray.empty t494 x257_4).toList
    · rw [if_pos c114] at H
      have c114b0 : ((rdOf ByteArray.empty y520 x282_6).toList == (rdOf ByteArray.empty t494 x257_4).toList) = true := beq_iff_eq.mpr c114
      have c114b1 : ((rdOf ByteArray.empty y520 x282_6).toList != (rdOf ByteArray.empty t494 x257_4).toList) = false := bne_eq_false_iff_eq.mpr c114
      clear c114
      rw [HRT.out] at H
      exact absurd H (by simp)
    rw [if_neg c114] at H
    have c114b0 : ((rdOf ByteArray.empty y520 x282_6).toList == (rdOf ByteArray.empty t494 x257_4).toList) = false := beq_eq_false_iff_ne.mpr c114
    have c114b1 : ((rdOf ByteArray.empty y520 x282_6).toList != (rdOf ByteArray.empty t494 x257_4).toList) = true := bne_iff_ne.mpr c114
    have H' := Aside0.mk H
    clear H
    have p524 : 0 ≤ (x282_6 : Int) := of_decide_eq_true (by first | (with_reducible assumption) | assumption)
    have q524 : x282_6 < (y520.length : Int) := of_decide_eq_true (by first | (with_reducible assumption) | assumption)
    obtain ⟨ad524, e524, hx524_0⟩ := Kd.at_string HR523.out x282_6 p524 q524
    cases e524
    (try replace hx524_0 := (HB.out.cell (World.block_lt_of_cell? w _ hx524_0)).trans hx524_0)
    replace p524 := eq_true p524
    replace q524 := eq_true q524
    go_wp2
    go_roundg k6
    case measure => have := HJ9.out; have := HJ23.out; have := HJ62.out; have := HK4.out; have := HJ97.out; have := HK6.out; omega
    case rel => refine ⟨(wrap64 (x282_6 + 1)), (by first | rfl | (simp; done) | (simp [*]; done)), H', ⟨by have := HJ9.out; have := HJ23.out; have := HJ62.out; have := HK4.out; have := HJ97.out; have := HK6.out; omega⟩, ⟨?_⟩, ⟨?_⟩, ⟨?_⟩, ⟨?_⟩, ⟨?_⟩, ⟨?_⟩, ⟨by repeat (first | (with_reducible exact HR523.out) | (with_reducible refine Kd.C_alloc ?_ _) | (with_reducible refine Kd.C_drewN ?_ _) | (with_reducible refine Kd.C_drew ?_) | exact HR523.out)⟩, ⟨bB HB⟩⟩ <;> (with_reducible repeat (first | refine g_d ?_ _ | refine g_e ?_ | refine g_a ?_ _ | apply r_a | apply r_d | apply r_e)) <;> first | exact BK486.out | exact BK487.out | exact BK488.out | exact BK489.out | exact HO_23.out | exact HO_255.out
  clear HC55
  obtain ⟨kq, HA, HJ54, BK486, BK487, BK488, BK489, HB⟩ := hcut
  rcases kq with _ | kj54
  · exact absurd HA.out (by simp [laws_FnRingsMeetOfAll.j6])
  have H := HA.out
  clear HA
  simp only [laws_FnRingsMeetOfAll.j6] at H
  replace H := Option.bind_eq_some_iff.mp H
  obtain ⟨⟨t525, t526⟩, A1150, H⟩ := H
  try dsimp only at H
  have A115 := Aside0.mk A1150
  clear A1150
  replace H := Option.bind_eq_some_iff.mp H
  obtain ⟨⟨t527, t528⟩, A1160, H⟩ := H
  try dsimp only at H
  have A116 := Aside0.mk A1160
  clear A1160
  replace H := Option.bind_eq_some_iff.mp H
  obtain ⟨⟨t529, t530⟩, A1170, H⟩ := H
  try dsimp only at H
  have A117 := Aside0.mk A1170
  clear A1170
  replace H := Option.bind_eq_some_iff.mp H
  obtain ⟨⟨t531, t532⟩, A1180, H⟩ := H
  try dsimp only at H
  have A118 := Aside0.mk A1180
  clear A1180
  replace H := Option.bind_eq_some_iff.mp H
  obtain ⟨⟨t533, t534⟩, A1190, H⟩ := H
  try dsimp only at H
  have A119 := Aside0.mk A1190
  clear A1190
  replace H := Option.bind_eq_some_iff.mp H
  obtain ⟨⟨t535, t536⟩, A1200, H⟩ := H
  try dsimp only at H
  have A120 := Aside0.mk A1200
  clear A1200
  replace H := Option.bind_eq_some_iff.mp H
  obtain ⟨⟨t537, t538⟩, A1210, H⟩ := H
  try dsimp only at H
  have A121 := Aside0.mk A1210
  clear A1210
  replace H := Option.bind_eq_some_iff.mp H
  obtain ⟨⟨t539, t540⟩, A1220, H⟩ := H
  try dsimp only at H
  have A122 := Aside0.mk A1220
  clear A1220
  have HC123 := Aside0.mk H
  clear H
  have hnb124 := eq_false NB487_486.out
  have hnc124 := eq_false NB486_487.out
  have hnb125 := eq_false NB487_488.out
  have hnc125 := eq_false NB488_487.out
  have hnb126 := eq_false NB487_489.out
  have hnc126 := eq_false NB489_487.out
  have hcz127_0 := cz0 BK487
  have hcz127_1 := cz1 BK487
  have hfz127_0 := blk_frozen BK487.out 0
  have hfz127_1 := blk_frozen BK487.out 1
  go_upto_region 41 with (first | ((with_reducible refine gate_callee (f := 19) rfl ?_); refine goesL_ (some 295) rfl rfl Try.func19 (by kernel_rfl) rfl #[.agg #[.int .i64 a2_0, .int .i64 a2_1], .string a3, .int .i64 a4] rfl (by (try simp only [m_1, m_2, m_3]); first | done | rfl | (simp only [m_4, m_5]; rfl)) ?_; (with_reducible refine (impl_TurnedRing.calls kj54 a2_0 a2_1 a3 a4 t525 t526 _ A115.out).mono ?_); rintro e w128 ⟨rfl, hb⟩; refine ⟨_, rfl, ?_⟩; replace BK486 := bbx hb BK486; replace BK487 := bbx hb BK487; replace BK488 := bbx hb BK488; replace BK489 := bbx hb BK489; replace HB := bsx hb HB; skip; (try clear hb); (try clear hb2); (try clear hk); (try clear hi); have hcz129_0 := cz0 BK487; have hcz129_1 := cz1 BK487; have hfz129_0 := blk_frozen BK487.out 0; have hfz129_1 := blk_frozen BK487.out 1) | ((with_reducible refine gate_callee (f := 20) rfl ?_); refine goesL_ (some 302) rfl rfl Try.func20 (by kernel_rfl) rfl #[.agg #[.int .i64 a2_0, .int .i64 a2_1], .string a3, .int .i64 a4] rfl (by (try simp only [m_1, m_2, m_3]); first | done | rfl | (simp only [m_4, m_5]; rfl)) ?_; (with_reducible refine (spec_TurnedRing.calls kj54 a2_0 a2_1 a3 a4 t527 t528 _ A116.out).mono ?_); rintro e w130 ⟨rfl, hb⟩; refine ⟨_, rfl, ?_⟩; replace BK486 := bbx hb BK486; replace BK487 := bbx hb BK487; replace BK488 := bbx hb BK488; replace BK489 := bbx hb BK489; replace HB := bsx hb HB; skip; (try clear hb); (try clear hb2); (try clear hk); (try clear hi); have hcz131_0 := cz0 BK487; have hcz131_1 := cz1 BK487; have hfz131_0 := blk_frozen BK487.out 0; have hfz131_1 := blk_frozen BK487.out 1) | ((with_reducible refine gate_callee (f := 21) rfl ?_); refine goesL_ (some 309) rfl rfl Try.func21 (by kernel_rfl) rfl #[.agg #[.int .i64 a2_0, .int .i64 a2_1], .string a3, .int .i64 a4] rfl (by (try simp only [m_1, m_2, m_3]); first | done | rfl | (simp only [m_4, m_5]; rfl)) ?_; (with_reducible refine (impl_RaisedRing.calls kj54 a2_0 a2_1 a3 a4 t529 t530 _ A117.out).mono ?_); rintro e w132 ⟨rfl, hb⟩; refine ⟨_, rfl, ?_⟩; replace BK486 := bbx hb BK486; replace BK487 := bbx hb BK487; replace BK488 := bbx hb BK488; replace BK489 := bbx hb BK489; replace HB := bsx hb HB; skip; (try clear hb); (try clear hb2); (try clear hk); (try clear hi); have hcz133_0 := cz0 BK487; have hcz133_1 := cz1 BK487; have hfz133_0 := blk_frozen BK487.out 0; have hfz133_1 := blk_frozen BK487.out 1) | ((with_reducible refine gate_callee (f := 22) rfl ?_); refine goesL_ (some 316) rfl rfl Try.func22 (by kernel_rfl) rfl #[.agg #[.int .i64 a2_0, .int .i64 a2_1], .string a3, .int .i64 a4] rfl (by (try simp only [m_1, m_2, m_3]); first | done | rfl | (simp only [m_4, m_5]; rfl)) ?_; (with_reducible refine (spec_RaisedRing.calls kj54 a2_0 a2_1 a3 a4 t531 t532 _ A118.out).mono ?_); rintro e w134 ⟨rfl, hb⟩; refine ⟨_, rfl, ?_⟩; replace BK486 := bbx hb BK486; replace BK487 := bbx hb BK487; replace BK488 := bbx hb BK488; replace BK489 := bbx hb BK489; replace HB := bsx hb HB; skip; (try clear hb); (try clear hb2); (try clear hk); (try clear hi); have hnb135 := eq_false NB488_486.out; have hnc135 := eq_false NB486_488.out; have hnb136 := eq_false NB488_489.out; have hnc136 := eq_false NB489_488.out; have hcz137_0 := cz0 BK488; have hcz137_1 := cz1 BK488; have hfz137_0 := blk_frozen BK488.out 0; have hfz137_1 := blk_frozen BK488.out 1) | ((with_reducible refine gate_callee (f := 7) rfl ?_); refine goesL_ (some 322) rfl rfl Try.func7 (by kernel_rfl) rfl #[.agg #[.int .i64 a5_0, .int .i64 a5_1], .string a6] rfl (by (try simp only [m_1, m_2, m_3]); first | done | rfl | (simp only [m_4, m_5]; rfl)) ?_; (with_reducible refine (impl_PlaceInRing.calls kj54 a5_0 a5_1 a6 t533 t534 _ (strings_Index.gl_below HG.out (bB HB)) A119.out).mono ?_); rintro e w138 ⟨rfl, hb⟩; refine ⟨_, rfl, ?_⟩; replace BK486 := bbx hb BK486; replace BK487 := bbx hb BK487; replace BK488 := bbx hb BK488; replace BK489 := bbx hb BK489; replace HB := bsx hb HB; skip; (try clear hb); (try clear hb2); (try clear hk); (try clear hi); have hcz139_0 := cz0 BK488; have hcz139_1 := cz1 BK488; have hfz139_0 := blk_frozen BK488.out 0; have hfz139_1 := blk_frozen BK488.out 1) | ((with_reducible refine gate_callee (f := 5) rfl ?_); refine goesL_ (some 328) rfl rfl Try.func5 (by kernel_rfl) rfl #[.agg #[.int .i64 a5_0, .int .i64 a5_1], .string a6] rfl (by (try simp only [m_1, m_2, m_3]); first | done | rfl | (simp only [m_4, m_5]; rfl)) ?_; (with_reducible refine (spec_PlaceInRing.calls kj54 a5_0 a5_1 a6 t535 t536 _ A120.out).mono ?_); rintro e w140 ⟨rfl, hb⟩; refine ⟨_, rfl, ?_⟩; replace BK486 := bbx hb BK486; replace BK487 := bbx hb BK487; replace BK488 := bbx hb BK488; replace BK489 := bbx hb BK489; replace HB := bsx hb HB; skip; (try clear hb); (try clear hb2); (try clear hk); (try clear hi); have hnb141 := eq_false NB489_486.out; have hnc141 := eq_false NB486_489.out; have hcz142_0 := cz0 BK489; have hcz142_1 := cz1 BK489; have hfz142_0 := blk_frozen BK489.out 0; have hfz142_1 := blk_frozen BK489.out 1) | ((with_reducible refine gate_callee (f := 23) rfl ?_); refine goesL_ (some 334) rfl rfl Try.func23 (by kernel_rfl) rfl #[.agg #[.int .i64 a7_0, .int .i64 a7_1], .int .i64 a8] rfl (by (try simp only [m_1, m_2, m_3]); first | done | rfl | (simp only [m_4, m_5]; rfl)) ?_; (with_reducible refine (impl_CodeAtPlace.calls kj54 a7_0 a7_1 a8 t537 t538 _ A121.out).mono ?_); rintro e w143 ⟨rfl, hb⟩; refine ⟨_, rfl, ?_⟩; replace BK486 := bbx hb BK486; replace BK487 := bbx hb BK487; replace BK488 := bbx hb BK488; replace BK489 := bbx hb BK489; replace HB := bsx hb HB; skip; (try clear hb); (try clear hb2); (try clear hk); (try clear hi); have hcz144_0 := cz0 BK489; have hcz144_1 := cz1 BK489; have hfz144_0 := blk_frozen BK489.out 0; have hfz144_1 := blk_frozen BK489.out 1) | ((with_reducible refine gate_callee (f := 24) rfl ?_); refine goesL_ (some 340) rfl rfl Try.func24 (by kernel_rfl) rfl #[.agg #[.int .i64 a7_0, .int .i64 a7_1], .int .i64 a8] rfl (by (try simp only [m_1, m_2, m_3]); first | done | rfl | (simp only [m_4, m_5]; rfl)) ?_; (with_reducible refine (spec_CodeAtPlace.calls kj54 a7_0 a7_1 a8 t539 t540 _ A122.out).mono ?_); rintro e w145 ⟨rfl, hb⟩; refine ⟨_, rfl, ?_⟩; replace BK486 := bbx hb BK486; replace BK487 := bbx hb BK487; replace BK488 := bbx hb BK488; replace BK489 := bbx hb BK489; replace HB := bsx hb HB; skip; (try clear hb); (try clear hb2); (try clear hk); (try clear hi)))
  (try simp only [Act.put, s_1, s_2, s_3])
  go_cut [380] from 1 to 0 (fun v380 wc => ∃ (kq : Nat) (x380_122 : Bool), v380 = .bool x380_122 ∧ Aside0 (laws_FnRingsMeetOfAll.j7 kq a3 a4 a6 a8 t525 t526 t529 t530 t533 t534 t537 t538 x380_122 a2_0 a2_1 a5_0 a5_1 a7_0 a7_1 = some r) ∧ Aside0 (kq ≤ kj54) ∧ Aside0 (wc.heap[gb486]? = some (.cells #[.int .i64 a0_0, .int .i64 a0_1] 26 (0, 0))) ∧ Aside0 (wc.heap[gb487]? = some (.cells #[.int .i64 a2_0, .int .i64 a2_1] 26 (0, 0))) ∧ Aside0 (wc.heap[gb488]? = some (.cells #[.int .i64 a5_0, .int .i64 a5_1] 26 (0, 0))) ∧ Aside0 (wc.heap[gb489]? = some (.cells #[.int .i64 a7_0, .int .i64 a7_1] 26 (0, 0))) ∧ Aside0 (Below w.heap.size w wc))
  case first => as_aux_lemma =>
    have H := HC123.out
    clear HC123
    by_cases c146 : (t526 != t528) = true
    · rw [if_pos c146] at H
      have c146b0 : (t526 != t528) = true := c146
      (try (have c146b1 : decide (t526 = t528) = false := by simpa using c146))
      (try (have c146b2 : (t526 == t528) = false := by simpa using c146))
      (try (have c146b3 : ¬ (t526 = t528) := by simpa using c146))
      clear c146
      (first | rw [c146b0] | (simp only [i64_w, i32_w]; rw [c146b0]) | skip)
      rw [HRT.out] at H
      exact absurd H (by generalize kj54 = q_; cases q_ <;> simp [laws_FnRingsMeetOfAll.j7])
    rw [if_neg c146] at H
    have c146b0 : (t526 != t528) = false := by simpa using c146
    (try (have c146b1 : decide (t526 = t528) = true := by simpa using c146))
    (try (have c146b2 : (t526 == t528) = true := by simpa using c146))
    clear c146
    (first | rw [c146b0] | (simp only [i64_w, i32_w]; rw [c146b0]) | skip)
    by_cases c147 : t525.toList = t527.toList
    rotate_left
    · rw [if_neg c147] at H
      have c147b0 : (t525.toList == t527.toList) = false := beq_eq_false_iff_ne.mpr c147
      have c147b1 : (t525.toList != t527.toList) = true := bne_iff_ne.mpr c147
      rw [HRT.out] at H
      exact absurd H (by generalize kj54 = q_; cases q_ <;> simp [laws_FnRingsMeetOfAll.j7])
    rw [if_pos c147] at H
    have c147b0 : (t525.toList == t527.toList) = true := beq_iff_eq.mpr c147
    have c147b1 : (t525.toList != t527.toList) = false := bne_eq_false_iff_eq.mpr c147
    clear c147
    by_cases c148 : (t530 != t532) = true
    · rw [if_pos c148] at H
      have c148b0 : (t530 != t532) = true := c148
      (try (have c148b1 : decide (t530 = t532) = false := by simpa using c148))
      (try (have c148b2 : (t530 == t532) = false := by simpa using c148))
      (try (have c148b3 : ¬ (t530 = t532) := by simpa using c148))
      clear c148
      rw [HRT.out] at H
      exact absurd H (by generalize kj54 = q_; cases q_ <;> simp [laws_FnRingsMeetOfAll.j7])
    rw [if_neg c148] at H
    have c148b0 : (t530 != t532) = false := by simpa using c148
    (try (have c148b1 : decide (t530 = t532) = true := by simpa using c148))
    (try (have c148b2 : (t530 == t532) = true := by simpa using c148))
    clear c148
    by_cases c149 : t529.toList = t531.toList
    rotate_left
    · rw [if_neg c149] at H
      have c149b0 : (t529.toList == t531.toList) = false := beq_eq_false_iff_ne.mpr c149
      have c149b1 : (t529.toList != t531.toList) = true := bne_iff_ne.mpr c149
      rw [HRT.out] at H
      exact absurd H (by generalize kj54 = q_; cases q_ <;> simp [laws_FnRingsMeetOfAll.j7])
    rw [if_pos c149] at H
    have c149b0 : (t529.toList == t531.toList) = true := beq_iff_eq.mpr c149
    have c149b1 : (t529.toList != t531.toList) = false := bne_eq_false_iff_eq.mpr c149
    clear c149
    by_cases c150 : (t534 != t536) = true
    · rw [if_pos c150] at H
      have c150b0 : (t534 != t536) = true := c150
      (try (have c150b1 : decide (t534 = t536) = false := by simpa using c150))
      (try (have c150b2 : (t534 == t536) = false := by simpa using c150))
      (try (have c150b3 : ¬ (t534 = t536) := by simpa using c150))
      clear c150
      rw [HRT.out] at H
      exact absurd H (by generalize kj54 = q_; cases q_ <;> simp [laws_FnRingsMeetOfAll.j7])
    rw [if_neg c150] at H
    have c150b0 : (t534 != t536) = false := by simpa using c150
    (try (have c150b1 : decide (t534 = t536) = true := by simpa using c150))
    (try (have c150b2 : (t534 == t536) = true := by simpa using c150))
    clear c150
    by_cases c151 : t533 = t535
    rotate_left
    · rw [if_neg c151] at H
      have c151b0 : (t533 == t535) = false := beq_eq_false_iff_ne.mpr c151
      have c151b1 : (t533 != t535) = true := bne_iff_ne.mpr c151
      rw [HRT.out] at H
      exact absurd H (by generalize kj54 = q_; cases q_ <;> simp [laws_FnRingsMeetOfAll.j7])
    rw [if_pos c151] at H
    have c151b0 : (t533 == t535) = true := beq_iff_eq.mpr c151
    have c151b1 : (t533 != t535) = false := bne_eq_false_iff_eq.mpr c151
    clear c151
    by_cases c152 : (t538 != t540) = true
    · rw [if_pos c152] at H
      have c152b0 : (t538 != t540) = true := c152
      (try (have c152b1 : decide (t538 = t540) = false := by simpa using c152))
      (try (have c152b2 : (t538 == t540) = false := by simpa using c152))
      (try (have c152b3 : ¬ (t538 = t540) := by simpa using c152))
      clear c152
      rw [HRT.out] at H
      exact absurd H (by generalize kj54 = q_; cases q_ <;> simp [laws_FnRingsMeetOfAll.j7])
    rw [if_neg c152] at H
    have c152b0 : (t538 != t540) = false := by simpa using c152
    (try (have c152b1 : decide (t538 = t540) = true := by simpa using c152))
    (try (have c152b2 : (t538 == t540) = true := by simpa using c152))
    clear c152
    have H' := Aside0.mk H
    clear H
    go_wp2
    go_meet
    case rel => refine ⟨_, ((t537.toList != t539.toList)), (by first | rfl | (simp; done) | (simp [*]; done)), H', ⟨by have := HJ9.out; have := HJ23.out; have := HJ54.out; first | omega | exact Nat.le_refl _⟩, ⟨?_⟩, ⟨?_⟩, ⟨?_⟩, ⟨?_⟩, ⟨bB HB⟩⟩ <;> (with_reducible repeat (first | refine g_d ?_ _ | refine g_e ?_ | refine g_a ?_ _)) <;> first | exact BK486.out | exact BK487.out | exact BK488.out | exact BK489.out
  clear HC123
  try clear hcz127_0
  try clear hcz127_1
  try clear hcz129_0
  try clear hcz129_1
  try clear hcz131_0
  try clear hcz131_1
  try clear hcz133_0
  try clear hcz133_1
  try clear hcz137_0
  try clear hcz137_1
  try clear hcz139_0
  try clear hcz139_1
  try clear hcz142_0
  try clear hcz142_1
  try clear hcz144_0
  try clear hcz144_1
  try clear hfz127_0
  try clear hfz127_1
  try clear hfz129_0
  try clear hfz129_1
  try clear hfz131_0
  try clear hfz131_1
  try clear hfz133_0
  try clear hfz133_1
  try clear hfz137_0
  try clear hfz137_1
  try clear hfz139_0
  try clear hfz139_1
  try clear hfz142_0
  try clear hfz142_1
  try clear hfz144_0
  try clear hfz144_1
  obtain ⟨kq, x380_122, rfl, HA, HJ122, BK486, BK487, BK488, BK489, HB⟩ := hcut
  rcases kq with _ | kj122
  · exact absurd HA.out (by simp [laws_FnRingsMeetOfAll.j7])
  have H := HA.out
  clear HA
  simp only [laws_FnRingsMeetOfAll.j7] at H
  by_cases c153 : x380_122 = true
  · subst c153
    rw [if_pos rfl] at H
    rw [HRT.out] at H
    exact absurd H (by simp)
  replace c153 := Bool.eq_false_iff.mpr c153
  subst c153
  rw [if_neg (show ¬ (false = true) by decide)] at H
  have HC154 := Aside0.mk H
  clear H
  go_upto_if 381 with (fail)
  go_cut [] from 1 to 0 (fun wc => ∃ (kq : Nat), Aside0 (laws_FnRingsMeetOfAll.j8 kq a3 a4 a6 a8 t529 t530 t533 t534 t537 t538 a2_0 a2_1 a5_0 a5_1 a7_0 a7_1 = some r) ∧ Aside0 (kq ≤ kj122) ∧ Aside0 (wc.heap[gb486]? = some (.cells #[.int .i64 a0_0, .int .i64 a0_1] 26 (0, 0))) ∧ Aside0 (wc.heap[gb487]? = some (.cells #[.int .i64 a2_0, .int .i64 a2_1] 26 (0, 0))) ∧ Aside0 (wc.heap[gb488]? = some (.cells #[.int .i64 a5_0, .int .i64 a5_1] 26 (0, 0))) ∧ Aside0 (wc.heap[gb489]? = some (.cells #[.int .i64 a7_0, .int .i64 a7_1] 26 (0, 0))) ∧ Aside0 (Below w.heap.size w wc))
  case first => as_aux_lemma =>
    have H := HC154.out
    clear HC154
    by_cases c155 : t526 = true
    rotate_left
    · replace c155 := Bool.eq_false_iff.mpr c155
      subst c155
      rw [if_neg (show ¬ (false = true) by decide)] at H
      have H' := Aside0.mk H
      clear H
      go_wp2
      go_meet
      case rel => refine ⟨_, H', ⟨by have := HJ9.out; have := HJ23.out; have := HJ54.out; have := HJ122.out; first | omega | exact Nat.le_refl _⟩, ⟨?_⟩, ⟨?_⟩, ⟨?_⟩, ⟨?_⟩, ⟨bB HB⟩⟩ <;> (with_reducible repeat (first | refine g_d ?_ _ | refine g_e ?_ | refine g_a ?_ _)) <;> first | exact BK486.out | exact BK487.out | exact BK488.out | exact BK489.out
    subst c155
    rw [if_pos rfl] at H
    replace H := Option.bind_eq_some_iff.mp H
    obtain ⟨⟨t541, t542⟩, A1560, H⟩ := H
    try dsimp only at H
    have A156 := Aside0.mk A1560
    clear A1560
    by_cases c157 : (a3.size : Int) = 0
    · rw [if_pos c157] at H
      exact absurd H (by simp)
    rw [if_neg c157] at H
    have c157b0 : ((a3.size : Int) == 0) = false := beq_eq_false_iff_ne.mpr c157
    have c157b9 : (a3 = ByteArray.empty) = False := eq_false (fun e_ => c157 (by rw [e_]; rfl))
    have c157b1 : ((a3.size : Int) != 0) = true := bne_iff_ne.mpr c157
    (first | rw [c157b0] | (simp only [i64_w, i32_w]; rw [c157b0]) | skip)
    replace H := Option.bind_eq_some_iff.mp H
    obtain ⟨⟨t543, t544⟩, A1580, H⟩ := H
    try dsimp only at H
    have A158 := Aside0.mk A1580
    clear A1580
    by_cases c159 : t542 = true
    rotate_left
    · replace c159 := Bool.eq_false_iff.mpr c159
      subst c159
      rw [if_neg (show ¬ (false = true) by decide)] at H
      rw [HRT.out] at H
      exact absurd H (by simp)
    subst c159
    rw [if_pos rfl] at H
    by_cases c160 : t541 = true
    rotate_left
    · replace c160 := Bool.eq_false_iff.mpr c160
      subst c160
      rw [if_neg (show ¬ (false = true) by decide)] at H
      rw [HRT.out] at H
      exact absurd H (by simp)
    subst c160
    rw [if_pos rfl] at H
    by_cases c161 : t544 = true
    rotate_left
    · replace c161 := Bool.eq_false_iff.mpr c161
      subst c161
      rw [if_neg (show ¬ (false = true) by decide)] at H
      rw [HRT.out] at H
      exact absurd H (by simp)
    subst c161
    rw [if_pos rfl] at H
    by_cases c162 : t543.toList = a3.toList
    rotate_left
    · rw [if_neg c162] at H
      have c162b0 : (t543.toList == a3.toList) = false := beq_eq_false_iff_ne.mpr c162
      have c162b1 : (t543.toList != a3.toList) = true := bne_iff_ne.mpr c162
      rw [HRT.out] at H
      exact absurd H (by simp)
    rw [if_pos c162] at H
    have c162b0 : (t543.toList == a3.toList) = true := beq_iff_eq.mpr c162
    have c162b1 : (t543.toList != a3.toList) = false := bne_eq_false_iff_eq.mpr c162
    clear c162
    have H' := Aside0.mk H
    clear H
    have hnb163 := eq_false NB487_486.out
    have hnc163 := eq_false NB486_487.out
    have hnb164 := eq_false NB487_488.out
    have hnc164 := eq_false NB488_487.out
    have hnb165 := eq_false NB487_489.out
    have hnc165 := eq_false NB489_487.out
    have hcz166_0 := cz0 BK487
    have hcz166_1 := cz1 BK487
    have hfz166_0 := blk_frozen BK487.out 0
    have hfz166_1 := blk_frozen BK487.out 1
    try go_wp2_with (first | ((with_reducible refine gate_callee (f := 8) rfl ?_); refine goesL_ (some 385) rfl rfl Try.func8 (by kernel_rfl) rfl #[.agg #[.int .i64 a2_0, .int .i64 a2_1], .string t525] rfl (by (try simp only [m_1, m_2, m_3]); first | done | rfl | (simp only [m_4, m_5]; rfl)) ?_; (with_reducible refine (impl_IsRing.calls kj122 a2_0 a2_1 t525 true true _ A156.out).mono ?_); rintro e w167 ⟨rfl, hb⟩; refine ⟨_, rfl, ?_⟩; replace BK486 := bbx hb BK486; replace BK487 := bbx hb BK487; replace BK488 := bbx hb BK488; replace BK489 := bbx hb BK489; replace HB := bsx hb HB; skip; (try clear hb); (try clear hb2); (try clear hk); (try clear hi)))
    have n0_ := Aside0.mk (g_e BK486.out)
    have n1_ := Aside0.mk (g_e BK487.out)
    have n2_ := Aside0.mk (g_e BK488.out)
    have n3_ := Aside0.mk (g_e BK489.out)
    have n4_ := Aside0.mk (b_e HB.out)
    clear BK486
    clear BK487
    clear BK488
    clear BK489
    clear HB
    have BK486 := n0_
    have BK487 := n1_
    have BK488 := n2_
    have BK489 := n3_
    have HB := n4_
    clear n0_ n1_ n2_ n3_ n4_
    refine start_ (n := 15) (S := fun w' => w'.cell? ⟨gb487, 0, none⟩ = some (.int .i64 a2_0) ∧ w'.cell? ⟨gb487, 1, none⟩ = some (.int .i64 a2_1)) (ds := []) (bs_ 15 0) (by kernel_rfl) rfl rfl ⟨(blk_cell BK487.out 0).trans rfl, (blk_cell BK487.out 1).trans rfl⟩ (fun hHeld => ?_); refine with_tabW laws_FnRingsMeetOfAll.tab45 laws_FnRingsMeetOfAll.bits45 (fun HT_ HW_ => ?_)
    generalize w167.drew = w168 at BK486 BK487 BK488 BK489 HB hHeld ⊢
    refine pua 1 390 (bs_ 15 2) HT_ ?_
    refine pua 2 391 (bs_ 15 6) HT_ ?_
    refine pua 3 392 (bs_ 15 14) HT_ ?_
    refine pua 4 393 (bs_ 15 30) HT_ ?_
    refine pua 5 394 (bs_ 15 62) HT_ ?_
    refine pua 6 395 (bs_ 15 126) HT_ ?_
    refine pua 7 396 (bs_ 15 254) HT_ ?_
    refine pua 8 397 (bs_ 15 510) HT_ ?_
    refine tk_ 0 389 (bs_ 15 511) rfl rfl HT_ HW_ (by kernel_rfl) (fun _ _ _ h => h) (by rfl) hHeld (by rintro w' ⟨s0, s1⟩; go_simp; with_reducible rfl) (by simp only [Act.put, s_1, s_2, s_3, i64_w, i32_w]; rfl) ?_
    refine one_ (i := 9) (N := some 398) (bs_ 15 1023) rfl rfl (one_of HT_.out (by kernel_rfl)) (by decide) (fun K hK => ?_)
    refine goes_ Try.func19 (by kernel_rfl) rfl #[.agg #[.int .i64 a2_0, .int .i64 a2_1], .string t525, .int .i64 (Int.tmod (wrap64 ((a3.size : Int) - a4)) (a3.size : Int))] (by rfl) rfl rfl (by (try simp only [m_1, m_2, m_3]); first | done | rfl | (simp only [m_4, m_5]; rfl)) ?_
    with_reducible refine (impl_TurnedRing.calls kj122 a2_0 a2_1 t525 (Int.tmod (wrap64 ((a3.size : Int) - a4)) (a3.size : Int)) t543 true _ A158.out).mono ?_
    rintro e w169 ⟨rfl, hb⟩
    refine ⟨_, rfl, ?_⟩
    have n0_ := bbx hb BK486
    have n1_ := bbx hb BK487
    have n2_ := bbx hb BK488
    have n3_ := bbx hb BK489
    have n4_ := bsx hb HB
    clear BK486
    clear BK487
    clear BK488
    clear BK489
    clear HB
    have BK486 := n0_
    have BK487 := n1_
    have BK488 := n2_
    have BK489 := n3_
    have HB := n4_
    clear n0_ n1_ n2_ n3_ n4_
    (try clear hb)
    (try clear hb2)
    (try clear hk)
    (try clear hi)
    refine hK.out _ _ ⟨(blk_cell BK487.out 0).trans rfl, (blk_cell BK487.out 1).trans rfl⟩ (fun hHeld => ?_)
    clear hK K
    refine norm_ (a' := ?_) ?_ ?_
    rotate_left
    · show Act.put _ (some 398) _ = _
      simp only [Act.put, s_1, s_2, s_3, i64_w, i32_w]
      rfl
    refine pua 10 388 (bs_ 15 2047) HT_ ?_
    refine pua 11 399 (bs_ 15 4095) HT_ ?_
    refine pua 12 400 (bs_ 15 8191) HT_ ?_
    refine pua 13 65 (bs_ 15 16383) HT_ ?_
    refine pua 14 66 (bs_ 15 32767) HT_ ?_
    refine done_ (done_of HT_.out (by kernel_rfl)) ?_
    try go_wp2
    go_meet
    case rel => refine ⟨_, H', ⟨by have := HJ9.out; have := HJ23.out; have := HJ54.out; have := HJ122.out; first | omega | exact Nat.le_refl _⟩, ⟨?_⟩, ⟨?_⟩, ⟨?_⟩, ⟨?_⟩, ⟨bB HB⟩⟩ <;> (with_reducible repeat (first | refine g_d ?_ _ | refine g_e ?_ | refine g_a ?_ _)) <;> first | exact BK486.out | exact BK487.out | exact BK488.out | exact BK489.out
  clear HC154
  try clear c153
  obtain ⟨kq, HA, HJ153, BK486, BK487, BK488, BK489, HB⟩ := hcut
  rcases kq with _ | kj153
  · exact absurd HA.out (by simp [laws_FnRingsMeetOfAll.j8])
  have H := HA.out
  clear HA
  simp only [laws_FnRingsMeetOfAll.j8] at H
  have HC170 := Aside0.mk H
  clear H
  go_upto_if 416 with (fail)
  go_cut [] from 1 to 0 (fun wc => ∃ (kq : Nat), Aside0 (laws_FnRingsMeetOfAll.j9 kq a6 a8 t533 t534 t537 t538 a5_0 a5_1 a7_0 a7_1 = some r) ∧ Aside0 (kq ≤ kj153) ∧ Aside0 (wc.heap[gb486]? = some (.cells #[.int .i64 a0_0, .int .i64 a0_1] 26 (0, 0))) ∧ Aside0 (wc.heap[gb487]? = some (.cells #[.int .i64 a2_0, .int .i64 a2_1] 26 (0, 0))) ∧ Aside0 (wc.heap[gb488]? = some (.cells #[.int .i64 a5_0, .int .i64 a5_1] 26 (0, 0))) ∧ Aside0 (wc.heap[gb489]? = some (.cells #[.int .i64 a7_0, .int .i64 a7_1] 26 (0, 0))) ∧ Aside0 (Below w.heap.size w wc))
  case first => as_aux_lemma =>
    have H := HC170.out
    clear HC170
    by_cases c171 : t530 = true
    rotate_left
    · replace c171 := Bool.eq_false_iff.mpr c171
      subst c171
      rw [if_neg (show ¬ (false = true) by decide)] at H
      have H' := Aside0.mk H
      clear H
      go_wp2
      go_meet
      case rel => refine ⟨_, H', ⟨by have := HJ9.out; have := HJ23.out; have := HJ54.out; have := HJ122.out; have := HJ153.out; first | omega | exact Nat.le_refl _⟩, ⟨?_⟩, ⟨?_⟩, ⟨?_⟩, ⟨?_⟩, ⟨bB HB⟩⟩ <;> (with_reducible repeat (first | refine g_d ?_ _ | refine g_e ?_ | refine g_a ?_ _)) <;> first | exact BK486.out | exact BK487.out | exact BK488.out | exact BK489.out
    subst c171
    rw [if_pos rfl] at H
    replace H := Option.bind_eq_some_iff.mp H
    obtain ⟨⟨t545, t546⟩, A1720, H⟩ := H
    try dsimp only at H
    have A172 := Aside0.mk A1720
    clear A1720
    by_cases c173 : a2_1 = 0
    · rw [if_pos c173] at H
      exact absurd H (by simp)
    rw [if_neg c173] at H
    have c173b0 : (a2_1 == 0) = false := beq_eq_false_iff_ne.mpr c173
    have c173b1 : (a2_1 != 0) = true := bne_iff_ne.mpr c173
    (first | rw [c173b0] | (simp only [i64_w, i32_w]; rw [c173b0]) | skip)
    replace H := Option.bind_eq_some_iff.mp H
    obtain ⟨⟨t547, t548⟩, A1740, H⟩ := H
    try dsimp only at H
    have A174 := Aside0.mk A1740
    clear A1740
    by_cases c175 : t546 = true
    rotate_left
    · replace c175 := Bool.eq_false_iff.mpr c175
      subst c175
      rw [if_neg (show ¬ (false = true) by decide)] at H
      rw [HRT.out] at H
      exact absurd H (by simp)
    subst c175
    rw [if_pos rfl] at H
    by_cases c176 : t545 = true
    rotate_left
    · replace c176 := Bool.eq_false_iff.mpr c176
      subst c176
      rw [if_neg (show ¬ (false = true) by decide)] at H
      rw [HRT.out] at H
      exact absurd H (by simp)
    subst c176
    rw [if_pos rfl] at H
    by_cases c177 : t548 = true
    rotate_left
    · replace c177 := Bool.eq_false_iff.mpr c177
      subst c177
      rw [if_neg (show ¬ (false = true) by decide)] at H
      rw [HRT.out] at H
      exact absurd H (by simp)
    subst c177
    rw [if_pos rfl] at H
    by_cases c178 : t547.toList = a3.toList
    rotate_left
    · rw [if_neg c178] at H
      have c178b0 : (t547.toList == a3.toList) = false := beq_eq_false_iff_ne.mpr c178
      have c178b1 : (t547.toList != a3.toList) = true := bne_iff_ne.mpr c178
      rw [HRT.out] at H
      exact absurd H (by simp)
    rw [if_pos c178] at H
    have c178b0 : (t547.toList == a3.toList) = true := beq_iff_eq.mpr c178
    have c178b1 : (t547.toList != a3.toList) = false := bne_eq_false_iff_eq.mpr c178
    clear c178
    have H' := Aside0.mk H
    clear H
    have hnb179 := eq_false NB487_486.out
    have hnc179 := eq_false NB486_487.out
    have hnb180 := eq_false NB487_488.out
    have hnc180 := eq_false NB488_487.out
    have hnb181 := eq_false NB487_489.out
    have hnc181 := eq_false NB489_487.out
    have hcz182_0 := cz0 BK487
    have hcz182_1 := cz1 BK487
    have hfz182_0 := blk_frozen BK487.out 0
    have hfz182_1 := blk_frozen BK487.out 1
    try go_wp2_with (first | ((with_reducible refine gate_callee (f := 8) rfl ?_); refine goesL_ (some 420) rfl rfl Try.func8 (by kernel_rfl) rfl #[.agg #[.int .i64 a2_0, .int .i64 a2_1], .string t529] rfl (by (try simp only [m_1, m_2, m_3]); first | done | rfl | (simp only [m_4, m_5]; rfl)) ?_; (with_reducible refine (impl_IsRing.calls kj153 a2_0 a2_1 t529 true true _ A172.out).mono ?_); rintro e w183 ⟨rfl, hb⟩; refine ⟨_, rfl, ?_⟩; replace BK486 := bbx hb BK486; replace BK487 := bbx hb BK487; replace BK488 := bbx hb BK488; replace BK489 := bbx hb BK489; replace HB := bsx hb HB; skip; (try clear hb); (try clear hb2); (try clear hk); (try clear hi)))
    have n0_ := Aside0.mk (g_e BK486.out)
    have n1_ := Aside0.mk (g_e BK487.out)
    have n2_ := Aside0.mk (g_e BK488.out)
    have n3_ := Aside0.mk (g_e BK489.out)
    have n4_ := Aside0.mk (b_e HB.out)
    clear BK486
    clear BK487
    clear BK488
    clear BK489
    clear HB
    have BK486 := n0_
    have BK487 := n1_
    have BK488 := n2_
    have BK489 := n3_
    have HB := n4_
    clear n0_ n1_ n2_ n3_ n4_
    refine start_ (n := 15) (S := fun w' => w'.cell? ⟨gb487, 0, none⟩ = some (.int .i64 a2_0) ∧ w'.cell? ⟨gb487, 1, none⟩ = some (.int .i64 a2_1)) (ds := []) (bs_ 15 0) (by kernel_rfl) rfl rfl ⟨(blk_cell BK487.out 0).trans rfl, (blk_cell BK487.out 1).trans rfl⟩ (fun hHeld => ?_); refine with_tabW laws_FnRingsMeetOfAll.tab50 laws_FnRingsMeetOfAll.bits50 (fun HT_ HW_ => ?_)
    generalize w183.drew = w184 at BK486 BK487 BK488 BK489 HB hHeld ⊢
    refine pua 1 425 (bs_ 15 2) HT_ ?_
    refine pua 2 426 (bs_ 15 6) HT_ ?_
    refine pua 4 428 (bs_ 15 22) HT_ ?_
    refine pua 6 430 (bs_ 15 86) HT_ ?_
    refine tk_ 0 424 (bs_ 15 87) rfl rfl HT_ HW_ (by kernel_rfl) (fun _ _ _ h => h) (by rfl) hHeld (by rintro w' ⟨s0, s1⟩; go_simp; with_reducible rfl) (by simp only [Act.put, s_1, s_2, s_3, i64_w, i32_w]; rfl) ?_
    refine tk_ 3 427 (bs_ 15 95) rfl rfl HT_ HW_ (by kernel_rfl) (fun _ _ _ h => h) (by rfl) hHeld (by rintro w' ⟨s0, s1⟩; go_simp; with_reducible rfl) (by simp only [Act.put, s_1, s_2, s_3, i64_w, i32_w]; rfl) ?_
    refine pua 5 429 (bs_ 15 127) HT_ ?_
    refine tk_ 7 431 (bs_ 15 255) rfl rfl HT_ HW_ (by kernel_rfl) (fun _ _ _ h => h) (by rfl) hHeld (by rintro w' ⟨s0, s1⟩; go_simp; with_reducible rfl) (by simp only [Act.put, s_1, s_2, s_3, i64_w, i32_w]; rfl) ?_
    refine pua 8 432 (bs_ 15 511) HT_ ?_
    refine one_ (i := 9) (N := some 433) (bs_ 15 1023) rfl rfl (one_of HT_.out (by kernel_rfl)) (by decide) (fun K hK => ?_)
    refine goes_ Try.func21 (by kernel_rfl) rfl #[.agg #[.int .i64 a2_0, .int .i64 a2_1], .string t529, .int .i64 (Int.tmod (wrap64 (a2_1 - a4)) a2_1)] (by rfl) rfl rfl (by (try simp only [m_1, m_2, m_3]); first | done | rfl | (simp only [m_4, m_5]; rfl)) ?_
    with_reducible refine (impl_RaisedRing.calls kj153 a2_0 a2_1 t529 (Int.tmod (wrap64 (a2_1 - a4)) a2_1) t547 true _ A174.out).mono ?_
    rintro e w185 ⟨rfl, hb⟩
    refine ⟨_, rfl, ?_⟩
    have n0_ := bbx hb BK486
    have n1_ := bbx hb BK487
    have n2_ := bbx hb BK488
    have n3_ := bbx hb BK489
    have n4_ := bsx hb HB
    clear BK486
    clear BK487
    clear BK488
    clear BK489
    clear HB
    have BK486 := n0_
    have BK487 := n1_
    have BK488 := n2_
    have BK489 := n3_
    have HB := n4_
    clear n0_ n1_ n2_ n3_ n4_
    (try clear hb)
    (try clear hb2)
    (try clear hk)
    (try clear hi)
    refine hK.out _ _ ⟨(blk_cell BK487.out 0).trans rfl, (blk_cell BK487.out 1).trans rfl⟩ (fun hHeld => ?_)
    clear hK K
    refine norm_ (a' := ?_) ?_ ?_
    rotate_left
    · show Act.put _ (some 433) _ = _
      simp only [Act.put, s_1, s_2, s_3, i64_w, i32_w]
      rfl
    refine pua 10 423 (bs_ 15 2047) HT_ ?_
    refine pua 11 434 (bs_ 15 4095) HT_ ?_
    refine pua 12 435 (bs_ 15 8191) HT_ ?_
    refine pua 13 69 (bs_ 15 16383) HT_ ?_
    refine pua 14 70 (bs_ 15 32767) HT_ ?_
    refine done_ (done_of HT_.out (by kernel_rfl)) ?_
    try go_wp2
    go_meet
    case rel => refine ⟨_, H', ⟨by have := HJ9.out; have := HJ23.out; have := HJ54.out; have := HJ122.out; have := HJ153.out; first | omega | exact Nat.le_refl _⟩, ⟨?_⟩, ⟨?_⟩, ⟨?_⟩, ⟨?_⟩, ⟨bB HB⟩⟩ <;> (with_reducible repeat (first | refine g_d ?_ _ | refine g_e ?_ | refine g_a ?_ _)) <;> first | exact BK486.out | exact BK487.out | exact BK488.out | exact BK489.out
  clear HC170
  obtain ⟨kq, HA, HJ169, BK486, BK487, BK488, BK489, HB⟩ := hcut
  rcases kq with _ | kj169
  · exact absurd HA.out (by simp [laws_FnRingsMeetOfAll.j9])
  have H := HA.out
  clear HA
  simp only [laws_FnRingsMeetOfAll.j9] at H
  by_cases c186 : t534 = true
  rotate_left
  · replace c186 := Bool.eq_false_iff.mpr c186
    subst c186
    rw [if_neg (show ¬ (false = true) by decide)] at H
    by_cases c204 : t538 = true
    rotate_left
    · replace c204 := Bool.eq_false_iff.mpr c204
      subst c204
      rw [if_neg (show ¬ (false = true) by decide)] at H
      obtain rfl := Option.some.inj H
      go_wp2
      go_ret
      exact ⟨by first | rfl | (simp [errW_none, errW_some] <;> rfl) | (simp [*, errW_none, errW_some] <;> rfl), bB HB⟩

    subst c204
    rw [if_pos rfl] at H
    replace H := Option.bind_eq_some_iff.mp H
    obtain ⟨⟨t553, t554⟩, A2050, H⟩ := H
    try dsimp only at H
    have A205 := Aside0.mk A2050
    clear A2050
    by_cases c206 : t554 = true
    rotate_left
    · replace c206 := Bool.eq_false_iff.mpr c206
      subst c206
      rw [if_neg (show ¬ (false = true) by decide)] at H
      rw [HRT.out] at H
      exact absurd H (by simp)
    subst c206
    rw [if_pos rfl] at H
    obtain rfl := Option.some.inj H
    have hnb207 := eq_false NB489_486.out
    have hnc207 := eq_false NB486_489.out
    have hnb208 := eq_false NB489_487.out
    have hnc208 := eq_false NB487_489.out
    have hnb209 := eq_false NB489_488.out
    have hnc209 := eq_false NB488_489.out
    have hcz210_0 := cz0 BK489
    have hcz210_1 := cz1 BK489
    have hfz210_0 := blk_frozen BK489.out 0
    have hfz210_1 := blk_frozen BK489.out 1
    go_wp2_with (first | ((with_reducible refine gate_callee (f := 7) rfl ?_); refine goesL_ (some 469) rfl rfl Try.func7 (by kernel_rfl) rfl #[.agg #[.int .i64 a7_0, .int .i64 a7_1], .string t537] rfl (by (try simp only [m_1, m_2, m_3]); first | done | rfl | (simp only [m_4, m_5]; rfl)) ?_; (with_reducible refine (impl_PlaceInRing.calls kj169 a7_0 a7_1 t537 t553 true _ (strings_Index.gl_below HG.out (bB HB)) A205.out).mono ?_); rintro e w211 ⟨rfl, hb⟩; refine ⟨_, rfl, ?_⟩; replace BK486 := bbx hb BK486; replace BK487 := bbx hb BK487; replace BK488 := bbx hb BK488; replace BK489 := bbx hb BK489; replace HB := bsx hb HB; skip; (try clear hb); (try clear hb2); (try clear hk); (try clear hi)))
    go_ret
    exact ⟨by first | rfl | (simp [errW_none, errW_some] <;> rfl) | (simp [*, errW_none, errW_some] <;> rfl), bB HB⟩
  subst c186
  rw [if_pos rfl] at H
  replace H := Option.bind_eq_some_iff.mp H
  obtain ⟨⟨t549, t550⟩, A1870, H⟩ := H
  try dsimp only at H
  have A187 := Aside0.mk A1870
  clear A1870
  have HC188 := Aside0.mk H
  clear H
  have hnb189 := eq_false NB488_486.out
  have hnc189 := eq_false NB486_488.out
  have hnb190 := eq_false NB488_487.out
  have hnc190 := eq_false NB487_488.out
  have hnb191 := eq_false NB488_489.out
  have hnc191 := eq_false NB489_488.out
  have hcz192_0 := cz0 BK488
  have hcz192_1 := cz1 BK488
  have hfz192_0 := blk_frozen BK488.out 0
  have hfz192_1 := blk_frozen BK488.out 1
  go_upto_region 55 with (first | ((with_reducible refine gate_callee (f := 23) rfl ?_); refine goesL_ (some 455) rfl rfl Try.func23 (by kernel_rfl) rfl #[.agg #[.int .i64 a5_0, .int .i64 a5_1], .int .i64 t533] rfl (by (try simp only [m_1, m_2, m_3]); first | done | rfl | (simp only [m_4, m_5]; rfl)) ?_; (with_reducible refine (impl_CodeAtPlace.calls kj169 a5_0 a5_1 t533 t549 t550 _ A187.out).mono ?_); rintro e w193 ⟨rfl, hb⟩; refine ⟨_, rfl, ?_⟩; replace BK486 := bbx hb BK486; replace BK487 := bbx hb BK487; replace BK488 := bbx hb BK488; replace BK489 := bbx hb BK489; replace HB := bsx hb HB; skip; (try clear hb); (try clear hb2); (try clear hk); (try clear hi)))
  (try simp only [Act.put, s_1, s_2, s_3])
  go_cut [464] from 1 to 0 (fun v464 wc => ∃ (kq : Nat) (x464_187 : Bool), v464 = .bool x464_187 ∧ Aside0 (laws_FnRingsMeetOfAll.j10 kq a8 t537 t538 x464_187 a7_0 a7_1 = some r) ∧ Aside0 (kq ≤ kj169) ∧ Aside0 (wc.heap[gb486]? = some (.cells #[.int .i64 a0_0, .int .i64 a0_1] 26 (0, 0))) ∧ Aside0 (wc.heap[gb487]? = some (.cells #[.int .i64 a2_0, .int .i64 a2_1] 26 (0, 0))) ∧ Aside0 (wc.heap[gb488]? = some (.cells #[.int .i64 a5_0, .int .i64 a5_1] 26 (0, 0))) ∧ Aside0 (wc.heap[gb489]? = some (.cells #[.int .i64 a7_0, .int .i64 a7_1] 26 (0, 0))) ∧ Aside0 (Below w.heap.size w wc))
  case first => as_aux_lemma =>
    have H := HC188.out
    clear HC188
    by_cases c194 : t550 = true
    rotate_left
    · replace c194 := Bool.eq_false_iff.mpr c194
      subst c194
      rw [if_neg (show ¬ (false = true) by decide)] at H
      rw [HRT.out] at H
      exact absurd H (by generalize kj169 = q_; cases q_ <;> simp [laws_FnRingsMeetOfAll.j10])
    subst c194
    rw [if_pos rfl] at H
    have H' := Aside0.mk H
    clear H
    go_wp2
    go_meet
    case rel => refine ⟨_, ((t549.toList != a6.toList)), (by first | rfl | (simp; done) | (simp [*]; done)), H', ⟨by have := HJ9.out; have := HJ23.out; have := HJ54.out; have := HJ122.out; have := HJ153.out; have := HJ169.out; first | omega | exact Nat.le_refl _⟩, ⟨?_⟩, ⟨?_⟩, ⟨?_⟩, ⟨?_⟩, ⟨bB HB⟩⟩ <;> (with_reducible repeat (first | refine g_d ?_ _ | refine g_e ?_ | refine g_a ?_ _)) <;> first | exact BK486.out | exact BK487.out | exact BK488.out | exact BK489.out
  clear HC188
  try clear c186
  try clear hcz192_0
  try clear hcz192_1
  try clear hfz192_0
  try clear hfz192_1
  obtain ⟨kq, x464_187, rfl, HA, HJ187, BK486, BK487, BK488, BK489, HB⟩ := hcut
  rcases kq with _ | kj187
  · exact absurd HA.out (by simp [laws_FnRingsMeetOfAll.j10])
  have H := HA.out
  clear HA
  simp only [laws_FnRingsMeetOfAll.j10] at H
  by_cases c195 : x464_187 = true
  · subst c195
    rw [if_pos rfl] at H
    rw [HRT.out] at H
    exact absurd H (by simp)
  replace c195 := Bool.eq_false_iff.mpr c195
  subst c195
  rw [if_neg (show ¬ (false = true) by decide)] at H
  by_cases c196 : t538 = true
  rotate_left
  · replace c196 := Bool.eq_false_iff.mpr c196
    subst c196
    rw [if_neg (show ¬ (false = true) by decide)] at H
    obtain rfl := Option.some.inj H
    go_wp2
    go_ret
    exact ⟨by first | rfl | (simp [errW_none, errW_some] <;> rfl) | (simp [*, errW_none, errW_some] <;> rfl), bB HB⟩
  subst c196
  rw [if_pos rfl] at H
  replace H := Option.bind_eq_some_iff.mp H
  obtain ⟨⟨t551, t552⟩, A1970, H⟩ := H
  try dsimp only at H
  have A197 := Aside0.mk A1970
  clear A1970
  by_cases c198 : t552 = true
  rotate_left
  · replace c198 := Bool.eq_false_iff.mpr c198
    subst c198
    rw [if_neg (show ¬ (false = true) by decide)] at H
    rw [HRT.out] at H
    exact absurd H (by simp)
  subst c198
  rw [if_pos rfl] at H
  obtain rfl := Option.some.inj H
  have hnb199 := eq_false NB489_486.out
  have hnc199 := eq_false NB486_489.out
  have hnb200 := eq_false NB489_487.out
  have hnc200 := eq_false NB487_489.out
  have hnb201 := eq_false NB489_488.out
  have hnc201 := eq_false NB488_489.out
  have hcz202_0 := cz0 BK489
  have hcz202_1 := cz1 BK489
  have hfz202_0 := blk_frozen BK489.out 0
  have hfz202_1 := blk_frozen BK489.out 1
  go_wp2_with (first | ((with_reducible refine gate_callee (f := 7) rfl ?_); refine goesL_ (some 469) rfl rfl Try.func7 (by kernel_rfl) rfl #[.agg #[.int .i64 a7_0, .int .i64 a7_1], .string t537] rfl (by (try simp only [m_1, m_2, m_3]); first | done | rfl | (simp only [m_4, m_5]; rfl)) ?_; (with_reducible refine (impl_PlaceInRing.calls kj187 a7_0 a7_1 t537 t551 true _ (strings_Index.gl_below HG.out (bB HB)) A197.out).mono ?_); rintro e w203 ⟨rfl, hb⟩; refine ⟨_, rfl, ?_⟩; replace BK486 := bbx hb BK486; replace BK487 := bbx hb BK487; replace BK488 := bbx hb BK488; replace BK489 := bbx hb BK489; replace HB := bsx hb HB; skip; (try clear hb); (try clear hb2); (try clear hk); (try clear hi)))
  go_ret
  exact ⟨by first | rfl | (simp [errW_none, errW_some] <;> rfl) | (simp [*, errW_none, errW_some] <;> rfl), bB HB⟩
end Go.Proofs.Ytmpcefcgboljkaa.P
