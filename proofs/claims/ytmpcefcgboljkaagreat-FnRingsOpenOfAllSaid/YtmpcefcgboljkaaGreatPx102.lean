-- Texts of this session's own program (wip/dr.py), which runs the kit's printer.
import Derived.Test.YtmpcefcgboljkaaGreatPx0
import Derived.Test.YtmpcefcgboljkaaGreatPx1
import Derived.Test.YtmpcefcgboljkaaGreatPx22
import Derived.Test.YtmpcefcgboljkaaGreatPx27
import Derived.Test.YtmpcefcgboljkaaGreatPx66
import Derived.Test.YtmpcefcgboljkaaGreatPx84
namespace Go.Proofs.YtmpcefcgboljkaaGreat.P
open Go.RowKit Go.Proofs.YtmpcefcgboljkaaGreatW.PrintWords Go.Proofs.YtmpcefcgboljkaaGreatW.PrintLast Go.Proofs.YtmpcefcgboljkaaGreatW.PrintMore
attribute [local go_sem] q_leq q_gtr q_geq max2_int min2_int max_two min_two max_three min_three max_four min_four   -- for this text's walks alone
set_option linter.unusedVariables false
set_option linter.unusedSimpArgs false

/-! ### laws_FnRingsOpenOfAll: function 3 -/
mutual
def laws_FnRingsOpenOfAll.j0 : Nat → Int → ByteArray → ByteArray → ByteArray → Bool → Int → Int → Int → Int → Int → Int → Int → Int → Option (Bool)
  | 0, _, _, _, _, _, _, _, _, _, _, _, _, _ => none
  | k + 1, x2, x4, x6, x7, x91, x498000, x498001, x499000, x499001, x500000, x500001, x501000, x501001 => if x91 = true then (some true) else ((impl_LeastRing.f k x498000 x498001).bind fun bt501 => ((spec_LeastRing.f k x498000 x498001).bind fun bt503 => ((impl_GreatestRing.f k x498000 x498001).bind fun bt505 => ((spec_GreatestRing.f k x498000 x498001).bind fun bt507 => ((impl_LeastWords.f k x498000 x498001).bind fun bt509 => ((spec_LeastWords.f k x498000 x498001).bind fun bt513 => ((impl_OpeningText.f k x498000 x498001).bind fun bt517 => ((spec_OpeningText.f k x498000 x498001).bind fun bt519 => ((impl_CountRings.f k x498000 x498001).bind fun bt521 => ((spec_CountRings.f k x498000 x498001).bind fun bt523 => (if (bt501.2 != bt503.2) = true then (laws_FnRingsOpenOfAll.j1 k x2 x4 x6 x7 bt501.1 bt501.2 bt505.1 bt509.1 bt517.1 true x498000 x498001 x499000 x499001 x500000 x500001 x501000 x501001) else (if bt501.1.toList = bt503.1.toList then (if (bt505.2 != bt507.2) = true then (laws_FnRingsOpenOfAll.j1 k x2 x4 x6 x7 bt501.1 bt501.2 bt505.1 bt509.1 bt517.1 true x498000 x498001 x499000 x499001 x500000 x500001 x501000 x501001) else (if bt505.1.toList = bt507.1.toList then (if (bt509.2 != bt513.2) = true then (laws_FnRingsOpenOfAll.j1 k x2 x4 x6 x7 bt501.1 bt501.2 bt505.1 bt509.1 bt517.1 true x498000 x498001 x499000 x499001 x500000 x500001 x501000 x501001) else ((laws_eTexts.f k bt509.1 bt513.1).bind fun t525 => (if t525 = true then (if (bt517.2 != bt519.2) = true then (laws_FnRingsOpenOfAll.j1 k x2 x4 x6 x7 bt501.1 bt501.2 bt505.1 bt509.1 bt517.1 true x498000 x498001 x499000 x499001 x500000 x500001 x501000 x501001) else (if bt517.1.toList = bt519.1.toList then (if (bt521.2 != bt523.2) = true then (laws_FnRingsOpenOfAll.j1 k x2 x4 x6 x7 bt501.1 bt501.2 bt505.1 bt509.1 bt517.1 true x498000 x498001 x499000 x499001 x500000 x500001 x501000 x501001) else (if bt521.1 = bt523.1 then (if (bt505.2 != bt501.2) = true then (laws_FnRingsOpenOfAll.j1 k x2 x4 x6 x7 bt501.1 bt501.2 bt505.1 bt509.1 bt517.1 true x498000 x498001 x499000 x499001 x500000 x500001 x501000 x501001) else (if (bt509.2 != bt501.2) = true then (laws_FnRingsOpenOfAll.j1 k x2 x4 x6 x7 bt501.1 bt501.2 bt505.1 bt509.1 bt517.1 true x498000 x498001 x499000 x499001 x500000 x500001 x501000 x501001) else (if (bt517.2 != bt501.2) = true then (laws_FnRingsOpenOfAll.j1 k x2 x4 x6 x7 bt501.1 bt501.2 bt505.1 bt509.1 bt517.1 true x498000 x498001 x499000 x499001 x500000 x500001 x501000 x501001) else (if bt521.2 = true then (laws_FnRingsOpenOfAll.j1 k x2 x4 x6 x7 bt501.1 bt501.2 bt505.1 bt509.1 bt517.1 (!bt501.2) x498000 x498001 x499000 x499001 x500000 x500001 x501000 x501001) else (laws_FnRingsOpenOfAll.j1 k x2 x4 x6 x7 bt501.1 bt501.2 bt505.1 bt509.1 bt517.1 false x498000 x498001 x499000 x499001 x500000 x500001 x501000 x501001))))) else (laws_FnRingsOpenOfAll.j1 k x2 x4 x6 x7 bt501.1 bt501.2 bt505.1 bt509.1 bt517.1 true x498000 x498001 x499000 x499001 x500000 x500001 x501000 x501001))) else (laws_FnRingsOpenOfAll.j1 k x2 x4 x6 x7 bt501.1 bt501.2 bt505.1 bt509.1 bt517.1 true x498000 x498001 x499000 x499001 x500000 x500001 x501000 x501001))) else (laws_FnRingsOpenOfAll.j1 k x2 x4 x6 x7 bt501.1 bt501.2 bt505.1 bt509.1 bt517.1 true x498000 x498001 x499000 x499001 x500000 x500001 x501000 x501001)))) else (laws_FnRingsOpenOfAll.j1 k x2 x4 x6 x7 bt501.1 bt501.2 bt505.1 bt509.1 bt517.1 true x498000 x498001 x499000 x499001 x500000 x500001 x501000 x501001))) else (laws_FnRingsOpenOfAll.j1 k x2 x4 x6 x7 bt501.1 bt501.2 bt505.1 bt509.1 bt517.1 true x498000 x498001 x499000 x499001 x500000 x500001 x501000 x501001)))))))))))))
def laws_FnRingsOpenOfAll.j1 : Nat → Int → ByteArray → ByteArray → ByteArray → ByteArray → Bool → ByteArray → List ByteArray → ByteArray → Bool → Int → Int → Int → Int → Int → Int → Int → Int → Option (Bool)
  | 0, _, _, _, _, _, _, _, _, _, _, _, _, _, _, _, _, _, _ => none
  | k + 1, x2, x4, x6, x7, x17, x18, x21, x25, x29, x212, x498000, x498001, x499000, x499001, x500000, x500001, x501000, x501001 => if x212 = true then (some false) else (if x18 = true then ((impl_CountCodes.f k x498000 x498001).bind fun bt526 => ((impl_CountOpened.f k x498000 x498001 x29).bind fun bt528 => ((impl_FirstMissed.f k x498000 x498001 x29).bind fun bt530 => ((impl_IsRing.f k x498000 x498001 x17).bind fun bt532 => ((impl_IsRing.f k x498000 x498001 x21).bind fun bt534 => (laws_FnRingsOpenOfAll.l0 k x2 x4 x6 x7 x17 x21 x25 x29 bt526.1 bt526.2 bt528.1 bt528.2 bt530.2 bt532.1 bt532.2 bt534.1 bt534.2 (⟨#[]⟩ : ByteArray) x25 (x25.length : Int) 0 x498000 x498001 x499000 x499001 x500000 x500001 x501000 x501001)))))) else (laws_FnRingsOpenOfAll.j5 k x2 x4 x6 x7 x499000 x499001 x500000 x500001 x501000 x501001))
def laws_FnRingsOpenOfAll.j5 : Nat → Int → ByteArray → ByteArray → ByteArray → Int → Int → Int → Int → Int → Int → Option (Bool)
  | 0, _, _, _, _, _, _, _, _, _, _ => none
  | k + 1, x2, x4, x6, x7, x499000, x499001, x500000, x500001, x501000, x501001 => (impl_CountLeastWords.f k x499000 x499001 x2).bind fun bt540 => ((spec_CountLeastWords.f k x499000 x499001 x2).bind fun bt542 => ((impl_CountOpened.f k x500000 x500001 x4).bind fun bt544 => ((spec_CountOpened.f k x500000 x500001 x4).bind fun bt546 => ((impl_FirstMissed.f k x500000 x500001 x4).bind fun bt548 => ((spec_FirstMissed.f k x500000 x500001 x4).bind fun bt550 => ((impl_StepsToOpen.f k x501000 x501001 x6 x7).bind fun bt552 => ((spec_StepsToOpen.f k x501000 x501001 x6 x7).bind fun bt554 => (if (bt540.2 != bt542.2) = true then (laws_FnRingsOpenOfAll.j6 k x4 x6 x7 bt544.1 bt544.2 bt548.1 bt548.2 bt552.1 bt552.2 true x500000 x500001 x501000 x501001) else (if bt540.1 = bt542.1 then (if (bt544.2 != bt546.2) = true then (laws_FnRingsOpenOfAll.j6 k x4 x6 x7 bt544.1 bt544.2 bt548.1 bt548.2 bt552.1 bt552.2 true x500000 x500001 x501000 x501001) else (if bt544.1 = bt546.1 then (if (bt548.2 != bt550.2) = true then (laws_FnRingsOpenOfAll.j6 k x4 x6 x7 bt544.1 bt544.2 bt548.1 bt548.2 bt552.1 bt552.2 true x500000 x500001 x501000 x501001) else (if bt548.1.toList = bt550.1.toList then (if (bt552.2 != bt554.2) = true then (laws_FnRingsOpenOfAll.j6 k x4 x6 x7 bt544.1 bt544.2 bt548.1 bt548.2 bt552.1 bt552.2 true x500000 x500001 x501000 x501001) else (if bt552.1 = bt554.1 then (if bt548.2 = true then (laws_FnRingsOpenOfAll.j6 k x4 x6 x7 bt544.1 bt544.2 bt548.1 bt548.2 bt552.1 bt552.2 (!bt544.2) x500000 x500001 x501000 x501001) else (laws_FnRingsOpenOfAll.j6 k x4 x6 x7 bt544.1 bt544.2 bt548.1 bt548.2 bt552.1 bt552.2 false x500000 x500001 x501000 x501001)) else (laws_FnRingsOpenOfAll.j6 k x4 x6 x7 bt544.1 bt544.2 bt548.1 bt548.2 bt552.1 bt552.2 true x500000 x500001 x501000 x501001))) else (laws_FnRingsOpenOfAll.j6 k x4 x6 x7 bt544.1 bt544.2 bt548.1 bt548.2 bt552.1 bt552.2 true x500000 x500001 x501000 x501001))) else (laws_FnRingsOpenOfAll.j6 k x4 x6 x7 bt544.1 bt544.2 bt548.1 bt548.2 bt552.1 bt552.2 true x500000 x500001 x501000 x501001))) else (laws_FnRingsOpenOfAll.j6 k x4 x6 x7 bt544.1 bt544.2 bt548.1 bt548.2 bt552.1 bt552.2 true x500000 x500001 x501000 x501001))))))))))
def laws_FnRingsOpenOfAll.j6 : Nat → ByteArray → ByteArray → ByteArray → Int → Bool → ByteArray → Bool → Int → Bool → Bool → Int → Int → Int → Int → Option (Bool)
  | 0, _, _, _, _, _, _, _, _, _, _, _, _, _, _ => none
  | k + 1, x4, x6, x7, x59, x60, x63, x64, x67, x68, x457, x500000, x500001, x501000, x501001 => if x457 = true then (some false) else (if x60 = true then ((impl_CountCodes.f k x500000 x500001).bind fun bt556 => (if bt556.2 = true then (if x59 < 0 then (some false) else (if x59 > bt556.1 then (some false) else (if ((x59 == bt556.1) == x64) = true then (some false) else (laws_FnRingsOpenOfAll.j7 k x4 x6 x7 x63 x64 x67 x68 x500000 x500001 x501000 x501001)))) else (some false))) else (laws_FnRingsOpenOfAll.j7 k x4 x6 x7 x63 x64 x67 x68 x500000 x500001 x501000 x501001))
def laws_FnRingsOpenOfAll.j7 : Nat → ByteArray → ByteArray → ByteArray → ByteArray → Bool → Int → Bool → Int → Int → Int → Int → Option (Bool)
  | 0, _, _, _, _, _, _, _, _, _, _, _ => none
  | k + 1, x4, x6, x7, x63, x64, x67, x68, x500000, x500001, x501000, x501001 => if x64 = true then ((impl_StepsToOpen.f k x500000 x500001 x4 x63).bind fun bt558 => (if bt558.2 = true then (some false) else (laws_FnRingsOpenOfAll.j8 k x6 x7 x67 x68 x501000 x501001))) else (laws_FnRingsOpenOfAll.j8 k x6 x7 x67 x68 x501000 x501001)
def laws_FnRingsOpenOfAll.j8 : Nat → ByteArray → ByteArray → Int → Bool → Int → Int → Option (Bool)
  | 0, _, _, _, _, _, _ => none
  | k + 1, x6, x7, x67, x68, x501000, x501001 => if x68 = true then (if 0 ≤ x67 then (if x67 ≤ (x6.size : Int) then ((impl_CountOpened.f k x501000 x501001 (x6.extract 0 (x67 : Int).toNat)).bind fun bt560 => (if 0 ≤ (wrap64 (x67 - 1)) then (if (wrap64 (x67 - 1)) ≤ (x6.size : Int) then ((impl_CountOpened.f k x501000 x501001 (x6.extract 0 ((wrap64 (x67 - 1)) : Int).toNat)).bind fun bt562 => (if x67 < x501000 then (some false) else (if x67 > (x6.size : Int) then (some false) else (if 0 ≤ (wrap64 (x67 - x501000)) then (if (wrap64 (x67 - x501000)) ≤ x67 then (if (x6.extract ((wrap64 (x67 - x501000)) : Int).toNat (x67 : Int).toNat).toList = x7.toList then (if bt560.2 = true then (if bt562.2 = true then (if bt560.1 = (wrap64 (bt562.1 + 1)) then (some true) else (some false)) else (some false)) else (some false)) else (some false)) else (none)) else (none))))) else (none)) else (none))) else (none)) else (none)) else (some true)
def laws_FnRingsOpenOfAll.l0 : Nat → Int → ByteArray → ByteArray → ByteArray → ByteArray → ByteArray → List ByteArray → ByteArray → Int → Bool → Int → Bool → Bool → Bool → Bool → Bool → Bool → ByteArray → List ByteArray → Int → Int → Int → Int → Int → Int → Int → Int → Int → Int → Option (Bool)
  | 0, _, _, _, _, _, _, _, _, _, _, _, _, _, _, _, _, _, _, _, _, _, _, _, _, _, _, _, _, _ => none
  | k + 1, x2, x4, x6, x7, x17, x21, x25, x29, x37, x38, x39, x40, x42, x43, x44, x45, x46, x47, x243, x244, x245, x498000, x498001, x499000, x499001, x500000, x500001, x501000, x501001 => if x245 < x244 then (if 0 ≤ x245 then (if x245 < (x243.length : Int) then (if x47.size + (rdOf ByteArray.empty x243 x245).size ≤ 9223372036854775807 then (if ((rdOf ByteArray.empty x243 x245).size : Int) = 0 then (none) else (if (Int.tmod x498000 ((rdOf ByteArray.empty x243 x245).size : Int)) = 0 then (laws_FnRingsOpenOfAll.l1 k x2 x4 x6 x7 x17 x21 x25 x29 x37 x38 x39 x40 x42 x43 x44 x45 x46 (x47 ++ (rdOf ByteArray.empty x243 x245)) (rdOf ByteArray.empty x243 x245) 1 x243 x244 x245 x498000 x498001 x499000 x499001 x500000 x500001 x501000 x501001) else (some false))) else (none)) else (none)) else (none)) else (laws_FnRingsOpenOfAll.l2 k x2 x4 x6 x7 x17 x21 x25 x29 x37 x38 x39 x40 x42 x43 x44 x45 x46 x47 0 1 x498000 x498001 x499000 x499001 x500000 x500001 x501000 x501001)
def laws_FnRingsOpenOfAll.l1 : Nat → Int → ByteArray → ByteArray → ByteArray → ByteArray → ByteArray → List ByteArray → ByteArray → Int → Bool → Int → Bool → Bool → Bool → Bool → Bool → Bool → ByteArray → ByteArray → Int → List ByteArray → Int → Int → Int → Int → Int → Int → Int → Int → Int → Int → Option (Bool)
  | 0, _, _, _, _, _, _, _, _, _, _, _, _, _, _, _, _, _, _, _, _, _, _, _, _, _, _, _, _, _, _, _ => none
  | k + 1, x2, x4, x6, x7, x17, x21, x25, x29, x37, x38, x39, x40, x42, x43, x44, x45, x46, x47, x49, x50, x243, x244, x245, x498000, x498001, x499000, x499001, x500000, x500001, x501000, x501001 => if x50 < (x49.size : Int) then (if 0 ≤ x50 then (if x50 ≤ (x49.size : Int) then (if (x49.extract (x50 : Int).toNat x49.size).size + (x49.extract 0 (x50 : Int).toNat).size ≤ 9223372036854775807 then (if ((Op.bytesLess x49.toList (((x49.extract (x50 : Int).toNat x49.size) ++ (x49.extract 0 (x50 : Int).toNat)).toList)) = true) then (laws_FnRingsOpenOfAll.l1 k x2 x4 x6 x7 x17 x21 x25 x29 x37 x38 x39 x40 x42 x43 x44 x45 x46 x47 x49 (wrap64 (x50 + 1)) x243 x244 x245 x498000 x498001 x499000 x499001 x500000 x500001 x501000 x501001) else (some false)) else (none)) else (none)) else (none)) else (laws_FnRingsOpenOfAll.l0 k x2 x4 x6 x7 x17 x21 x25 x29 x37 x38 x39 x40 x42 x43 x44 x45 x46 x47 x243 x244 (wrap64 (x245 + 1)) x498000 x498001 x499000 x499001 x500000 x500001 x501000 x501001)
def laws_FnRingsOpenOfAll.l2 : Nat → Int → ByteArray → ByteArray → ByteArray → ByteArray → ByteArray → List ByteArray → ByteArray → Int → Bool → Int → Bool → Bool → Bool → Bool → Bool → Bool → ByteArray → Int → Int → Int → Int → Int → Int → Int → Int → Int → Int → Option (Bool)
  | 0, _, _, _, _, _, _, _, _, _, _, _, _, _, _, _, _, _, _, _, _, _, _, _, _, _, _, _, _ => none
  | k + 1, x2, x4, x6, x7, x17, x21, x25, x29, x37, x38, x39, x40, x42, x43, x44, x45, x46, x47, x51, x52, x498000, x498001, x499000, x499001, x500000, x500001, x501000, x501001 => if x52 ≤ x498000 then (if x52 = 0 then (none) else (if (Int.tmod x498000 x52) = 0 then ((impl_CountLeastWords.f k x498000 x498001 x52).bind fun bt538 => (if bt538.2 = true then (laws_FnRingsOpenOfAll.l2 k x2 x4 x6 x7 x17 x21 x25 x29 x37 x38 x39 x40 x42 x43 x44 x45 x46 x47 (wrap64 (x51 + bt538.1)) (wrap64 (x52 + 1)) x498000 x498001 x499000 x499001 x500000 x500001 x501000 x501001) else (some false))) else (laws_FnRingsOpenOfAll.l2 k x2 x4 x6 x7 x17 x21 x25 x29 x37 x38 x39 x40 x42 x43 x44 x45 x46 x47 x51 (wrap64 (x52 + 1)) x498000 x498001 x499000 x499001 x500000 x500001 x501000 x501001))) else (if x38 = true then (if (x17.size : Int) = x37 then (if x47.toList = x17.toList then ((laws_eSorted.f k x25).bind fun t537 => (if t537 = true then (if x51 = (x25.length : Int) then (if (x29.size : Int) = (wrap64 ((wrap64 (x37 + x498000)) - 1)) then (if x40 = true then (if x39 = x37 then (if x42 = true then (some false) else (if x44 = true then (if x43 = true then (if x46 = true then (if x45 = true then (if ((Op.bytesLess x17.toList x21.toList) = true) then (laws_FnRingsOpenOfAll.j5 k x2 x4 x6 x7 x499000 x499001 x500000 x500001 x501000 x501001) else (some false)) else (some false)) else (some false)) else (some false)) else (some false))) else (some false)) else (some false)) else (some false)) else (some false)) else (some false))) else (some false)) else (some false)) else (some false))
end
def laws_FnRingsOpenOfAll.f (k : Nat) (a0_0 : Int) (a0_1 : Int) (a1_0 : Int) (a1_1 : Int) (a2 : Int) (a3_0 : Int) (a3_1 : Int) (a4 : ByteArray) (a5_0 : Int) (a5_1 : Int) (a6 : ByteArray) (a7 : ByteArray) : Option (Bool) := if (a4.size : Int) > 1048576 then (laws_FnRingsOpenOfAll.j0 k a2 a4 a6 a7 true a0_0 a0_1 a1_0 a1_1 a3_0 a3_1 a5_0 a5_1) else (if (a6.size : Int) > 1048576 then (laws_FnRingsOpenOfAll.j0 k a2 a4 a6 a7 true a0_0 a0_1 a1_0 a1_1 a3_0 a3_1 a5_0 a5_1) else (laws_FnRingsOpenOfAll.j0 k a2 a4 a6 a7 (decide ((a7.size : Int) > 1048576)) a0_0 a0_1 a1_0 a1_1 a3_0 a3_1 a5_0 a5_1))
theorem laws_FnRingsOpenOfAll.mono_l : ∀ k, (∀ y0 y1 y2 y3 y4 y5 y6 y7 y8 y9 y10 y11 y12, LeO (laws_FnRingsOpenOfAll.j0 k y0 y1 y2 y3 y4 y5 y6 y7 y8 y9 y10 y11 y12) (laws_FnRingsOpenOfAll.j0 (k + 1) y0 y1 y2 y3 y4 y5 y6 y7 y8 y9 y10 y11 y12)) ∧ (∀ y0 y1 y2 y3 y4 y5 y6 y7 y8 y9 y10 y11 y12 y13 y14 y15 y16 y17, LeO (laws_FnRingsOpenOfAll.j1 k y0 y1 y2 y3 y4 y5 y6 y7 y8 y9 y10 y11 y12 y13 y14 y15 y16 y17) (laws_FnRingsOpenOfAll.j1 (k + 1) y0 y1 y2 y3 y4 y5 y6 y7 y8 y9 y10 y11 y12 y13 y14 y15 y16 y17)) ∧ (∀ y0 y1 y2 y3 y4 y5 y6 y7 y8 y9, LeO (laws_FnRingsOpenOfAll.j5 k y0 y1 y2 y3 y4 y5 y6 y7 y8 y9) (laws_FnRingsOpenOfAll.j5 (k + 1) y0 y1 y2 y3 y4 y5 y6 y7 y8 y9)) ∧ (∀ y0 y1 y2 y3 y4 y5 y6 y7 y8 y9 y10 y11 y12 y13, LeO (laws_FnRingsOpenOfAll.j6 k y0 y1 y2 y3 y4 y5 y6 y7 y8 y9 y10 y11 y12 y13) (laws_FnRingsOpenOfAll.j6 (k + 1) y0 y1 y2 y3 y4 y5 y6 y7 y8 y9 y10 y11 y12 y13)) ∧ (∀ y0 y1 y2 y3 y4 y5 y6 y7 y8 y9 y10, LeO (laws_FnRingsOpenOfAll.j7 k y0 y1 y2 y3 y4 y5 y6 y7 y8 y9 y10) (laws_FnRingsOpenOfAll.j7 (k + 1) y0 y1 y2 y3 y4 y5 y6 y7 y8 y9 y10)) ∧ (∀ y0 y1 y2 y3 y4 y5, LeO (laws_FnRingsOpenOfAll.j8 k y0 y1 y2 y3 y4 y5) (laws_FnRingsOpenOfAll.j8 (k + 1) y0 y1 y2 y3 y4 y5)) ∧ (∀ y0 y1 y2 y3 y4 y5 y6 y7 y8 y9 y10 y11 y12 y13 y14 y15 y16 y17 y18 y19 y20 y21 y22 y23 y24 y25 y26 y27 y28, LeO (laws_FnRingsOpenOfAll.l0 k y0 y1 y2 y3 y4 y5 y6 y7 y8 y9 y10 y11 y12 y13 y14 y15 y16 y17 y18 y19 y20 y21 y22 y23 y24 y25 y26 y27 y28) (laws_FnRingsOpenOfAll.l0 (k + 1) y0 y1 y2 y3 y4 y5 y6 y7 y8 y9 y10 y11 y12 y13 y14 y15 y16 y17 y18 y19 y20 y21 y22 y23 y24 y25 y26 y27 y28)) ∧ (∀ y0 y1 y2 y3 y4 y5 y6 y7 y8 y9 y10 y11 y12 y13 y14 y15 y16 y17 y18 y19 y20 y21 y22 y23 y24 y25 y26 y27 y28 y29 y30, LeO (laws_FnRingsOpenOfAll.l1 k y0 y1 y2 y3 y4 y5 y6 y7 y8 y9 y10 y11 y12 y13 y14 y15 y16 y17 y18 y19 y20 y21 y22 y23 y24 y25 y26 y27 y28 y29 y30) (laws_FnRingsOpenOfAll.l1 (k + 1) y0 y1 y2 y3 y4 y5 y6 y7 y8 y9 y10 y11 y12 y13 y14 y15 y16 y17 y18 y19 y20 y21 y22 y23 y24 y25 y26 y27 y28 y29 y30)) ∧ (∀ y0 y1 y2 y3 y4 y5 y6 y7 y8 y9 y10 y11 y12 y13 y14 y15 y16 y17 y18 y19 y20 y21 y22 y23 y24 y25 y26 y27, LeO (laws_FnRingsOpenOfAll.l2 k y0 y1 y2 y3 y4 y5 y6 y7 y8 y9 y10 y11 y12 y13 y14 y15 y16 y17 y18 y19 y20 y21 y22 y23 y24 y25 y26 y27) (laws_FnRingsOpenOfAll.l2 (k + 1) y0 y1 y2 y3 y4 y5 y6 y7 y8 y9 y10 y11 y12 y13 y14 y15 y16 y17 y18 y19 y20 y21 y22 y23 y24 y25 y26 y27))
  | 0 => ⟨fun _ _ _ _ _ _ _ _ _ _ _ _ _ r h => by simp [laws_FnRingsOpenOfAll.j0] at h, fun _ _ _ _ _ _ _ _ _ _ _ _ _ _ _ _ _ _ r h => by simp [laws_FnRingsOpenOfAll.j1] at h, fun _ _ _ _ _ _ _ _ _ _ r h => by simp [laws_FnRingsOpenOfAll.j5] at h, fun _ _ _ _ _ _ _ _ _ _ _ _ _ _ r h => by simp [laws_FnRingsOpenOfAll.j6] at h, fun _ _ _ _ _ _ _ _ _ _ _ r h => by simp [laws_FnRingsOpenOfAll.j7] at h, fun _ _ _ _ _ _ r h => by simp [laws_FnRingsOpenOfAll.j8] at h, fun _ _ _ _ _ _ _ _ _ _ _ _ _ _ _ _ _ _ _ _ _ _ _ _ _ _ _ _ _ r h => by simp [laws_FnRingsOpenOfAll.l0] at h, fun _ _ _ _ _ _ _ _ _ _ _ _ _ _ _ _ _ _ _ _ _ _ _ _ _ _ _ _ _ _ _ r h => by simp [laws_FnRingsOpenOfAll.l1] at h, fun _ _ _ _ _ _ _ _ _ _ _ _ _ _ _ _ _ _ _ _ _ _ _ _ _ _ _ _ r h => by simp [laws_FnRingsOpenOfAll.l2] at h⟩
  | k + 1 => by
    obtain ⟨ih0, ih1, ih2, ih3, ih4, ih5, ih6, ih7, ih8⟩ := laws_FnRingsOpenOfAll.mono_l k
    refine ⟨?_, ?_, ?_, ?_, ?_, ?_, ?_, ?_, ?_⟩
    · intro y0 y1 y2 y3 y4 y5 y6 y7 y8 y9 y10 y11 y12
      unfold laws_FnRingsOpenOfAll.j0
      repeat' first
      | (with_reducible exact ih0 _ _ _ _ _ _ _ _ _ _ _ _ _)
      | (with_reducible exact ih1 _ _ _ _ _ _ _ _ _ _ _ _ _ _ _ _ _ _)
      | (with_reducible exact ih2 _ _ _ _ _ _ _ _ _ _)
      | (with_reducible exact ih3 _ _ _ _ _ _ _ _ _ _ _ _ _ _)
      | (with_reducible exact ih4 _ _ _ _ _ _ _ _ _ _ _)
      | (with_reducible exact ih5 _ _ _ _ _ _)
      | (with_reducible exact ih6 _ _ _ _ _ _ _ _ _ _ _ _ _ _ _ _ _ _ _ _ _ _ _ _ _ _ _ _ _)
      | (with_reducible exact ih7 _ _ _ _ _ _ _ _ _ _ _ _ _ _ _ _ _ _ _ _ _ _ _ _ _ _ _ _ _ _ _)
      | (with_reducible exact ih8 _ _ _ _ _ _ _ _ _ _ _ _ _ _ _ _ _ _ _ _ _ _ _ _ _ _ _ _)
      | (with_reducible exact impl_CountCodes.mono _ _ _)
      | (with_reducible exact impl_CountLeastWords.mono _ _ _ _)
      | (with_reducible exact impl_CountOpened.mono _ _ _ _)
      | (with_reducible exact impl_CountRings.mono _ _ _)
      | (with_reducible exact impl_FirstMissed.mono _ _ _ _)
      | (with_reducible exact impl_GreatestRing.mono _ _ _)
      | (with_reducible exact impl_IsRing.mono _ _ _ _)
      | (with_reducible exact impl_LeastRing.mono _ _ _)
      | (with_reducible exact impl_LeastWords.mono _ _ _)
      | (with_reducible exact impl_OpeningText.mono _ _ _)
      | (with_reducible exact impl_StepsToOpen.mono _ _ _ _ _)
      | (with_reducible exact laws_eSorted.mono _ _)
      | (with_reducible exact laws_eTexts.mono _ _ _)
      | (with_reducible exact spec_CountLeastWords.mono _ _ _ _)
      | (with_reducible exact spec_CountOpened.mono _ _ _ _)
      | (with_reducible exact spec_CountRings.mono _ _ _)
      | (with_reducible exact spec_FirstMissed.mono _ _ _ _)
      | (with_reducible exact spec_GreatestRing.mono _ _ _)
      | (with_reducible exact spec_LeastRing.mono _ _ _)
      | (with_reducible exact spec_LeastWords.mono _ _ _)
      | (with_reducible exact spec_OpeningText.mono _ _ _)
      | (with_reducible exact spec_StepsToOpen.mono _ _ _ _ _)
      | (with_reducible exact LeO.refl _)
      | (with_reducible exact LeO.none _)
      | (with_reducible refine LeO.ite ?_ ?_)
      | (with_reducible refine LeO.bind ?_ (fun _ => ?_))
      | exact ih0 _ _ _ _ _ _ _ _ _ _ _ _ _
      | exact ih1 _ _ _ _ _ _ _ _ _ _ _ _ _ _ _ _ _ _
      | exact ih2 _ _ _ _ _ _ _ _ _ _
      | exact ih3 _ _ _ _ _ _ _ _ _ _ _ _ _ _
      | exact ih4 _ _ _ _ _ _ _ _ _ _ _
      | exact ih5 _ _ _ _ _ _
      | exact ih6 _ _ _ _ _ _ _ _ _ _ _ _ _ _ _ _ _ _ _ _ _ _ _ _ _ _ _ _ _
      | exact ih7 _ _ _ _ _ _ _ _ _ _ _ _ _ _ _ _ _ _ _ _ _ _ _ _ _ _ _ _ _ _ _
      | exact ih8 _ _ _ _ _ _ _ _ _ _ _ _ _ _ _ _ _ _ _ _ _ _ _ _ _ _ _ _
      | exact impl_CountCodes.mono _ _ _
      | exact impl_CountLeastWords.mono _ _ _ _
      | exact impl_CountOpened.mono _ _ _ _
      | exact impl_CountRings.mono _ _ _
      | exact impl_FirstMissed.mono _ _ _ _
      | exact impl_GreatestRing.mono _ _ _
      | exact impl_IsRing.mono _ _ _ _
      | exact impl_LeastRing.mono _ _ _
      | exact impl_LeastWords.mono _ _ _
      | exact impl_OpeningText.mono _ _ _
      | exact impl_StepsToOpen.mono _ _ _ _ _
      | exact laws_eSorted.mono _ _
      | exact laws_eTexts.mono _ _ _
      | exact spec_CountLeastWords.mono _ _ _ _
      | exact spec_CountOpened.mono _ _ _ _
      | exact spec_CountRings.mono _ _ _
      | exact spec_FirstMissed.mono _ _ _ _
      | exact spec_GreatestRing.mono _ _ _
      | exact spec_LeastRing.mono _ _ _
      | exact spec_LeastWords.mono _ _ _
      | exact spec_OpeningText.mono _ _ _
      | exact spec_StepsToOpen.mono _ _ _ _ _
      | exact LeO.none _
      | refine LeO.ite ?_ ?_
      | refine LeO.bind ?_ (fun _ => ?_)
    · intro y0 y1 y2 y3 y4 y5 y6 y7 y8 y9 y10 y11 y12 y13 y14 y15 y16 y17
      unfold laws_FnRingsOpenOfAll.j1
      repeat' first
      | (with_reducible exact ih0 _ _ _ _ _ _ _ _ _ _ _ _ _)
      | (with_reducible exact ih1 _ _ _ _ _ _ _ _ _ _ _ _ _ _ _ _ _ _)
      | (with_reducible exact ih2 _ _ _ _ _ _ _ _ _ _)
      | (with_reducible exact ih3 _ _ _ _ _ _ _ _ _ _ _ _ _ _)
      | (with_reducible exact ih4 _ _ _ _ _ _ _ _ _ _ _)
      | (with_reducible exact ih5 _ _ _ _ _ _)
      | (with_reducible exact ih6 _ _ _ _ _ _ _ _ _ _ _ _ _ _ _ _ _ _ _ _ _ _ _ _ _ _ _ _ _)
      | (with_reducible exact ih7 _ _ _ _ _ _ _ _ _ _ _ _ _ _ _ _ _ _ _ _ _ _ _ _ _ _ _ _ _ _ _)
      | (with_reducible exact ih8 _ _ _ _ _ _ _ _ _ _ _ _ _ _ _ _ _ _ _ _ _ _ _ _ _ _ _ _)
      | (with_reducible exact impl_CountCodes.mono _ _ _)
      | (with_reducible exact impl_CountLeastWords.mono _ _ _ _)
      | (with_reducible exact impl_CountOpened.mono _ _ _ _)
      | (with_reducible exact impl_CountRings.mono _ _ _)
      | (with_reducible exact impl_FirstMissed.mono _ _ _ _)
      | (with_reducible exact impl_GreatestRing.mono _ _ _)
      | (with_reducible exact impl_IsRing.mono _ _ _ _)
      | (with_reducible exact impl_LeastRing.mono _ _ _)
      | (with_reducible exact impl_LeastWords.mono _ _ _)
      | (with_reducible exact impl_OpeningText.mono _ _ _)
      | (with_reducible exact impl_StepsToOpen.mono _ _ _ _ _)
      | (with_reducible exact laws_eSorted.mono _ _)
      | (with_reducible exact laws_eTexts.mono _ _ _)
      | (with_reducible exact spec_CountLeastWords.mono _ _ _ _)
      | (with_reducible exact spec_CountOpened.mono _ _ _ _)
      | (with_reducible exact spec_CountRings.mono _ _ _)
      | (with_reducible exact spec_FirstMissed.mono _ _ _ _)
      | (with_reducible exact spec_GreatestRing.mono _ _ _)
      | (with_reducible exact spec_LeastRing.mono _ _ _)
      | (with_reducible exact spec_LeastWords.mono _ _ _)
      | (with_reducible exact spec_OpeningText.mono _ _ _)
      | (with_reducible exact spec_StepsToOpen.mono _ _ _ _ _)
      | (with_reducible exact LeO.refl _)
      | (with_reducible exact LeO.none _)
      | (with_reducible refine LeO.ite ?_ ?_)
      | (with_reducible refine LeO.bind ?_ (fun _ => ?_))
      | exact ih0 _ _ _ _ _ _ _ _ _ _ _ _ _
      | exact ih1 _ _ _ _ _ _ _ _ _ _ _ _ _ _ _ _ _ _
      | exact ih2 _ _ _ _ _ _ _ _ _ _
      | exact ih3 _ _ _ _ _ _ _ _ _ _ _ _ _ _
      | exact ih4 _ _ _ _ _ _ _ _ _ _ _
      | exact ih5 _ _ _ _ _ _
      | exact ih6 _ _ _ _ _ _ _ _ _ _ _ _ _ _ _ _ _ _ _ _ _ _ _ _ _ _ _ _ _
      | exact ih7 _ _ _ _ _ _ _ _ _ _ _ _ _ _ _ _ _ _ _ _ _ _ _ _ _ _ _ _ _ _ _
      | exact ih8 _ _ _ _ _ _ _ _ _ _ _ _ _ _ _ _ _ _ _ _ _ _ _ _ _ _ _ _
      | exact impl_CountCodes.mono _ _ _
      | exact impl_CountLeastWords.mono _ _ _ _
      | exact impl_CountOpened.mono _ _ _ _
      | exact impl_CountRings.mono _ _ _
      | exact impl_FirstMissed.mono _ _ _ _
      | exact impl_GreatestRing.mono _ _ _
      | exact impl_IsRing.mono _ _ _ _
      | exact impl_LeastRing.mono _ _ _
      | exact impl_LeastWords.mono _ _ _
      | exact impl_OpeningText.mono _ _ _
      | exact impl_StepsToOpen.mono _ _ _ _ _
      | exact laws_eSorted.mono _ _
      | exact laws_eTexts.mono _ _ _
      | exact spec_CountLeastWords.mono _ _ _ _
      | exact spec_CountOpened.mono _ _ _ _
      | exact spec_CountRings.mono _ _ _
      | exact spec_FirstMissed.mono _ _ _ _
      | exact spec_GreatestRing.mono _ _ _
      | exact spec_LeastRing.mono _ _ _
      | exact spec_LeastWords.mono _ _ _
      | exact spec_OpeningText.mono _ _ _
      | exact spec_StepsToOpen.mono _ _ _ _ _
      | exact LeO.none _
      | refine LeO.ite ?_ ?_
      | refine LeO.bind ?_ (fun _ => ?_)
    · intro y0 y1 y2 y3 y4 y5 y6 y7 y8 y9
      unfold laws_FnRingsOpenOfAll.j5
      repeat' first
      | (with_reducible exact ih0 _ _ _ _ _ _ _ _ _ _ _ _ _)
      | (with_reducible exact ih1 _ _ _ _ _ _ _ _ _ _ _ _ _ _ _ _ _ _)
      | (with_reducible exact ih2 _ _ _ _ _ _ _ _ _ _)
      | (with_reducible exact ih3 _ _ _ _ _ _ _ _ _ _ _ _ _ _)
      | (with_reducible exact ih4 _ _ _ _ _ _ _ _ _ _ _)
      | (with_reducible exact ih5 _ _ _ _ _ _)
      | (with_reducible exact ih6 _ _ _ _ _ _ _ _ _ _ _ _ _ _ _ _ _ _ _ _ _ _ _ _ _ _ _ _ _)
      | (with_reducible exact ih7 _ _ _ _ _ _ _ _ _ _ _ _ _ _ _ _ _ _ _ _ _ _ _ _ _ _ _ _ _ _ _)
      | (with_reducible exact ih8 _ _ _ _ _ _ _ _ _ _ _ _ _ _ _ _ _ _ _ _ _ _ _ _ _ _ _ _)
      | (with_reducible exact impl_CountCodes.mono _ _ _)
      | (with_reducible exact impl_CountLeastWords.mono _ _ _ _)
      | (with_reducible exact impl_CountOpened.mono _ _ _ _)
      | (with_reducible exact impl_CountRings.mono _ _ _)
      | (with_reducible exact impl_FirstMissed.mono _ _ _ _)
      | (with_reducible exact impl_GreatestRing.mono _ _ _)
      | (with_reducible exact impl_IsRing.mono _ _ _ _)
      | (with_reducible exact impl_LeastRing.mono _ _ _)
      | (with_reducible exact impl_LeastWords.mono _ _ _)
      | (with_reducible exact impl_OpeningText.mono _ _ _)
      | (with_reducible exact impl_StepsToOpen.mono _ _ _ _ _)
      | (with_reducible exact laws_eSorted.mono _ _)
      | (with_reducible exact laws_eTexts.mono _ _ _)
      | (with_reducible exact spec_CountLeastWords.mono _ _ _ _)
      | (with_reducible exact spec_CountOpened.mono _ _ _ _)
      | (with_reducible exact spec_CountRings.mono _ _ _)
      | (with_reducible exact spec_FirstMissed.mono _ _ _ _)
      | (with_reducible exact spec_GreatestRing.mono _ _ _)
      | (with_reducible exact spec_LeastRing.mono _ _ _)
      | (with_reducible exact spec_LeastWords.mono _ _ _)
      | (with_reducible exact spec_OpeningText.mono _ _ _)
      | (with_reducible exact spec_StepsToOpen.mono _ _ _ _ _)
      | (with_reducible exact LeO.refl _)
      | (with_reducible exact LeO.none _)
      | (with_reducible refine LeO.ite ?_ ?_)
      | (with_reducible refine LeO.bind ?_ (fun _ => ?_))
      | exact ih0 _ _ _ _ _ _ _ _ _ _ _ _ _
      | exact ih1 _ _ _ _ _ _ _ _ _ _ _ _ _ _ _ _ _ _
      | exact ih2 _ _ _ _ _ _ _ _ _ _
      | exact ih3 _ _ _ _ _ _ _ _ _ _ _ _ _ _
      | exact ih4 _ _ _ _ _ _ _ _ _ _ _
      | exact ih5 _ _ _ _ _ _
      | exact ih6 _ _ _ _ _ _ _ _ _ _ _ _ _ _ _ _ _ _ _ _ _ _ _ _ _ _ _ _ _
      | exact ih7 _ _ _ _ _ _ _ _ _ _ _ _ _ _ _ _ _ _ _ _ _ _ _ _ _ _ _ _ _ _ _
      | exact ih8 _ _ _ _ _ _ _ _ _ _ _ _ _ _ _ _ _ _ _ _ _ _ _ _ _ _ _ _
      | exact impl_CountCodes.mono _ _ _
      | exact impl_CountLeastWords.mono _ _ _ _
      | exact impl_CountOpened.mono _ _ _ _
      | exact impl_CountRings.mono _ _ _
      | exact impl_FirstMissed.mono _ _ _ _
      | exact impl_GreatestRing.mono _ _ _
      | exact impl_IsRing.mono _ _ _ _
      | exact impl_LeastRing.mono _ _ _
      | exact impl_LeastWords.mono _ _ _
      | exact impl_OpeningText.mono _ _ _
      | exact impl_StepsToOpen.mono _ _ _ _ _
      | exact laws_eSorted.mono _ _
      | exact laws_eTexts.mono _ _ _
      | exact spec_CountLeastWords.mono _ _ _ _
      | exact spec_CountOpened.mono _ _ _ _
      | exact spec_CountRings.mono _ _ _
      | exact spec_FirstMissed.mono _ _ _ _
      | exact spec_GreatestRing.mono _ _ _
      | exact spec_LeastRing.mono _ _ _
      | exact spec_LeastWords.mono _ _ _
      | exact spec_OpeningText.mono _ _ _
      | exact spec_StepsToOpen.mono _ _ _ _ _
      | exact LeO.none _
      | refine LeO.ite ?_ ?_
      | refine LeO.bind ?_ (fun _ => ?_)
    · intro y0 y1 y2 y3 y4 y5 y6 y7 y8 y9 y10 y11 y12 y13
      unfold laws_FnRingsOpenOfAll.j6
      repeat' first
      | (with_reducible exact ih0 _ _ _ _ _ _ _ _ _ _ _ _ _)
      | (with_reducible exact ih1 _ _ _ _ _ _ _ _ _ _ _ _ _ _ _ _ _ _)
      | (with_reducible exact ih2 _ _ _ _ _ _ _ _ _ _)
      | (with_reducible exact ih3 _ _ _ _ _ _ _ _ _ _ _ _ _ _)
      | (with_reducible exact ih4 _ _ _ _ _ _ _ _ _ _ _)
      | (with_reducible exact ih5 _ _ _ _ _ _)
      | (with_reducible exact ih6 _ _ _ _ _ _ _ _ _ _ _ _ _ _ _ _ _ _ _ _ _ _ _ _ _ _ _ _ _)
      | (with_reducible exact ih7 _ _ _ _ _ _ _ _ _ _ _ _ _ _ _ _ _ _ _ _ _ _ _ _ _ _ _ _ _ _ _)
      | (with_reducible exact ih8 _ _ _ _ _ _ _ _ _ _ _ _ _ _ _ _ _ _ _ _ _ _ _ _ _ _ _ _)
      | (with_reducible exact impl_CountCodes.mono _ _ _)
      | (with_reducible exact impl_CountLeastWords.mono _ _ _ _)
      | (with_reducible exact impl_CountOpened.mono _ _ _ _)
      | (with_reducible exact impl_CountRings.mono _ _ _)
      | (with_reducible exact impl_FirstMissed.mono _ _ _ _)
      | (with_reducible exact impl_GreatestRing.mono _ _ _)
      | (with_reducible exact impl_IsRing.mono _ _ _ _)
      | (with_reducible exact impl_LeastRing.mono _ _ _)
      | (with_reducible exact impl_LeastWords.mono _ _ _)
      | (with_reducible exact impl_OpeningText.mono _ _ _)
      | (with_reducible exact impl_StepsToOpen.mono _ _ _ _ _)
      | (with_reducible exact laws_eSorted.mono _ _)
      | (with_reducible exact laws_eTexts.mono _ _ _)
      | (with_reducible exact spec_CountLeastWords.mono _ _ _ _)
      | (with_reducible exact spec_CountOpened.mono _ _ _ _)
      | (with_reducible exact spec_CountRings.mono _ _ _)
      | (with_reducible exact spec_FirstMissed.mono _ _ _ _)
      | (with_reducible exact spec_GreatestRing.mono _ _ _)
      | (with_reducible exact spec_LeastRing.mono _ _ _)
      | (with_reducible exact spec_LeastWords.mono _ _ _)
      | (with_reducible exact spec_OpeningText.mono _ _ _)
      | (with_reducible exact spec_StepsToOpen.mono _ _ _ _ _)
      | (with_reducible exact LeO.refl _)
      | (with_reducible exact LeO.none _)
      | (with_reducible refine LeO.ite ?_ ?_)
      | (with_reducible refine LeO.bind ?_ (fun _ => ?_))
      | exact ih0 _ _ _ _ _ _ _ _ _ _ _ _ _
      | exact ih1 _ _ _ _ _ _ _ _ _ _ _ _ _ _ _ _ _ _
      | exact ih2 _ _ _ _ _ _ _ _ _ _
      | exact ih3 _ _ _ _ _ _ _ _ _ _ _ _ _ _
      | exact ih4 _ _ _ _ _ _ _ _ _ _ _
      | exact ih5 _ _ _ _ _ _
      | exact ih6 _ _ _ _ _ _ _ _ _ _ _ _ _ _ _ _ _ _ _ _ _ _ _ _ _ _ _ _ _
      | exact ih7 _ _ _ _ _ _ _ _ _ _ _ _ _ _ _ _ _ _ _ _ _ _ _ _ _ _ _ _ _ _ _
      | exact ih8 _ _ _ _ _ _ _ _ _ _ _ _ _ _ _ _ _ _ _ _ _ _ _ _ _ _ _ _
      | exact impl_CountCodes.mono _ _ _
      | exact impl_CountLeastWords.mono _ _ _ _
      | exact impl_CountOpened.mono _ _ _ _
      | exact impl_CountRings.mono _ _ _
      | exact impl_FirstMissed.mono _ _ _ _
      | exact impl_GreatestRing.mono _ _ _
      | exact impl_IsRing.mono _ _ _ _
      | exact impl_LeastRing.mono _ _ _
      | exact impl_LeastWords.mono _ _ _
      | exact impl_OpeningText.mono _ _ _
      | exact impl_StepsToOpen.mono _ _ _ _ _
      | exact laws_eSorted.mono _ _
      | exact laws_eTexts.mono _ _ _
      | exact spec_CountLeastWords.mono _ _ _ _
      | exact spec_CountOpened.mono _ _ _ _
      | exact spec_CountRings.mono _ _ _
      | exact spec_FirstMissed.mono _ _ _ _
      | exact spec_GreatestRing.mono _ _ _
      | exact spec_LeastRing.mono _ _ _
      | exact spec_LeastWords.mono _ _ _
      | exact spec_OpeningText.mono _ _ _
      | exact spec_StepsToOpen.mono _ _ _ _ _
      | exact LeO.none _
      | refine LeO.ite ?_ ?_
      | refine LeO.bind ?_ (fun _ => ?_)
    · intro y0 y1 y2 y3 y4 y5 y6 y7 y8 y9 y10
      unfold laws_FnRingsOpenOfAll.j7
      repeat' first
      | (with_reducible exact ih0 _ _ _ _ _ _ _ _ _ _ _ _ _)
      | (with_reducible exact ih1 _ _ _ _ _ _ _ _ _ _ _ _ _ _ _ _ _ _)
      | (with_reducible exact ih2 _ _ _ _ _ _ _ _ _ _)
      | (with_reducible exact ih3 _ _ _ _ _ _ _ _ _ _ _ _ _ _)
      | (with_reducible exact ih4 _ _ _ _ _ _ _ _ _ _ _)
      | (with_reducible exact ih5 _ _ _ _ _ _)
      | (with_reducible exact ih6 _ _ _ _ _ _ _ _ _ _ _ _ _ _ _ _ _ _ _ _ _ _ _ _ _ _ _ _ _)
      | (with_reducible exact ih7 _ _ _ _ _ _ _ _ _ _ _ _ _ _ _ _ _ _ _ _ _ _ _ _ _ _ _ _ _ _ _)
      | (with_reducible exact ih8 _ _ _ _ _ _ _ _ _ _ _ _ _ _ _ _ _ _ _ _ _ _ _ _ _ _ _ _)
      | (with_reducible exact impl_CountCodes.mono _ _ _)
      | (with_reducible exact impl_CountLeastWords.mono _ _ _ _)
      | (with_reducible exact impl_CountOpened.mono _ _ _ _)
      | (with_reducible exact impl_CountRings.mono _ _ _)
      | (with_reducible exact impl_FirstMissed.mono _ _ _ _)
      | (with_reducible exact impl_GreatestRing.mono _ _ _)
      | (with_reducible exact impl_IsRing.mono _ _ _ _)
      | (with_reducible exact impl_LeastRing.mono _ _ _)
      | (with_reducible exact impl_LeastWords.mono _ _ _)
      | (with_reducible exact impl_OpeningText.mono _ _ _)
      | (with_reducible exact impl_StepsToOpen.mono _ _ _ _ _)
      | (with_reducible exact laws_eSorted.mono _ _)
      | (with_reducible exact laws_eTexts.mono _ _ _)
      | (with_reducible exact spec_CountLeastWords.mono _ _ _ _)
      | (with_reducible exact spec_CountOpened.mono _ _ _ _)
      | (with_reducible exact spec_CountRings.mono _ _ _)
      | (with_reducible exact spec_FirstMissed.mono _ _ _ _)
      | (with_reducible exact spec_GreatestRing.mono _ _ _)
      | (with_reducible exact spec_LeastRing.mono _ _ _)
      | (with_reducible exact spec_LeastWords.mono _ _ _)
      | (with_reducible exact spec_OpeningText.mono _ _ _)
      | (with_reducible exact spec_StepsToOpen.mono _ _ _ _ _)
      | (with_reducible exact LeO.refl _)
      | (with_reducible exact LeO.none _)
      | (with_reducible refine LeO.ite ?_ ?_)
      | (with_reducible refine LeO.bind ?_ (fun _ => ?_))
      | exact ih0 _ _ _ _ _ _ _ _ _ _ _ _ _
      | exact ih1 _ _ _ _ _ _ _ _ _ _ _ _ _ _ _ _ _ _
      | exact ih2 _ _ _ _ _ _ _ _ _ _
      | exact ih3 _ _ _ _ _ _ _ _ _ _ _ _ _ _
      | exact ih4 _ _ _ _ _ _ _ _ _ _ _
      | exact ih5 _ _ _ _ _ _
      | exact ih6 _ _ _ _ _ _ _ _ _ _ _ _ _ _ _ _ _ _ _ _ _ _ _ _ _ _ _ _ _
      | exact ih7 _ _ _ _ _ _ _ _ _ _ _ _ _ _ _ _ _ _ _ _ _ _ _ _ _ _ _ _ _ _ _
      | exact ih8 _ _ _ _ _ _ _ _ _ _ _ _ _ _ _ _ _ _ _ _ _ _ _ _ _ _ _ _
      | exact impl_CountCodes.mono _ _ _
      | exact impl_CountLeastWords.mono _ _ _ _
      | exact impl_CountOpened.mono _ _ _ _
      | exact impl_CountRings.mono _ _ _
      | exact impl_FirstMissed.mono _ _ _ _
      | exact impl_GreatestRing.mono _ _ _
      | exact impl_IsRing.mono _ _ _ _
      | exact impl_LeastRing.mono _ _ _
      | exact impl_LeastWords.mono _ _ _
      | exact impl_OpeningText.mono _ _ _
      | exact impl_StepsToOpen.mono _ _ _ _ _
      | exact laws_eSorted.mono _ _
      | exact laws_eTexts.mono _ _ _
      | exact spec_CountLeastWords.mono _ _ _ _
      | exact spec_CountOpened.mono _ _ _ _
      | exact spec_CountRings.mono _ _ _
      | exact spec_FirstMissed.mono _ _ _ _
      | exact spec_GreatestRing.mono _ _ _
      | exact spec_LeastRing.mono _ _ _
      | exact spec_LeastWords.mono _ _ _
      | exact spec_OpeningText.mono _ _ _
      | exact spec_StepsToOpen.mono _ _ _ _ _
      | exact LeO.none _
      | refine LeO.ite ?_ ?_
      | refine LeO.bind ?_ (fun _ => ?_)
    · intro y0 y1 y2 y3 y4 y5
      unfold laws_FnRingsOpenOfAll.j8
      repeat' first
      | (with_reducible exact ih0 _ _ _ _ _ _ _ _ _ _ _ _ _)
      | (with_reducible exact ih1 _ _ _ _ _ _ _ _ _ _ _ _ _ _ _ _ _ _)
      | (with_reducible exact ih2 _ _ _ _ _ _ _ _ _ _)
      | (with_reducible exact ih3 _ _ _ _ _ _ _ _ _ _ _ _ _ _)
      | (with_reducible exact ih4 _ _ _ _ _ _ _ _ _ _ _)
      | (with_reducible exact ih5 _ _ _ _ _ _)
      | (with_reducible exact ih6 _ _ _ _ _ _ _ _ _ _ _ _ _ _ _ _ _ _ _ _ _ _ _ _ _ _ _ _ _)
      | (with_reducible exact ih7 _ _ _ _ _ _ _ _ _ _ _ _ _ _ _ _ _ _ _ _ _ _ _ _ _ _ _ _ _ _ _)
      | (with_reducible exact ih8 _ _ _ _ _ _ _ _ _ _ _ _ _ _ _ _ _ _ _ _ _ _ _ _ _ _ _ _)
      | (with_reducible exact impl_CountCodes.mono _ _ _)
      | (with_reducible exact impl_CountLeastWords.mono _ _ _ _)
      | (with_reducible exact impl_CountOpened.mono _ _ _ _)
      | (with_reducible exact impl_CountRings.mono _ _ _)
      | (with_reducible exact impl_FirstMissed.mono _ _ _ _)
      | (with_reducible exact impl_GreatestRing.mono _ _ _)
      | (with_reducible exact impl_IsRing.mono _ _ _ _)
      | (with_reducible exact impl_LeastRing.mono _ _ _)
      | (with_reducible exact impl_LeastWords.mono _ _ _)
      | (with_reducible exact impl_OpeningText.mono _ _ _)
      | (with_reducible exact impl_StepsToOpen.mono _ _ _ _ _)
      | (with_reducible exact laws_eSorted.mono _ _)
      | (with_reducible exact laws_eTexts.mono _ _ _)
      | (with_reducible exact spec_CountLeastWords.mono _ _ _ _)
      | (with_reducible exact spec_CountOpened.mono _ _ _ _)
      | (with_reducible exact spec_CountRings.mono _ _ _)
      | (with_reducible exact spec_FirstMissed.mono _ _ _ _)
      | (with_reducible exact spec_GreatestRing.mono _ _ _)
      | (with_reducible exact spec_LeastRing.mono _ _ _)
      | (with_reducible exact spec_LeastWords.mono _ _ _)
      | (with_reducible exact spec_OpeningText.mono _ _ _)
      | (with_reducible exact spec_StepsToOpen.mono _ _ _ _ _)
      | (with_reducible exact LeO.refl _)
      | (with_reducible exact LeO.none _)
      | (with_reducible refine LeO.ite ?_ ?_)
      | (with_reducible refine LeO.bind ?_ (fun _ => ?_))
      | exact ih0 _ _ _ _ _ _ _ _ _ _ _ _ _
      | exact ih1 _ _ _ _ _ _ _ _ _ _ _ _ _ _ _ _ _ _
      | exact ih2 _ _ _ _ _ _ _ _ _ _
      | exact ih3 _ _ _ _ _ _ _ _ _ _ _ _ _ _
      | exact ih4 _ _ _ _ _ _ _ _ _ _ _
      | exact ih5 _ _ _ _ _ _
      | exact ih6 _ _ _ _ _ _ _ _ _ _ _ _ _ _ _ _ _ _ _ _ _ _ _ _ _ _ _ _ _
      | exact ih7 _ _ _ _ _ _ _ _ _ _ _ _ _ _ _ _ _ _ _ _ _ _ _ _ _ _ _ _ _ _ _
      | exact ih8 _ _ _ _ _ _ _ _ _ _ _ _ _ _ _ _ _ _ _ _ _ _ _ _ _ _ _ _
      | exact impl_CountCodes.mono _ _ _
      | exact impl_CountLeastWords.mono _ _ _ _
      | exact impl_CountOpened.mono _ _ _ _
      | exact impl_CountRings.mono _ _ _
      | exact impl_FirstMissed.mono _ _ _ _
      | exact impl_GreatestRing.mono _ _ _
      | exact impl_IsRing.mono _ _ _ _
      | exact impl_LeastRing.mono _ _ _
      | exact impl_LeastWords.mono _ _ _
      | exact impl_OpeningText.mono _ _ _
      | exact impl_StepsToOpen.mono _ _ _ _ _
      | exact laws_eSorted.mono _ _
      | exact laws_eTexts.mono _ _ _
      | exact spec_CountLeastWords.mono _ _ _ _
      | exact spec_CountOpened.mono _ _ _ _
      | exact spec_CountRings.mono _ _ _
      | exact spec_FirstMissed.mono _ _ _ _
      | exact spec_GreatestRing.mono _ _ _
      | exact spec_LeastRing.mono _ _ _
      | exact spec_LeastWords.mono _ _ _
      | exact spec_OpeningText.mono _ _ _
      | exact spec_StepsToOpen.mono _ _ _ _ _
      | exact LeO.none _
      | refine LeO.ite ?_ ?_
      | refine LeO.bind ?_ (fun _ => ?_)
    · intro y0 y1 y2 y3 y4 y5 y6 y7 y8 y9 y10 y11 y12 y13 y14 y15 y16 y17 y18 y19 y20 y21 y22 y23 y24 y25 y26 y27 y28
      unfold laws_FnRingsOpenOfAll.l0
      repeat' first
      | (with_reducible exact ih0 _ _ _ _ _ _ _ _ _ _ _ _ _)
      | (with_reducible exact ih1 _ _ _ _ _ _ _ _ _ _ _ _ _ _ _ _ _ _)
      | (with_reducible exact ih2 _ _ _ _ _ _ _ _ _ _)
      | (with_reducible exact ih3 _ _ _ _ _ _ _ _ _ _ _ _ _ _)
      | (with_reducible exact ih4 _ _ _ _ _ _ _ _ _ _ _)
      | (with_reducible exact ih5 _ _ _ _ _ _)
      | (with_reducible exact ih6 _ _ _ _ _ _ _ _ _ _ _ _ _ _ _ _ _ _ _ _ _ _ _ _ _ _ _ _ _)
      | (with_reducible exact ih7 _ _ _ _ _ _ _ _ _ _ _ _ _ _ _ _ _ _ _ _ _ _ _ _ _ _ _ _ _ _ _)
      | (with_reducible exact ih8 _ _ _ _ _ _ _ _ _ _ _ _ _ _ _ _ _ _ _ _ _ _ _ _ _ _ _ _)
      | (with_reducible exact impl_CountCodes.mono _ _ _)
      | (with_reducible exact impl_CountLeastWords.mono _ _ _ _)
      | (with_reducible exact impl_CountOpened.mono _ _ _ _)
      | (with_reducible exact impl_CountRings.mono _ _ _)
      | (with_reducible exact impl_FirstMissed.mono _ _ _ _)
      | (with_reducible exact impl_GreatestRing.mono _ _ _)
      | (with_reducible exact impl_IsRing.mono _ _ _ _)
      | (with_reducible exact impl_LeastRing.mono _ _ _)
      | (with_reducible exact impl_LeastWords.mono _ _ _)
      | (with_reducible exact impl_OpeningText.mono _ _ _)
      | (with_reducible exact impl_StepsToOpen.mono _ _ _ _ _)
      | (with_reducible exact laws_eSorted.mono _ _)
      | (with_reducible exact laws_eTexts.mono _ _ _)
      | (with_reducible exact spec_CountLeastWords.mono _ _ _ _)
      | (with_reducible exact spec_CountOpened.mono _ _ _ _)
      | (with_reducible exact spec_CountRings.mono _ _ _)
      | (with_reducible exact spec_FirstMissed.mono _ _ _ _)
      | (with_reducible exact spec_GreatestRing.mono _ _ _)
      | (with_reducible exact spec_LeastRing.mono _ _ _)
      | (with_reducible exact spec_LeastWords.mono _ _ _)
      | (with_reducible exact spec_OpeningText.mono _ _ _)
      | (with_reducible exact spec_StepsToOpen.mono _ _ _ _ _)
      | (with_reducible exact LeO.refl _)
      | (with_reducible exact LeO.none _)
      | (with_reducible refine LeO.ite ?_ ?_)
      | (with_reducible refine LeO.bind ?_ (fun _ => ?_))
      | exact ih0 _ _ _ _ _ _ _ _ _ _ _ _ _
      | exact ih1 _ _ _ _ _ _ _ _ _ _ _ _ _ _ _ _ _ _
      | exact ih2 _ _ _ _ _ _ _ _ _ _
      | exact ih3 _ _ _ _ _ _ _ _ _ _ _ _ _ _
      | exact ih4 _ _ _ _ _ _ _ _ _ _ _
      | exact ih5 _ _ _ _ _ _
      | exact ih6 _ _ _ _ _ _ _ _ _ _ _ _ _ _ _ _ _ _ _ _ _ _ _ _ _ _ _ _ _
      | exact ih7 _ _ _ _ _ _ _ _ _ _ _ _ _ _ _ _ _ _ _ _ _ _ _ _ _ _ _ _ _ _ _
      | exact ih8 _ _ _ _ _ _ _ _ _ _ _ _ _ _ _ _ _ _ _ _ _ _ _ _ _ _ _ _
      | exact impl_CountCodes.mono _ _ _
      | exact impl_CountLeastWords.mono _ _ _ _
      | exact impl_CountOpened.mono _ _ _ _
      | exact impl_CountRings.mono _ _ _
      | exact impl_FirstMissed.mono _ _ _ _
      | exact impl_GreatestRing.mono _ _ _
      | exact impl_IsRing.mono _ _ _ _
      | exact impl_LeastRing.mono _ _ _
      | exact impl_LeastWords.mono _ _ _
      | exact impl_OpeningText.mono _ _ _
      | exact impl_StepsToOpen.mono _ _ _ _ _
      | exact laws_eSorted.mono _ _
      | exact laws_eTexts.mono _ _ _
      | exact spec_CountLeastWords.mono _ _ _ _
      | exact spec_CountOpened.mono _ _ _ _
      | exact spec_CountRings.mono _ _ _
      | exact spec_FirstMissed.mono _ _ _ _
      | exact spec_GreatestRing.mono _ _ _
      | exact spec_LeastRing.mono _ _ _
      | exact spec_LeastWords.mono _ _ _
      | exact spec_OpeningText.mono _ _ _
      | exact spec_StepsToOpen.mono _ _ _ _ _
      | exact LeO.none _
      | refine LeO.ite ?_ ?_
      | refine LeO.bind ?_ (fun _ => ?_)
    · intro y0 y1 y2 y3 y4 y5 y6 y7 y8 y9 y10 y11 y12 y13 y14 y15 y16 y17 y18 y19 y20 y21 y22 y23 y24 y25 y26 y27 y28 y29 y30
      unfold laws_FnRingsOpenOfAll.l1
      repeat' first
      | (with_reducible exact ih0 _ _ _ _ _ _ _ _ _ _ _ _ _)
      | (with_reducible exact ih1 _ _ _ _ _ _ _ _ _ _ _ _ _ _ _ _ _ _)
      | (with_reducible exact ih2 _ _ _ _ _ _ _ _ _ _)
      | (with_reducible exact ih3 _ _ _ _ _ _ _ _ _ _ _ _ _ _)
      | (with_reducible exact ih4 _ _ _ _ _ _ _ _ _ _ _)
      | (with_reducible exact ih5 _ _ _ _ _ _)
      | (with_reducible exact ih6 _ _ _ _ _ _ _ _ _ _ _ _ _ _ _ _ _ _ _ _ _ _ _ _ _ _ _ _ _)
      | (with_reducible exact ih7 _ _ _ _ _ _ _ _ _ _ _ _ _ _ _ _ _ _ _ _ _ _ _ _ _ _ _ _ _ _ _)
      | (with_reducible exact ih8 _ _ _ _ _ _ _ _ _ _ _ _ _ _ _ _ _ _ _ _ _ _ _ _ _ _ _ _)
      | (with_reducible exact impl_CountCodes.mono _ _ _)
      | (with_reducible exact impl_CountLeastWords.mono _ _ _ _)
      | (with_reducible exact impl_CountOpened.mono _ _ _ _)
      | (with_reducible exact impl_CountRings.mono _ _ _)
      | (with_reducible exact impl_FirstMissed.mono _ _ _ _)
      | (with_reducible exact impl_GreatestRing.mono _ _ _)
      | (with_reducible exact impl_IsRing.mono _ _ _ _)
      | (with_reducible exact impl_LeastRing.mono _ _ _)
      | (with_reducible exact impl_LeastWords.mono _ _ _)
      | (with_reducible exact impl_OpeningText.mono _ _ _)
      | (with_reducible exact impl_StepsToOpen.mono _ _ _ _ _)
      | (with_reducible exact laws_eSorted.mono _ _)
      | (with_reducible exact laws_eTexts.mono _ _ _)
      | (with_reducible exact spec_CountLeastWords.mono _ _ _ _)
      | (with_reducible exact spec_CountOpened.mono _ _ _ _)
      | (with_reducible exact spec_CountRings.mono _ _ _)
      | (with_reducible exact spec_FirstMissed.mono _ _ _ _)
      | (with_reducible exact spec_GreatestRing.mono _ _ _)
      | (with_reducible exact spec_LeastRing.mono _ _ _)
      | (with_reducible exact spec_LeastWords.mono _ _ _)
      | (with_reducible exact spec_OpeningText.mono _ _ _)
      | (with_reducible exact spec_StepsToOpen.mono _ _ _ _ _)
      | (with_reducible exact LeO.refl _)
      | (with_reducible exact LeO.none _)
      | (with_reducible refine LeO.ite ?_ ?_)
      | (with_reducible refine LeO.bind ?_ (fun _ => ?_))
      | exact ih0 _ _ _ _ _ _ _ _ _ _ _ _ _
      | exact ih1 _ _ _ _ _ _ _ _ _ _ _ _ _ _ _ _ _ _
      | exact ih2 _ _ _ _ _ _ _ _ _ _
      | exact ih3 _ _ _ _ _ _ _ _ _ _ _ _ _ _
      | exact ih4 _ _ _ _ _ _ _ _ _ _ _
      | exact ih5 _ _ _ _ _ _
      | exact ih6 _ _ _ _ _ _ _ _ _ _ _ _ _ _ _ _ _ _ _ _ _ _ _ _ _ _ _ _ _
      | exact ih7 _ _ _ _ _ _ _ _ _ _ _ _ _ _ _ _ _ _ _ _ _ _ _ _ _ _ _ _ _ _ _
      | exact ih8 _ _ _ _ _ _ _ _ _ _ _ _ _ _ _ _ _ _ _ _ _ _ _ _ _ _ _ _
      | exact impl_CountCodes.mono _ _ _
      | exact impl_CountLeastWords.mono _ _ _ _
      | exact impl_CountOpened.mono _ _ _ _
      | exact impl_CountRings.mono _ _ _
      | exact impl_FirstMissed.mono _ _ _ _
      | exact impl_GreatestRing.mono _ _ _
      | exact impl_IsRing.mono _ _ _ _
      | exact impl_LeastRing.mono _ _ _
      | exact impl_LeastWords.mono _ _ _
      | exact impl_OpeningText.mono _ _ _
      | exact impl_StepsToOpen.mono _ _ _ _ _
      | exact laws_eSorted.mono _ _
      | exact laws_eTexts.mono _ _ _
      | exact spec_CountLeastWords.mono _ _ _ _
      | exact spec_CountOpened.mono _ _ _ _
      | exact spec_CountRings.mono _ _ _
      | exact spec_FirstMissed.mono _ _ _ _
      | exact spec_GreatestRing.mono _ _ _
      | exact spec_LeastRing.mono _ _ _
      | exact spec_LeastWords.mono _ _ _
      | exact spec_OpeningText.mono _ _ _
      | exact spec_StepsToOpen.mono _ _ _ _ _
      | exact LeO.none _
      | refine LeO.ite ?_ ?_
      | refine LeO.bind ?_ (fun _ => ?_)
    · intro y0 y1 y2 y3 y4 y5 y6 y7 y8 y9 y10 y11 y12 y13 y14 y15 y16 y17 y18 y19 y20 y21 y22 y23 y24 y25 y26 y27
      unfold laws_FnRingsOpenOfAll.l2
      repeat' first
      | (with_reducible exact ih0 _ _ _ _ _ _ _ _ _ _ _ _ _)
      | (with_reducible exact ih1 _ _ _ _ _ _ _ _ _ _ _ _ _ _ _ _ _ _)
      | (with_reducible exact ih2 _ _ _ _ _ _ _ _ _ _)
      | (with_reducible exact ih3 _ _ _ _ _ _ _ _ _ _ _ _ _ _)
      | (with_reducible exact ih4 _ _ _ _ _ _ _ _ _ _ _)
      | (with_reducible exact ih5 _ _ _ _ _ _)
      | (with_reducible exact ih6 _ _ _ _ _ _ _ _ _ _ _ _ _ _ _ _ _ _ _ _ _ _ _ _ _ _ _ _ _)
      | (with_reducible exact ih7 _ _ _ _ _ _ _ _ _ _ _ _ _ _ _ _ _ _ _ _ _ _ _ _ _ _ _ _ _ _ _)
      | (with_reducible exact ih8 _ _ _ _ _ _ _ _ _ _ _ _ _ _ _ _ _ _ _ _ _ _ _ _ _ _ _ _)
      | (with_reducible exact impl_CountCodes.mono _ _ _)
      | (with_reducible exact impl_CountLeastWords.mono _ _ _ _)
      | (with_reducible exact impl_CountOpened.mono _ _ _ _)
      | (with_reducible exact impl_CountRings.mono _ _ _)
      | (with_reducible exact impl_FirstMissed.mono _ _ _ _)
      | (with_reducible exact impl_GreatestRing.mono _ _ _)
      | (with_reducible exact impl_IsRing.mono _ _ _ _)
      | (with_reducible exact impl_LeastRing.mono _ _ _)
      | (with_reducible exact impl_LeastWords.mono _ _ _)
      | (with_reducible exact impl_OpeningText.mono _ _ _)
      | (with_reducible exact impl_StepsToOpen.mono _ _ _ _ _)
      | (with_reducible exact laws_eSorted.mono _ _)
      | (with_reducible exact laws_eTexts.mono _ _ _)
      | (with_reducible exact spec_CountLeastWords.mono _ _ _ _)
      | (with_reducible exact spec_CountOpened.mono _ _ _ _)
      | (with_reducible exact spec_CountRings.mono _ _ _)
      | (with_reducible exact spec_FirstMissed.mono _ _ _ _)
      | (with_reducible exact spec_GreatestRing.mono _ _ _)
      | (with_reducible exact spec_LeastRing.mono _ _ _)
      | (with_reducible exact spec_LeastWords.mono _ _ _)
      | (with_reducible exact spec_OpeningText.mono _ _ _)
      | (with_reducible exact spec_StepsToOpen.mono _ _ _ _ _)
      | (with_reducible exact LeO.refl _)
      | (with_reducible exact LeO.none _)
      | (with_reducible refine LeO.ite ?_ ?_)
      | (with_reducible refine LeO.bind ?_ (fun _ => ?_))
      | exact ih0 _ _ _ _ _ _ _ _ _ _ _ _ _
      | exact ih1 _ _ _ _ _ _ _ _ _ _ _ _ _ _ _ _ _ _
      | exact ih2 _ _ _ _ _ _ _ _ _ _
      | exact ih3 _ _ _ _ _ _ _ _ _ _ _ _ _ _
      | exact ih4 _ _ _ _ _ _ _ _ _ _ _
      | exact ih5 _ _ _ _ _ _
      | exact ih6 _ _ _ _ _ _ _ _ _ _ _ _ _ _ _ _ _ _ _ _ _ _ _ _ _ _ _ _ _
      | exact ih7 _ _ _ _ _ _ _ _ _ _ _ _ _ _ _ _ _ _ _ _ _ _ _ _ _ _ _ _ _ _ _
      | exact ih8 _ _ _ _ _ _ _ _ _ _ _ _ _ _ _ _ _ _ _ _ _ _ _ _ _ _ _ _
      | exact impl_CountCodes.mono _ _ _
      | exact impl_CountLeastWords.mono _ _ _ _
      | exact impl_CountOpened.mono _ _ _ _
      | exact impl_CountRings.mono _ _ _
      | exact impl_FirstMissed.mono _ _ _ _
      | exact impl_GreatestRing.mono _ _ _
      | exact impl_IsRing.mono _ _ _ _
      | exact impl_LeastRing.mono _ _ _
      | exact impl_LeastWords.mono _ _ _
      | exact impl_OpeningText.mono _ _ _
      | exact impl_StepsToOpen.mono _ _ _ _ _
      | exact laws_eSorted.mono _ _
      | exact laws_eTexts.mono _ _ _
      | exact spec_CountLeastWords.mono _ _ _ _
      | exact spec_CountOpened.mono _ _ _ _
      | exact spec_CountRings.mono _ _ _
      | exact spec_FirstMissed.mono _ _ _ _
      | exact spec_GreatestRing.mono _ _ _
      | exact spec_LeastRing.mono _ _ _
      | exact spec_LeastWords.mono _ _ _
      | exact spec_OpeningText.mono _ _ _
      | exact spec_StepsToOpen.mono _ _ _ _ _
      | exact LeO.none _
      | refine LeO.ite ?_ ?_
      | refine LeO.bind ?_ (fun _ => ?_)
theorem laws_FnRingsOpenOfAll.mono : ∀ a0 a1 a2 a3 a4 a5 a6 a7 a8 a9 a10 a11 k, LeO (laws_FnRingsOpenOfAll.f k a0 a1 a2 a3 a4 a5 a6 a7 a8 a9 a10 a11) (laws_FnRingsOpenOfAll.f (k + 1) a0 a1 a2 a3 a4 a5 a6 a7 a8 a9 a10 a11) := by
  intro a0 a1 a2 a3 a4 a5 a6 a7 a8 a9 a10 a11 k
  obtain ⟨ih0, ih1, ih2, ih3, ih4, ih5, ih6, ih7, ih8⟩ := laws_FnRingsOpenOfAll.mono_l k
  unfold laws_FnRingsOpenOfAll.f
  repeat' first
      | (with_reducible exact ih0 _ _ _ _ _ _ _ _ _ _ _ _ _)
      | (with_reducible exact ih1 _ _ _ _ _ _ _ _ _ _ _ _ _ _ _ _ _ _)
      | (with_reducible exact ih2 _ _ _ _ _ _ _ _ _ _)
      | (with_reducible exact ih3 _ _ _ _ _ _ _ _ _ _ _ _ _ _)
      | (with_reducible exact ih4 _ _ _ _ _ _ _ _ _ _ _)
      | (with_reducible exact ih5 _ _ _ _ _ _)
      | (with_reducible exact ih6 _ _ _ _ _ _ _ _ _ _ _ _ _ _ _ _ _ _ _ _ _ _ _ _ _ _ _ _ _)
      | (with_reducible exact ih7 _ _ _ _ _ _ _ _ _ _ _ _ _ _ _ _ _ _ _ _ _ _ _ _ _ _ _ _ _ _ _)
      | (with_reducible exact ih8 _ _ _ _ _ _ _ _ _ _ _ _ _ _ _ _ _ _ _ _ _ _ _ _ _ _ _ _)
      | (with_reducible exact impl_CountCodes.mono _ _ _)
      | (with_reducible exact impl_CountLeastWords.mono _ _ _ _)
      | (with_reducible exact impl_CountOpened.mono _ _ _ _)
      | (with_reducible exact impl_CountRings.mono _ _ _)
      | (with_reducible exact impl_FirstMissed.mono _ _ _ _)
      | (with_reducible exact impl_GreatestRing.mono _ _ _)
      | (with_reducible exact impl_IsRing.mono _ _ _ _)
      | (with_reducible exact impl_LeastRing.mono _ _ _)
      | (with_reducible exact impl_LeastWords.mono _ _ _)
      | (with_reducible exact impl_OpeningText.mono _ _ _)
      | (with_reducible exact impl_StepsToOpen.mono _ _ _ _ _)
      | (with_reducible exact laws_eSorted.mono _ _)
      | (with_reducible exact laws_eTexts.mono _ _ _)
      | (with_reducible exact spec_CountLeastWords.mono _ _ _ _)
      | (with_reducible exact spec_CountOpened.mono _ _ _ _)
      | (with_reducible exact spec_CountRings.mono _ _ _)
      | (with_reducible exact spec_FirstMissed.mono _ _ _ _)
      | (with_reducible exact spec_GreatestRing.mono _ _ _)
      | (with_reducible exact spec_LeastRing.mono _ _ _)
      | (with_reducible exact spec_LeastWords.mono _ _ _)
      | (with_reducible exact spec_OpeningText.mono _ _ _)
      | (with_reducible exact spec_StepsToOpen.mono _ _ _ _ _)
      | (with_reducible exact LeO.refl _)
      | (with_reducible exact LeO.none _)
      | (with_reducible refine LeO.ite ?_ ?_)
      | (with_reducible refine LeO.bind ?_ (fun _ => ?_))
      | exact ih0 _ _ _ _ _ _ _ _ _ _ _ _ _
      | exact ih1 _ _ _ _ _ _ _ _ _ _ _ _ _ _ _ _ _ _
      | exact ih2 _ _ _ _ _ _ _ _ _ _
      | exact ih3 _ _ _ _ _ _ _ _ _ _ _ _ _ _
      | exact ih4 _ _ _ _ _ _ _ _ _ _ _
      | exact ih5 _ _ _ _ _ _
      | exact ih6 _ _ _ _ _ _ _ _ _ _ _ _ _ _ _ _ _ _ _ _ _ _ _ _ _ _ _ _ _
      | exact ih7 _ _ _ _ _ _ _ _ _ _ _ _ _ _ _ _ _ _ _ _ _ _ _ _ _ _ _ _ _ _ _
      | exact ih8 _ _ _ _ _ _ _ _ _ _ _ _ _ _ _ _ _ _ _ _ _ _ _ _ _ _ _ _
      | exact impl_CountCodes.mono _ _ _
      | exact impl_CountLeastWords.mono _ _ _ _
      | exact impl_CountOpened.mono _ _ _ _
      | exact impl_CountRings.mono _ _ _
      | exact impl_FirstMissed.mono _ _ _ _
      | exact impl_GreatestRing.mono _ _ _
      | exact impl_IsRing.mono _ _ _ _
      | exact impl_LeastRing.mono _ _ _
      | exact impl_LeastWords.mono _ _ _
      | exact impl_OpeningText.mono _ _ _
      | exact impl_StepsToOpen.mono _ _ _ _ _
      | exact laws_eSorted.mono _ _
      | exact laws_eTexts.mono _ _ _
      | exact spec_CountLeastWords.mono _ _ _ _
      | exact spec_CountOpened.mono _ _ _ _
      | exact spec_CountRings.mono _ _ _
      | exact spec_FirstMissed.mono _ _ _ _
      | exact spec_GreatestRing.mono _ _ _
      | exact spec_LeastRing.mono _ _ _
      | exact spec_LeastWords.mono _ _ _
      | exact spec_OpeningText.mono _ _ _
      | exact spec_StepsToOpen.mono _ _ _ _ _
      | exact LeO.none _
      | refine LeO.ite ?_ ?_
      | refine LeO.bind ?_ (fun _ => ?_)
def laws_FnRingsOpenOfAll.T31 : Bool × List (List Nat × List Nat) := (true, [([], []), ([], []), ([0, 1], [0, 1]), ([], []), ([], []), ([3, 4], [3, 4]), ([2, 5], [2, 5]), ([], []), ([6, 7], [6, 7])])
def laws_FnRingsOpenOfAll.B31 : List Nat := [0, 0, 3, 0, 0, 24, 63, 0, 255]
theorem laws_FnRingsOpenOfAll.tab31 : rtab .any (opsOf Tryz.f3 31) = laws_FnRingsOpenOfAll.T31 := by kernel_rfl
theorem laws_FnRingsOpenOfAll.bits31 : waitsOk laws_FnRingsOpenOfAll.T31.2 laws_FnRingsOpenOfAll.B31 = true := by kernel_rfl
def laws_FnRingsOpenOfAll.T64 : Bool × List (List Nat × List Nat) := (true, [([], []), ([], []), ([], []), ([1, 2], [1, 2]), ([0, 3], [0, 3]), ([4], [4]), ([5], [5]), ([5], [5]), ([6, 4, 0, 1, 2, 3, 4, 5, 6], [6]), ([7, 8, 0, 1, 2, 3, 4, 5, 6, 7, 8], [7])])
def laws_FnRingsOpenOfAll.B64 : List Nat := [0, 0, 0, 6, 15, 31, 63, 63, 127, 511]
theorem laws_FnRingsOpenOfAll.tab64 : rtab .any (opsOf Tryz.f3 64) = laws_FnRingsOpenOfAll.T64 := by kernel_rfl
theorem laws_FnRingsOpenOfAll.bits64 : waitsOk laws_FnRingsOpenOfAll.T64.2 laws_FnRingsOpenOfAll.B64 = true := by kernel_rfl
def laws_FnRingsOpenOfAll.T65 : Bool × List (List Nat × List Nat) := (true, [([], []), ([], []), ([], []), ([2], [2]), ([1, 3], [1, 3]), ([0, 4], [0, 4]), ([5], [5]), ([6], [6]), ([6], [6]), ([7, 5, 0, 1, 2, 3, 4, 5, 6, 7], [7]), ([8, 9, 0, 1, 2, 3, 4, 5, 6, 7, 8, 9], [8])])
def laws_FnRingsOpenOfAll.B65 : List Nat := [0, 0, 0, 4, 14, 31, 63, 127, 127, 255, 1023]
theorem laws_FnRingsOpenOfAll.tab65 : rtab .any (opsOf Tryz.f3 65) = laws_FnRingsOpenOfAll.T65 := by kernel_rfl
theorem laws_FnRingsOpenOfAll.bits65 : waitsOk laws_FnRingsOpenOfAll.T65.2 laws_FnRingsOpenOfAll.B65 = true := by kernel_rfl
set_option maxHeartbeats 8000000 in
set_option maxRecDepth 100000 in
theorem laws_FnRingsOpenOfAll.calls (k : Nat) (a0_0 : Int) (a0_1 : Int) (a1_0 : Int) (a1_1 : Int) (a2 : Int) (a3_0 : Int) (a3_1 : Int) (a4 : ByteArray) (a5_0 : Int) (a5_1 : Int) (a6 : ByteArray) (a7 : ByteArray) (r : Bool) (w : World) (hG : strings_Index.Gl w) (h : laws_FnRingsOpenOfAll.f k a0_0 a0_1 a1_0 a1_1 a2 a3_0 a3_1 a4 a5_0 a5_1 a6 a7 = some r) (hr_ : r = true := by rfl) :
    Calls Tryz.prog 3 #[.agg #[.int .i64 a0_0, .int .i64 a0_1], .agg #[.int .i64 a1_0, .int .i64 a1_1], .int .i64 a2, .agg #[.int .i64 a3_0, .int .i64 a3_1], .string a4, .agg #[.int .i64 a5_0, .int .i64 a5_1], .string a6, .string a7] w fun e w' => e = .returned (.bool r) ∧ Below w.heap.size w w' := by
  have HRT := Aside0.mk hr_
  clear hr_
  have HG := Aside0.mk hG
  clear hG
  have hu23 := Tryz.underlying23
  have HB := Aside0.mk (Below.refl w.heap.size w)
  have H : (if (a4.size : Int) > 1048576 then (laws_FnRingsOpenOfAll.j0 k a2 a4 a6 a7 true a0_0 a0_1 a1_0 a1_1 a3_0 a3_1 a5_0 a5_1) else (if (a6.size : Int) > 1048576 then (laws_FnRingsOpenOfAll.j0 k a2 a4 a6 a7 true a0_0 a0_1 a1_0 a1_1 a3_0 a3_1 a5_0 a5_1) else (laws_FnRingsOpenOfAll.j0 k a2 a4 a6 a7 (decide ((a7.size : Int) > 1048576)) a0_0 a0_1 a1_0 a1_1 a3_0 a3_1 a5_0 a5_1))) = some r := h
  clear h
  have HC9 := Aside0.mk H
  clear H
  go_enter Tryz.func3, Tryz.ntmps3
  go_upto_region 1 with (first | ((with_reducible refine gate_dst (N := 8) rfl ?_); (try (refine gate_guard (by rfl) ?_; dsimp only)); refine box_event ?hg (N := 8) ?hd (cs := #[.int .i64 a0_0, .int .i64 a0_1]) (t := 23) ?hr ?_; (case hd => rfl); (case hg => rfl); (case hr => first | (go_simp; done) | (go_simp; rfl)); intro gb497 hg w10 hbox hb; have n0_ := bsx hb HB; have n1_ := Aside0.mk (hbox); have n2_ := gwx hg HB; have n3_ := n2_; clear HB; have HB := n0_; have BK497 := n1_; have GW497 := n2_; have GE497 := n3_; clear n0_ n1_ n2_ n3_; clear hb hbox hg) | ((with_reducible refine gate_dst (N := 9) rfl ?_); (try (refine gate_guard (by rfl) ?_; dsimp only)); refine box_event ?hg (N := 9) ?hd (cs := #[.int .i64 a1_0, .int .i64 a1_1]) (t := 23) ?hr ?_; (case hd => rfl); (case hg => rfl); (case hr => first | (go_simp; done) | (go_simp; rfl)); intro gb498 hg w11 hbox hb; have n0_ := bbx hb BK497; have n1_ := bsx hb HB; have n2_ := Aside0.mk (hbox); have n3_ := gwx hg HB; have n4_ := gwx hg HB; have n5_ := nlx hg BK497; have n6_ := ngx hg BK497; clear BK497; clear HB; have BK497 := n0_; have HB := n1_; have BK498 := n2_; have GW498 := n3_; have GE498 := n4_; have NB497_498 := n5_; have NB498_497 := n6_; clear n0_ n1_ n2_ n3_ n4_ n5_ n6_; clear hb hbox hg) | ((with_reducible refine gate_dst (N := 11) rfl ?_); (try (refine gate_guard (by rfl) ?_; dsimp only)); refine box_event ?hg (N := 11) ?hd (cs := #[.int .i64 a3_0, .int .i64 a3_1]) (t := 23) ?hr ?_; (case hd => rfl); (case hg => rfl); (case hr => first | (go_simp; done) | (go_simp; rfl)); intro gb499 hg w12 hbox hb; have n0_ := bbx hb BK497; have n1_ := bbx hb BK498; have n2_ := bsx hb HB; have n3_ := Aside0.mk (hbox); have n4_ := gwx hg HB; have n5_ := gwx hg HB; have n6_ := nlx hg BK497; have n7_ := ngx hg BK497; have n8_ := nlx hg BK498; have n9_ := ngx hg BK498; clear BK497; clear BK498; clear HB; have BK497 := n0_; have BK498 := n1_; have HB := n2_; have BK499 := n3_; have GW499 := n4_; have GE499 := n5_; have NB497_499 := n6_; have NB499_497 := n7_; have NB498_499 := n8_; have NB499_498 := n9_; clear n0_ n1_ n2_ n3_ n4_ n5_ n6_ n7_ n8_ n9_; clear hb hbox hg) | ((with_reducible refine gate_dst (N := 13) rfl ?_); (try (refine gate_guard (by rfl) ?_; dsimp only)); refine box_event ?hg (N := 13) ?hd (cs := #[.int .i64 a5_0, .int .i64 a5_1]) (t := 23) ?hr ?_; (case hd => rfl); (case hg => rfl); (case hr => first | (go_simp; done) | (go_simp; rfl)); intro gb500 hg w13 hbox hb; have n0_ := bbx hb BK497; have n1_ := bbx hb BK498; have n2_ := bbx hb BK499; have n3_ := bsx hb HB; have n4_ := Aside0.mk (hbox); have n5_ := gwx hg HB; have n6_ := gwx hg HB; have n7_ := nlx hg BK497; have n8_ := ngx hg BK497; have n9_ := nlx hg BK498; have n10_ := ngx hg BK498; have n11_ := nlx hg BK499; have n12_ := ngx hg BK499; clear BK497; clear BK498; clear BK499; clear HB; have BK497 := n0_; have BK498 := n1_; have BK499 := n2_; have HB := n3_; have BK500 := n4_; have GW500 := n5_; have GE500 := n6_; have NB497_500 := n7_; have NB500_497 := n8_; have NB498_500 := n9_; have NB500_498 := n10_; have NB499_500 := n11_; have NB500_499 := n12_; clear n0_ n1_ n2_ n3_ n4_ n5_ n6_ n7_ n8_ n9_ n10_ n11_ n12_; clear hb hbox hg))
  (try simp only [Act.put, s_1, s_2, s_3])
  go_cut [91] from 1 to 0 (fun v91 wc => ∃ (kq : Nat) (x91_8 : Bool), v91 = .bool x91_8 ∧ Aside0 (laws_FnRingsOpenOfAll.j0 kq a2 a4 a6 a7 x91_8 a0_0 a0_1 a1_0 a1_1 a3_0 a3_1 a5_0 a5_1 = some r) ∧ Aside0 (kq ≤ k) ∧ Aside0 (wc.heap[gb497]? = some (.cells #[.int .i64 a0_0, .int .i64 a0_1] 23 (0, 0))) ∧ Aside0 (wc.heap[gb498]? = some (.cells #[.int .i64 a1_0, .int .i64 a1_1] 23 (0, 0))) ∧ Aside0 (wc.heap[gb499]? = some (.cells #[.int .i64 a3_0, .int .i64 a3_1] 23 (0, 0))) ∧ Aside0 (wc.heap[gb500]? = some (.cells #[.int .i64 a5_0, .int .i64 a5_1] 23 (0, 0))) ∧ Aside0 (Below w.heap.size w wc))
  case first => as_aux_lemma =>
    have H := HC9.out
    clear HC9
    by_cases c14 : (a4.size : Int) > 1048576
    · rw [if_pos c14] at H
      have c14b0 : decide (1048576 < (a4.size : Int)) = true := decide_eq_true c14
      have c14b1 : decide (1048576 < a4.size) = true := decide_eq_true (by omega)
      clear c14
      (first | rw [c14b0] | (simp only [i64_w, i32_w]; rw [c14b0]) | skip)
      have H' := Aside0.mk H
      clear H
      go_wp2
      go_meet
      case rel => refine ⟨_, (true), (by first | rfl | (simp; done) | (simp [*]; done)), H', ⟨by first | omega | exact Nat.le_refl _⟩, ⟨?_⟩, ⟨?_⟩, ⟨?_⟩, ⟨?_⟩, ⟨bB HB⟩⟩ <;> (with_reducible repeat (first | refine g_d ?_ _ | refine g_e ?_ | refine g_a ?_ _)) <;> first | exact BK497.out | exact BK498.out | exact BK499.out | exact BK500.out
    rw [if_neg c14] at H
    have c14b0 : decide (1048576 < (a4.size : Int)) = false := decide_eq_false c14
    have c14b1 : decide (1048576 < a4.size) = false := decide_eq_false (by omega)
    clear c14
    (first | rw [c14b0] | (simp only [i64_w, i32_w]; rw [c14b0]) | skip)
    by_cases c15 : (a6.size : Int) > 1048576
    rotate_left
    · rw [if_neg c15] at H
      have c15b0 : decide (1048576 < (a6.size : Int)) = false := decide_eq_false c15
      have c15b1 : decide (1048576 < a6.size) = false := decide_eq_false (by omega)
      clear c15
      have H' := Aside0.mk H
      clear H
      go_wp2
      go_meet
      case rel => refine ⟨_, (decide ((a7.size : Int) > 1048576)), (by first | rfl | (simp; done) | (simp [*]; done)), H', ⟨by first | omega | exact Nat.le_refl _⟩, ⟨?_⟩, ⟨?_⟩, ⟨?_⟩, ⟨?_⟩, ⟨bB HB⟩⟩ <;> (with_reducible repeat (first | refine g_d ?_ _ | refine g_e ?_ | refine g_a ?_ _)) <;> first | exact BK497.out | exact BK498.out | exact BK499.out | exact BK500.out
    rw [if_pos c15] at H
    have c15b0 : decide (1048576 < (a6.size : Int)) = true := decide_eq_true c15
    have c15b1 : decide (1048576 < a6.size) = true := decide_eq_true (by omega)
    clear c15
    have H' := Aside0.mk H
    clear H
    go_wp2
    go_meet
    case rel => refine ⟨_, (true), (by first | rfl | (simp; done) | (simp [*]; done)), H', ⟨by first | omega | exact Nat.le_refl _⟩, ⟨?_⟩, ⟨?_⟩, ⟨?_⟩, ⟨?_⟩, ⟨bB HB⟩⟩ <;> (with_reducible repeat (first | refine g_d ?_ _ | refine g_e ?_ | refine g_a ?_ _)) <;> first | exact BK497.out | exact BK498.out | exact BK499.out | exact BK500.out
  clear HC9
  obtain ⟨kq, x91_8, rfl, HA, HJ8, BK497, BK498, BK499, BK500, HB⟩ := hcut
  rcases kq with _ | kj8
  · exact absurd HA.out (by simp [laws_FnRingsOpenOfAll.j0])
  have H := HA.out
  clear HA
  simp only [laws_FnRingsOpenOfAll.j0] at H
  by_cases c16 : x91_8 = true
  · subst c16
    rw [if_pos rfl] at H
    obtain rfl := Option.some.inj H
    go_wp2
    go_ret
    exact ⟨by first | rfl | (simp [errW_none, errW_some] <;> rfl) | (simp [*, errW_none, errW_some] <;> rfl), bB HB⟩
  replace c16 := Bool.eq_false_iff.mpr c16
  subst c16
  rw [if_neg (show ¬ (false = true) by decide)] at H
  replace H := Option.bind_eq_some_iff.mp H
  obtain ⟨⟨t501, t502⟩, A170, H⟩ := H
  try dsimp only at H
  have A17 := Aside0.mk A170
  clear A170
  replace H := Option.bind_eq_some_iff.mp H
  obtain ⟨⟨t503, t504⟩, A180, H⟩ := H
  try dsimp only at H
  have A18 := Aside0.mk A180
  clear A180
  replace H := Option.bind_eq_some_iff.mp H
  obtain ⟨⟨t505, t506⟩, A190, H⟩ := H
  try dsimp only at H
  have A19 := Aside0.mk A190
  clear A190
  replace H := Option.bind_eq_some_iff.mp H
  obtain ⟨⟨t507, t508⟩, A200, H⟩ := H
  try dsimp only at H
  have A20 := Aside0.mk A200
  clear A200
  replace H := Option.bind_eq_some_iff.mp H
  obtain ⟨⟨t509, t512⟩, A210, H⟩ := H
  try dsimp only at H
  have A21 := Aside0.mk A210
  clear A210
  replace H := Option.bind_eq_some_iff.mp H
  obtain ⟨⟨t513, t516⟩, A220, H⟩ := H
  try dsimp only at H
  have A22 := Aside0.mk A220
  clear A220
  replace H := Option.bind_eq_some_iff.mp H
  obtain ⟨⟨t517, t518⟩, A230, H⟩ := H
  try dsimp only at H
  have A23 := Aside0.mk A230
  clear A230
  replace H := Option.bind_eq_some_iff.mp H
  obtain ⟨⟨t519, t520⟩, A240, H⟩ := H
  try dsimp only at H
  have A24 := Aside0.mk A240
  clear A240
  replace H := Option.bind_eq_some_iff.mp H
  obtain ⟨⟨t521, t522⟩, A250, H⟩ := H
  try dsimp only at H
  have A25 := Aside0.mk A250
  clear A250
  replace H := Option.bind_eq_some_iff.mp H
  obtain ⟨⟨t523, t524⟩, A260, H⟩ := H
  try dsimp only at H
  have A26 := Aside0.mk A260
  clear A260
  have HC27 := Aside0.mk H
  clear H
  have hnb28 := eq_false NB497_498.out
  have hnc28 := eq_false NB498_497.out
  have hnb29 := eq_false NB497_499.out
  have hnc29 := eq_false NB499_497.out
  have hnb30 := eq_false NB497_500.out
  have hnc30 := eq_false NB500_497.out
  have hcz31_0 := cz0 BK497
  have hcz31_1 := cz1 BK497
  have hfz31_0 := blk_frozen BK497.out 0
  have hfz31_1 := blk_frozen BK497.out 1
  go_upto_region 13 with (first | ((with_reducible refine gate_callee (f := 6) rfl ?_); refine goesL_ (some 94) rfl rfl Tryz.func6 (by kernel_rfl) rfl #[.agg #[.int .i64 a0_0, .int .i64 a0_1]] rfl (by (try simp only [m_1, m_2, m_3]); first | done | rfl | (simp only [m_4, m_5]; rfl)) ?_; (with_reducible refine (impl_LeastRing.calls kj8 a0_0 a0_1 t501 t502 _ A17.out).mono ?_); rintro e w32 ⟨rfl, hb⟩; refine ⟨_, rfl, ?_⟩; replace BK497 := bbx hb BK497; replace BK498 := bbx hb BK498; replace BK499 := bbx hb BK499; replace BK500 := bbx hb BK500; replace HB := bsx hb HB; skip; (try clear hb); (try clear hb2); (try clear hk); (try clear hi); have hcz33_0 := cz0 BK497; have hcz33_1 := cz1 BK497; have hfz33_0 := blk_frozen BK497.out 0; have hfz33_1 := blk_frozen BK497.out 1) | ((with_reducible refine gate_callee (f := 7) rfl ?_); refine goesL_ (some 99) rfl rfl Tryz.func7 (by kernel_rfl) rfl #[.agg #[.int .i64 a0_0, .int .i64 a0_1]] rfl (by (try simp only [m_1, m_2, m_3]); first | done | rfl | (simp only [m_4, m_5]; rfl)) ?_; (with_reducible refine (spec_LeastRing.calls kj8 a0_0 a0_1 t503 t504 _ A18.out).mono ?_); rintro e w34 ⟨rfl, hb⟩; refine ⟨_, rfl, ?_⟩; replace BK497 := bbx hb BK497; replace BK498 := bbx hb BK498; replace BK499 := bbx hb BK499; replace BK500 := bbx hb BK500; replace HB := bsx hb HB; skip; (try clear hb); (try clear hb2); (try clear hk); (try clear hi); have hcz35_0 := cz0 BK497; have hcz35_1 := cz1 BK497; have hfz35_0 := blk_frozen BK497.out 0; have hfz35_1 := blk_frozen BK497.out 1) | ((with_reducible refine gate_callee (f := 8) rfl ?_); refine goesL_ (some 104) rfl rfl Tryz.func8 (by kernel_rfl) rfl #[.agg #[.int .i64 a0_0, .int .i64 a0_1]] rfl (by (try simp only [m_1, m_2, m_3]); first | done | rfl | (simp only [m_4, m_5]; rfl)) ?_; (with_reducible refine (impl_GreatestRing.calls kj8 a0_0 a0_1 t505 t506 _ A19.out).mono ?_); rintro e w36 ⟨rfl, hb⟩; refine ⟨_, rfl, ?_⟩; replace BK497 := bbx hb BK497; replace BK498 := bbx hb BK498; replace BK499 := bbx hb BK499; replace BK500 := bbx hb BK500; replace HB := bsx hb HB; skip; (try clear hb); (try clear hb2); (try clear hk); (try clear hi); have hcz37_0 := cz0 BK497; have hcz37_1 := cz1 BK497; have hfz37_0 := blk_frozen BK497.out 0; have hfz37_1 := blk_frozen BK497.out 1) | ((with_reducible refine gate_callee (f := 9) rfl ?_); refine goesL_ (some 109) rfl rfl Tryz.func9 (by kernel_rfl) rfl #[.agg #[.int .i64 a0_0, .int .i64 a0_1]] rfl (by (try simp only [m_1, m_2, m_3]); first | done | rfl | (simp only [m_4, m_5]; rfl)) ?_; (with_reducible refine (spec_GreatestRing.calls kj8 a0_0 a0_1 t507 t508 _ A20.out).mono ?_); rintro e w38 ⟨rfl, hb⟩; refine ⟨_, rfl, ?_⟩; replace BK497 := bbx hb BK497; replace BK498 := bbx hb BK498; replace BK499 := bbx hb BK499; replace BK500 := bbx hb BK500; replace HB := bsx hb HB; skip; (try clear hb); (try clear hb2); (try clear hk); (try clear hi); have hcz39_0 := cz0 BK497; have hcz39_1 := cz1 BK497; have hfz39_0 := blk_frozen BK497.out 0; have hfz39_1 := blk_frozen BK497.out 1) | ((with_reducible refine gate_callee (f := 10) rfl ?_); refine goesL_ (some 114) rfl rfl Tryz.func10 (by kernel_rfl) rfl #[.agg #[.int .i64 a0_0, .int .i64 a0_1]] rfl (by (try simp only [m_1, m_2, m_3]); first | done | rfl | (simp only [m_4, m_5]; rfl)) ?_; (with_reducible refine (impl_LeastWords.calls kj8 a0_0 a0_1 t509 t512 _ A21.out).mono ?_); rintro e w40 ⟨v510, rfl, ho0, hb⟩; refine ⟨_, rfl, ?_⟩; have n0_ := Aside0.mk (Kd.R_lower ho0 (below_size (bB HB))); replace BK497 := bbx hb BK497; replace BK498 := bbx hb BK498; replace BK499 := bbx hb BK499; replace BK500 := bbx hb BK500; have n5_ := bsx hb HB; clear HB; have HO511 := n0_; have HB := n5_; clear n0_ n5_; (try clear hb); (try clear hb2); (try clear hk); (try clear hi); (try clear ho0); have hcz41_0 := cz0 BK497; have hcz41_1 := cz1 BK497; have hfz41_0 := blk_frozen BK497.out 0; have hfz41_1 := blk_frozen BK497.out 1) | ((with_reducible refine gate_callee (f := 11) rfl ?_); refine goesL_ (some 119) rfl rfl Tryz.func11 (by kernel_rfl) rfl #[.agg #[.int .i64 a0_0, .int .i64 a0_1]] rfl (by (try simp only [m_1, m_2, m_3]); first | done | rfl | (simp only [m_4, m_5]; rfl)) ?_; (with_reducible refine (spec_LeastWords.calls kj8 a0_0 a0_1 t513 t516 _ A22.out).mono ?_); rintro e w42 ⟨v514, rfl, ho0, hb⟩; refine ⟨_, rfl, ?_⟩; have n0_ := Aside0.mk (Kd.R_elder' (by (with_reducible repeat (first | apply r_a | apply r_d | apply r_e)); exact HO511.out) (Kd.R_base ho0) hb); have n1_ := Aside0.mk (Kd.R_lower (Kd.R_new' ho0 (Kd.R_lt (by (with_reducible repeat (first | apply r_a | apply r_d | apply r_e)); exact HO511.out))) (below_size (bB HB))); replace BK497 := bbx hb BK497; replace BK498 := bbx hb BK498; replace BK499 := bbx hb BK499; replace BK500 := bbx hb BK500; have n6_ := bsx hb HB; clear HO511; clear HB; have HO511 := n0_; have HO515 := n1_; have HB := n6_; clear n0_ n1_ n6_; (try clear hb); (try clear hb2); (try clear hk); (try clear hi); (try clear ho0); have hcz43_0 := cz0 BK497; have hcz43_1 := cz1 BK497; have hfz43_0 := blk_frozen BK497.out 0; have hfz43_1 := blk_frozen BK497.out 1) | ((with_reducible refine gate_callee (f := 12) rfl ?_); refine goesL_ (some 124) rfl rfl Tryz.func12 (by kernel_rfl) rfl #[.agg #[.int .i64 a0_0, .int .i64 a0_1]] rfl (by (try simp only [m_1, m_2, m_3]); first | done | rfl | (simp only [m_4, m_5]; rfl)) ?_; (with_reducible refine (impl_OpeningText.calls kj8 a0_0 a0_1 t517 t518 _ A23.out).mono ?_); rintro e w44 ⟨rfl, hb⟩; refine ⟨_, rfl, ?_⟩; have n0_ := Aside0.mk (Kd.R_below (by (with_reducible repeat (first | apply r_a | apply r_d | apply r_e)); exact HO511.out) hb); have n1_ := Aside0.mk (Kd.R_below (by (with_reducible repeat (first | apply r_a | apply r_d | apply r_e)); exact HO515.out) hb); replace BK497 := bbx hb BK497; replace BK498 := bbx hb BK498; replace BK499 := bbx hb BK499; replace BK500 := bbx hb BK500; replace HB := bsx hb HB; clear HO511; clear HO515; have HO511 := n0_; have HO515 := n1_; clear n0_ n1_; (try clear hb); (try clear hb2); (try clear hk); (try clear hi); have hcz45_0 := cz0 BK497; have hcz45_1 := cz1 BK497; have hfz45_0 := blk_frozen BK497.out 0; have hfz45_1 := blk_frozen BK497.out 1) | ((with_reducible refine gate_callee (f := 13) rfl ?_); refine goesL_ (some 129) rfl rfl Tryz.func13 (by kernel_rfl) rfl #[.agg #[.int .i64 a0_0, .int .i64 a0_1]] rfl (by (try simp only [m_1, m_2, m_3]); first | done | rfl | (simp only [m_4, m_5]; rfl)) ?_; (with_reducible refine (spec_OpeningText.calls kj8 a0_0 a0_1 t519 t520 _ A24.out).mono ?_); rintro e w46 ⟨rfl, hb⟩; refine ⟨_, rfl, ?_⟩; have n0_ := Aside0.mk (Kd.R_below (by (with_reducible repeat (first | apply r_a | apply r_d | apply r_e)); exact HO511.out) hb); have n1_ := Aside0.mk (Kd.R_below (by (with_reducible repeat (first | apply r_a | apply r_d | apply r_e)); exact HO515.out) hb); replace BK497 := bbx hb BK497; replace BK498 := bbx hb BK498; replace BK499 := bbx hb BK499; replace BK500 := bbx hb BK500; replace HB := bsx hb HB; clear HO511; clear HO515; have HO511 := n0_; have HO515 := n1_; clear n0_ n1_; (try clear hb); (try clear hb2); (try clear hk); (try clear hi); have hcz47_0 := cz0 BK497; have hcz47_1 := cz1 BK497; have hfz47_0 := blk_frozen BK497.out 0; have hfz47_1 := blk_frozen BK497.out 1) | ((with_reducible refine gate_callee (f := 14) rfl ?_); refine goesL_ (some 134) rfl rfl Tryz.func14 (by kernel_rfl) rfl #[.agg #[.int .i64 a0_0, .int .i64 a0_1]] rfl (by (try simp only [m_1, m_2, m_3]); first | done | rfl | (simp only [m_4, m_5]; rfl)) ?_; (with_reducible refine (impl_CountRings.calls kj8 a0_0 a0_1 t521 t522 _ A25.out).mono ?_); rintro e w48 ⟨rfl, hb⟩; refine ⟨_, rfl, ?_⟩; have n0_ := Aside0.mk (Kd.R_below (by (with_reducible repeat (first | apply r_a | apply r_d | apply r_e)); exact HO511.out) hb); have n1_ := Aside0.mk (Kd.R_below (by (with_reducible repeat (first | apply r_a | apply r_d | apply r_e)); exact HO515.out) hb); replace BK497 := bbx hb BK497; replace BK498 := bbx hb BK498; replace BK499 := bbx hb BK499; replace BK500 := bbx hb BK500; replace HB := bsx hb HB; clear HO511; clear HO515; have HO511 := n0_; have HO515 := n1_; clear n0_ n1_; (try clear hb); (try clear hb2); (try clear hk); (try clear hi); have hcz49_0 := cz0 BK497; have hcz49_1 := cz1 BK497; have hfz49_0 := blk_frozen BK497.out 0; have hfz49_1 := blk_frozen BK497.out 1) | ((with_reducible refine gate_callee (f := 15) rfl ?_); refine goesL_ (some 139) rfl rfl Tryz.func15 (by kernel_rfl) rfl #[.agg #[.int .i64 a0_0, .int .i64 a0_1]] rfl (by (try simp only [m_1, m_2, m_3]); first | done | rfl | (simp only [m_4, m_5]; rfl)) ?_; (with_reducible refine (spec_CountRings.calls kj8 a0_0 a0_1 t523 t524 _ A26.out).mono ?_); rintro e w50 ⟨rfl, hb⟩; refine ⟨_, rfl, ?_⟩; have n0_ := Aside0.mk (Kd.R_below (by (with_reducible repeat (first | apply r_a | apply r_d | apply r_e)); exact HO511.out) hb); have n1_ := Aside0.mk (Kd.R_below (by (with_reducible repeat (first | apply r_a | apply r_d | apply r_e)); exact HO515.out) hb); replace BK497 := bbx hb BK497; replace BK498 := bbx hb BK498; replace BK499 := bbx hb BK499; replace BK500 := bbx hb BK500; replace HB := bsx hb HB; clear HO511; clear HO515; have HO511 := n0_; have HO515 := n1_; clear n0_ n1_; (try clear hb); (try clear hb2); (try clear hk); (try clear hi)))
  (try simp only [Act.put, s_1, s_2, s_3])
  go_cut [212] from 1 to 0 (fun v212 wc => ∃ (kq : Nat) (x212_26 : Bool), v212 = .bool x212_26 ∧ Aside0 (laws_FnRingsOpenOfAll.j1 kq a2 a4 a6 a7 t501 t502 t505 t509 t517 x212_26 a0_0 a0_1 a1_0 a1_1 a3_0 a3_1 a5_0 a5_1 = some r) ∧ Aside0 (kq ≤ kj8) ∧ Aside0 (Kd.R Kd.string 9 wc w.heap.size (fun _ => True) v510 t509) ∧ Aside0 (wc.heap[gb497]? = some (.cells #[.int .i64 a0_0, .int .i64 a0_1] 23 (0, 0))) ∧ Aside0 (wc.heap[gb498]? = some (.cells #[.int .i64 a1_0, .int .i64 a1_1] 23 (0, 0))) ∧ Aside0 (wc.heap[gb499]? = some (.cells #[.int .i64 a3_0, .int .i64 a3_1] 23 (0, 0))) ∧ Aside0 (wc.heap[gb500]? = some (.cells #[.int .i64 a5_0, .int .i64 a5_1] 23 (0, 0))) ∧ Aside0 (Below w.heap.size w wc))
  case first => as_aux_lemma =>
    have H := HC27.out
    clear HC27
    by_cases c51 : (t502 != t504) = true
    · rw [if_pos c51] at H
      have c51b0 : (t502 != t504) = true := c51
      (try (have c51b1 : decide (t502 = t504) = false := by simpa using c51))
      (try (have c51b2 : (t502 == t504) = false := by simpa using c51))
      (try (have c51b3 : ¬ (t502 = t504) := by simpa using c51))
      clear c51
      (first | rw [c51b0] | (simp only [i64_w, i32_w]; rw [c51b0]) | skip)
      rw [HRT.out] at H
      exact absurd H (by generalize kj8 = q_; cases q_ <;> simp [laws_FnRingsOpenOfAll.j1])
    rw [if_neg c51] at H
    have c51b0 : (t502 != t504) = false := by simpa using c51
    (try (have c51b1 : decide (t502 = t504) = true := by simpa using c51))
    (try (have c51b2 : (t502 == t504) = true := by simpa using c51))
    clear c51
    (first | rw [c51b0] | (simp only [i64_w, i32_w]; rw [c51b0]) | skip)
    by_cases c52 : t501.toList = t503.toList
    rotate_left
    · rw [if_neg c52] at H
      have c52b0 : (t501.toList == t503.toList) = false := beq_eq_false_iff_ne.mpr c52
      have c52b1 : (t501.toList != t503.toList) = true := bne_iff_ne.mpr c52
      rw [HRT.out] at H
      exact absurd H (by generalize kj8 = q_; cases q_ <;> simp [laws_FnRingsOpenOfAll.j1])
    rw [if_pos c52] at H
    have c52b0 : (t501.toList == t503.toList) = true := beq_iff_eq.mpr c52
    have c52b1 : (t501.toList != t503.toList) = false := bne_eq_false_iff_eq.mpr c52
    clear c52
    by_cases c53 : (t506 != t508) = true
    · rw [if_pos c53] at H
      have c53b0 : (t506 != t508) = true := c53
      (try (have c53b1 : decide (t506 = t508) = false := by simpa using c53))
      (try (have c53b2 : (t506 == t508) = false := by simpa using c53))
      (try (have c53b3 : ¬ (t506 = t508) := by simpa using c53))
      clear c53
      rw [HRT.out] at H
      exact absurd H (by generalize kj8 = q_; cases q_ <;> simp [laws_FnRingsOpenOfAll.j1])
    rw [if_neg c53] at H
    have c53b0 : (t506 != t508) = false := by simpa using c53
    (try (have c53b1 : decide (t506 = t508) = true := by simpa using c53))
    (try (have c53b2 : (t506 == t508) = true := by simpa using c53))
    clear c53
    by_cases c54 : t505.toList = t507.toList
    rotate_left
    · rw [if_neg c54] at H
      have c54b0 : (t505.toList == t507.toList) = false := beq_eq_false_iff_ne.mpr c54
      have c54b1 : (t505.toList != t507.toList) = true := bne_iff_ne.mpr c54
      rw [HRT.out] at H
      exact absurd H (by generalize kj8 = q_; cases q_ <;> simp [laws_FnRingsOpenOfAll.j1])
    rw [if_pos c54] at H
    have c54b0 : (t505.toList == t507.toList) = true := beq_iff_eq.mpr c54
    have c54b1 : (t505.toList != t507.toList) = false := bne_eq_false_iff_eq.mpr c54
    clear c54
    by_cases c55 : (t512 != t516) = true
    · rw [if_pos c55] at H
      have c55b0 : (t512 != t516) = true := c55
      (try (have c55b1 : decide (t512 = t516) = false := by simpa using c55))
      (try (have c55b2 : (t512 == t516) = false := by simpa using c55))
      (try (have c55b3 : ¬ (t512 = t516) := by simpa using c55))
      clear c55
      rw [HRT.out] at H
      exact absurd H (by generalize kj8 = q_; cases q_ <;> simp [laws_FnRingsOpenOfAll.j1])
    rw [if_neg c55] at H
    have c55b0 : (t512 != t516) = false := by simpa using c55
    (try (have c55b1 : decide (t512 = t516) = true := by simpa using c55))
    (try (have c55b2 : (t512 == t516) = true := by simpa using c55))
    clear c55
    replace H := Option.bind_eq_some_iff.mp H
    obtain ⟨t525, A560, H⟩ := H
    try dsimp only at H
    have A56 := Aside0.mk A560
    clear A560
    by_cases c57 : t525 = true
    rotate_left
    · replace c57 := Bool.eq_false_iff.mpr c57
      subst c57
      rw [if_neg (show ¬ (false = true) by decide)] at H
      rw [HRT.out] at H
      exact absurd H (by generalize kj8 = q_; cases q_ <;> simp [laws_FnRingsOpenOfAll.j1])
    subst c57
    rw [if_pos rfl] at H
    by_cases c58 : (t518 != t520) = true
    · rw [if_pos c58] at H
      have c58b0 : (t518 != t520) = true := c58
      (try (have c58b1 : decide (t518 = t520) = false := by simpa using c58))
      (try (have c58b2 : (t518 == t520) = false := by simpa using c58))
      (try (have c58b3 : ¬ (t518 = t520) := by simpa using c58))
      clear c58
      rw [HRT.out] at H
      exact absurd H (by generalize kj8 = q_; cases q_ <;> simp [laws_FnRingsOpenOfAll.j1])
    rw [if_neg c58] at H
    have c58b0 : (t518 != t520) = false := by simpa using c58
    (try (have c58b1 : decide (t518 = t520) = true := by simpa using c58))
    (try (have c58b2 : (t518 == t520) = true := by simpa using c58))
    clear c58
    by_cases c59 : t517.toList = t519.toList
    rotate_left
    · rw [if_neg c59] at H
      have c59b0 : (t517.toList == t519.toList) = false := beq_eq_false_iff_ne.mpr c59
      have c59b1 : (t517.toList != t519.toList) = true := bne_iff_ne.mpr c59
      rw [HRT.out] at H
      exact absurd H (by generalize kj8 = q_; cases q_ <;> simp [laws_FnRingsOpenOfAll.j1])
    rw [if_pos c59] at H
    have c59b0 : (t517.toList == t519.toList) = true := beq_iff_eq.mpr c59
    have c59b1 : (t517.toList != t519.toList) = false := bne_eq_false_iff_eq.mpr c59
    clear c59
    by_cases c60 : (t522 != t524) = true
    · rw [if_pos c60] at H
      have c60b0 : (t522 != t524) = true := c60
      (try (have c60b1 : decide (t522 = t524) = false := by simpa using c60))
      (try (have c60b2 : (t522 == t524) = false := by simpa using c60))
      (try (have c60b3 : ¬ (t522 = t524) := by simpa using c60))
      clear c60
      rw [HRT.out] at H
      exact absurd H (by generalize kj8 = q_; cases q_ <;> simp [laws_FnRingsOpenOfAll.j1])
    rw [if_neg c60] at H
    have c60b0 : (t522 != t524) = false := by simpa using c60
    (try (have c60b1 : decide (t522 = t524) = true := by simpa using c60))
    (try (have c60b2 : (t522 == t524) = true := by simpa using c60))
    clear c60
    by_cases c61 : t521 = t523
    rotate_left
    · rw [if_neg c61] at H
      have c61b0 : (t521 == t523) = false := beq_eq_false_iff_ne.mpr c61
      have c61b1 : (t521 != t523) = true := bne_iff_ne.mpr c61
      rw [HRT.out] at H
      exact absurd H (by generalize kj8 = q_; cases q_ <;> simp [laws_FnRingsOpenOfAll.j1])
    rw [if_pos c61] at H
    have c61b0 : (t521 == t523) = true := beq_iff_eq.mpr c61
    have c61b1 : (t521 != t523) = false := bne_eq_false_iff_eq.mpr c61
    clear c61
    by_cases c62 : (t506 != t502) = true
    · rw [if_pos c62] at H
      have c62b0 : (t506 != t502) = true := c62
      (try (have c62b1 : decide (t506 = t502) = false := by simpa using c62))
      (try (have c62b2 : (t506 == t502) = false := by simpa using c62))
      (try (have c62b3 : ¬ (t506 = t502) := by simpa using c62))
      clear c62
      rw [HRT.out] at H
      exact absurd H (by generalize kj8 = q_; cases q_ <;> simp [laws_FnRingsOpenOfAll.j1])
    rw [if_neg c62] at H
    have c62b0 : (t506 != t502) = false := by simpa using c62
    (try (have c62b1 : decide (t506 = t502) = true := by simpa using c62))
    (try (have c62b2 : (t506 == t502) = true := by simpa using c62))
    clear c62
    by_cases c63 : (t512 != t502) = true
    · rw [if_pos c63] at H
      have c63b0 : (t512 != t502) = true := c63
      (try (have c63b1 : decide (t512 = t502) = false := by simpa using c63))
      (try (have c63b2 : (t512 == t502) = false := by simpa using c63))
      (try (have c63b3 : ¬ (t512 = t502) := by simpa using c63))
      clear c63
      rw [HRT.out] at H
      exact absurd H (by generalize kj8 = q_; cases q_ <;> simp [laws_FnRingsOpenOfAll.j1])
    rw [if_neg c63] at H
    have c63b0 : (t512 != t502) = false := by simpa using c63
    (try (have c63b1 : decide (t512 = t502) = true := by simpa using c63))
    (try (have c63b2 : (t512 == t502) = true := by simpa using c63))
    clear c63
    by_cases c64 : (t518 != t502) = true
    · rw [if_pos c64] at H
      have c64b0 : (t518 != t502) = true := c64
      (try (have c64b1 : decide (t518 = t502) = false := by simpa using c64))
      (try (have c64b2 : (t518 == t502) = false := by simpa using c64))
      (try (have c64b3 : ¬ (t518 = t502) := by simpa using c64))
      clear c64
      rw [HRT.out] at H
      exact absurd H (by generalize kj8 = q_; cases q_ <;> simp [laws_FnRingsOpenOfAll.j1])
    rw [if_neg c64] at H
    have c64b0 : (t518 != t502) = false := by simpa using c64
    (try (have c64b1 : decide (t518 = t502) = true := by simpa using c64))
    (try (have c64b2 : (t518 == t502) = true := by simpa using c64))
    clear c64
    by_cases c65 : t522 = true
    · subst c65
      rw [if_pos rfl] at H
      have H' := Aside0.mk H
      clear H
      obtain ⟨Ao66, co66, eo66⟩ := Kd.R_slice HO511.out
      subst eo66
      obtain ⟨Ao67, co67, eo67⟩ := Kd.R_slice HO515.out
      subst eo67
      go_wp2_with (first | (go_at_call 16; (with_reducible refine (laws_eTexts.calls kj8 _ _ t509 _ _ t513 true _ ?side1 ?side2 ?side3 ?side4 A56.out).mono ?_); (case side1 => repeat (first | exact (Kd.R_reads' HO511.out).2.2 | (with_reducible refine Kd.C_alloc ?_ _) | (with_reducible refine Kd.C_drewN ?_ _) | (with_reducible refine Kd.C_drew ?_))); (case side2 => exact (Kd.R_reads' HO511.out).2.1); (case side3 => repeat (first | exact (Kd.R_reads' HO515.out).2.2 | (with_reducible refine Kd.C_alloc ?_ _) | (with_reducible refine Kd.C_drewN ?_ _) | (with_reducible refine Kd.C_drew ?_))); (case side4 => exact (Kd.R_reads' HO515.out).2.1); rintro e w' ⟨rfl, ⟨nd, rfl⟩⟩))
      go_meet
      case rel => refine ⟨_, (!t502), (by first | rfl | (simp; done) | (simp [*]; done)), H', ⟨by have := HJ8.out; first | omega | exact Nat.le_refl _⟩, ⟨by (with_reducible repeat (first | apply r_a | apply r_d | apply r_e)); exact Kd.R_mono HO511.out (fun _ hk => trivial)⟩, ⟨?_⟩, ⟨?_⟩, ⟨?_⟩, ⟨?_⟩, ⟨bB HB⟩⟩ <;> (with_reducible repeat (first | refine g_d ?_ _ | refine g_e ?_ | refine g_a ?_ _)) <;> first | exact BK497.out | exact BK498.out | exact BK499.out | exact BK500.out
    replace c65 := Bool.eq_false_iff.mpr c65
    subst c65
    rw [if_neg (show ¬ (false = true) by decide)] at H
    have H' := Aside0.mk H
    clear H
    obtain ⟨Ao68, co68, eo68⟩ := Kd.R_slice HO511.out
    subst eo68
    obtain ⟨Ao69, co69, eo69⟩ := Kd.R_slice HO515.out
    subst eo69
    go_wp2_with (first | (go_at_call 16; (with_reducible refine (laws_eTexts.calls kj8 _ _ t509 _ _ t513 true _ ?side1 ?side2 ?side3 ?side4 A56.out).mono ?_); (case side1 => repeat (first | exact (Kd.R_reads' HO511.out).2.2 | (with_reducible refine Kd.C_alloc ?_ _) | (with_reducible refine Kd.C_drewN ?_ _) | (with_reducible refine Kd.C_drew ?_))); (case side2 => exact (Kd.R_reads' HO511.out).2.1); (case side3 => repeat (first | exact (Kd.R_reads' HO515.out).2.2 | (with_reducible refine Kd.C_alloc ?_ _) | (with_reducible refine Kd.C_drewN ?_ _) | (with_reducible refine Kd.C_drew ?_))); (case side4 => exact (Kd.R_reads' HO515.out).2.1); rintro e w' ⟨rfl, ⟨nd, rfl⟩⟩))
    go_meet
    case rel => refine ⟨_, (false), (by first | rfl | (simp; done) | (simp [*]; done)), H', ⟨by have := HJ8.out; first | omega | exact Nat.le_refl _⟩, ⟨by (with_reducible repeat (first | apply r_a | apply r_d | apply r_e)); exact Kd.R_mono HO511.out (fun _ hk => trivial)⟩, ⟨?_⟩, ⟨?_⟩, ⟨?_⟩, ⟨?_⟩, ⟨bB HB⟩⟩ <;> (with_reducible repeat (first | refine g_d ?_ _ | refine g_e ?_ | refine g_a ?_ _)) <;> first | exact BK497.out | exact BK498.out | exact BK499.out | exact BK500.out
  clear HC27
  try clear c16
  try clear hcz31_0
  try clear hcz31_1
  try clear hcz33_0
  try clear hcz33_1
  try clear hcz35_0
  try clear hcz35_1
  try clear hcz37_0
  try clear hcz37_1
  try clear hcz39_0
  try clear hcz39_1
  try clear hcz41_0
  try clear hcz41_1
  try clear hcz43_0
  try clear hcz43_1
  try clear hcz45_0
  try clear hcz45_1
  try clear hcz47_0
  try clear hcz47_1
  try clear hcz49_0
  try clear hcz49_1
  try clear hfz31_0
  try clear hfz31_1
  try clear hfz33_0
  try clear hfz33_1
  try clear hfz35_0
  try clear hfz35_1
  try clear hfz37_0
  try clear hfz37_1
  try clear hfz39_0
  try clear hfz39_1
  try clear hfz41_0
  try clear hfz41_1
  try clear hfz43_0
  try clear hfz43_1
  try clear hfz45_0
  try clear hfz45_1
  try clear hfz47_0
  try clear hfz47_1
  try clear hfz49_0
  try clear hfz49_1
  obtain ⟨kq, x212_26, rfl, HA, HJ26, HO_25, BK497, BK498, BK499, BK500, HB⟩ := hcut
  rcases kq with _ | kj26
  · exact absurd HA.out (by simp [laws_FnRingsOpenOfAll.j1])
  have H := HA.out
  clear HA
  simp only [laws_FnRingsOpenOfAll.j1] at H
  by_cases c70 : x212_26 = true
  · subst c70
    rw [if_pos rfl] at H
    rw [HRT.out] at H
    exact absurd H (by simp)
  replace c70 := Bool.eq_false_iff.mpr c70
  subst c70
  rw [if_neg (show ¬ (false = true) by decide)] at H
  have HC71 := Aside0.mk H
  clear H
  go_upto_if 213 with (fail)
  go_cut [] from 1 to 0 (fun wc => ∃ (kq : Nat), Aside0 (laws_FnRingsOpenOfAll.j5 kq a2 a4 a6 a7 a1_0 a1_1 a3_0 a3_1 a5_0 a5_1 = some r) ∧ Aside0 (kq ≤ kj26) ∧ Aside0 (wc.heap[gb497]? = some (.cells #[.int .i64 a0_0, .int .i64 a0_1] 23 (0, 0))) ∧ Aside0 (wc.heap[gb498]? = some (.cells #[.int .i64 a1_0, .int .i64 a1_1] 23 (0, 0))) ∧ Aside0 (wc.heap[gb499]? = some (.cells #[.int .i64 a3_0, .int .i64 a3_1] 23 (0, 0))) ∧ Aside0 (wc.heap[gb500]? = some (.cells #[.int .i64 a5_0, .int .i64 a5_1] 23 (0, 0))) ∧ Aside0 (Below w.heap.size w wc))
  case first => as_aux_lemma =>
    have H := HC71.out
    clear HC71
    by_cases c72 : t502 = true
    rotate_left
    · replace c72 := Bool.eq_false_iff.mpr c72
      subst c72
      rw [if_neg (show ¬ (false = true) by decide)] at H
      have H' := Aside0.mk H
      clear H
      go_wp2
      go_meet
      case rel => refine ⟨_, H', ⟨by have := HJ8.out; have := HJ26.out; first | omega | exact Nat.le_refl _⟩, ⟨?_⟩, ⟨?_⟩, ⟨?_⟩, ⟨?_⟩, ⟨bB HB⟩⟩ <;> (with_reducible repeat (first | refine g_d ?_ _ | refine g_e ?_ | refine g_a ?_ _)) <;> first | exact BK497.out | exact BK498.out | exact BK499.out | exact BK500.out
    subst c72
    rw [if_pos rfl] at H
    replace H := Option.bind_eq_some_iff.mp H
    obtain ⟨⟨t526, t527⟩, A730, H⟩ := H
    try dsimp only at H
    have A73 := Aside0.mk A730
    clear A730
    replace H := Option.bind_eq_some_iff.mp H
    obtain ⟨⟨t528, t529⟩, A740, H⟩ := H
    try dsimp only at H
    have A74 := Aside0.mk A740
    clear A740
    replace H := Option.bind_eq_some_iff.mp H
    obtain ⟨⟨t530, t531⟩, A750, H⟩ := H
    try dsimp only at H
    have A75 := Aside0.mk A750
    clear A750
    replace H := Option.bind_eq_some_iff.mp H
    obtain ⟨⟨t532, t533⟩, A760, H⟩ := H
    try dsimp only at H
    have A76 := Aside0.mk A760
    clear A760
    replace H := Option.bind_eq_some_iff.mp H
    obtain ⟨⟨t534, t535⟩, A770, H⟩ := H
    try dsimp only at H
    have A77 := Aside0.mk A770
    clear A770
    have H' := Aside0.mk H
    clear H
    have hnb78 := eq_false NB497_498.out
    have hnc78 := eq_false NB498_497.out
    have hnb79 := eq_false NB497_499.out
    have hnc79 := eq_false NB499_497.out
    have hnb80 := eq_false NB497_500.out
    have hnc80 := eq_false NB500_497.out
    have hcz81_0 := cz0 BK497
    have hcz81_1 := cz1 BK497
    have hfz81_0 := blk_frozen BK497.out 0
    have hfz81_1 := blk_frozen BK497.out 1
    go_wp2_with (first | ((with_reducible refine gate_callee (f := 17) rfl ?_); refine goesL_ (some 216) rfl rfl Tryz.func17 (by kernel_rfl) rfl #[.agg #[.int .i64 a0_0, .int .i64 a0_1]] rfl (by (try simp only [m_1, m_2, m_3]); first | done | rfl | (simp only [m_4, m_5]; rfl)) ?_; (with_reducible refine (impl_CountCodes.calls kj26 a0_0 a0_1 t526 t527 _ A73.out).mono ?_); rintro e w82 ⟨rfl, hb⟩; refine ⟨_, rfl, ?_⟩; have n0_ := Aside0.mk (Kd.R_below (by (with_reducible repeat (first | apply r_a | apply r_d | apply r_e)); exact HO_25.out) hb); replace BK497 := bbx hb BK497; replace BK498 := bbx hb BK498; replace BK499 := bbx hb BK499; replace BK500 := bbx hb BK500; replace HB := bsx hb HB; clear HO_25; have HO_25 := n0_; clear n0_; (try clear hb); (try clear hb2); (try clear hk); (try clear hi); have hcz83_0 := cz0 BK497; have hcz83_1 := cz1 BK497; have hfz83_0 := blk_frozen BK497.out 0; have hfz83_1 := blk_frozen BK497.out 1) | ((with_reducible refine gate_callee (f := 18) rfl ?_); refine goesL_ (some 222) rfl rfl Tryz.func18 (by kernel_rfl) rfl #[.agg #[.int .i64 a0_0, .int .i64 a0_1], .string t517] rfl (by (try simp only [m_1, m_2, m_3]); first | done | rfl | (simp only [m_4, m_5]; rfl)) ?_; (with_reducible refine (impl_CountOpened.calls kj26 a0_0 a0_1 t517 t528 t529 _ A74.out).mono ?_); rintro e w84 ⟨rfl, hb⟩; refine ⟨_, rfl, ?_⟩; have n0_ := Aside0.mk (Kd.R_below (by (with_reducible repeat (first | apply r_a | apply r_d | apply r_e)); exact HO_25.out) hb); replace BK497 := bbx hb BK497; replace BK498 := bbx hb BK498; replace BK499 := bbx hb BK499; replace BK500 := bbx hb BK500; replace HB := bsx hb HB; clear HO_25; have HO_25 := n0_; clear n0_; (try clear hb); (try clear hb2); (try clear hk); (try clear hi); have hcz85_0 := cz0 BK497; have hcz85_1 := cz1 BK497; have hfz85_0 := blk_frozen BK497.out 0; have hfz85_1 := blk_frozen BK497.out 1) | ((with_reducible refine gate_callee (f := 19) rfl ?_); refine goesL_ (some 228) rfl rfl Tryz.func19 (by kernel_rfl) rfl #[.agg #[.int .i64 a0_0, .int .i64 a0_1], .string t517] rfl (by (try simp only [m_1, m_2, m_3]); first | done | rfl | (simp only [m_4, m_5]; rfl)) ?_; (with_reducible refine (impl_FirstMissed.calls kj26 a0_0 a0_1 t517 t530 t531 _ (strings_Index.gl_below HG.out (bB HB)) A75.out).mono ?_); rintro e w86 ⟨rfl, hb⟩; refine ⟨_, rfl, ?_⟩; have n0_ := Aside0.mk (Kd.R_below (by (with_reducible repeat (first | apply r_a | apply r_d | apply r_e)); exact HO_25.out) hb); replace BK497 := bbx hb BK497; replace BK498 := bbx hb BK498; replace BK499 := bbx hb BK499; replace BK500 := bbx hb BK500; replace HB := bsx hb HB; clear HO_25; have HO_25 := n0_; clear n0_; (try clear hb); (try clear hb2); (try clear hk); (try clear hi); have hcz87_0 := cz0 BK497; have hcz87_1 := cz1 BK497; have hfz87_0 := blk_frozen BK497.out 0; have hfz87_1 := blk_frozen BK497.out 1) | ((with_reducible refine gate_callee (f := 20) rfl ?_); refine goesL_ (some 234) rfl rfl Tryz.func20 (by kernel_rfl) rfl #[.agg #[.int .i64 a0_0, .int .i64 a0_1], .string t501] rfl (by (try simp only [m_1, m_2, m_3]); first | done | rfl | (simp only [m_4, m_5]; rfl)) ?_; (with_reducible refine (impl_IsRing.calls kj26 a0_0 a0_1 t501 t532 t533 _ A76.out).mono ?_); rintro e w88 ⟨rfl, hb⟩; refine ⟨_, rfl, ?_⟩; have n0_ := Aside0.mk (Kd.R_below (by (with_reducible repeat (first | apply r_a | apply r_d | apply r_e)); exact HO_25.out) hb); replace BK497 := bbx hb BK497; replace BK498 := bbx hb BK498; replace BK499 := bbx hb BK499; replace BK500 := bbx hb BK500; replace HB := bsx hb HB; clear HO_25; have HO_25 := n0_; clear n0_; (try clear hb); (try clear hb2); (try clear hk); (try clear hi); have hcz89_0 := cz0 BK497; have hcz89_1 := cz1 BK497; have hfz89_0 := blk_frozen BK497.out 0; have hfz89_1 := blk_frozen BK497.out 1) | ((with_reducible refine gate_callee (f := 20) rfl ?_); refine goesL_ (some 240) rfl rfl Tryz.func20 (by kernel_rfl) rfl #[.agg #[.int .i64 a0_0, .int .i64 a0_1], .string t505] rfl (by (try simp only [m_1, m_2, m_3]); first | done | rfl | (simp only [m_4, m_5]; rfl)) ?_; (with_reducible refine (impl_IsRing.calls kj26 a0_0 a0_1 t505 t534 t535 _ A77.out).mono ?_); rintro e w90 ⟨rfl, hb⟩; refine ⟨_, rfl, ?_⟩; have n0_ := Aside0.mk (Kd.R_below (by (with_reducible repeat (first | apply r_a | apply r_d | apply r_e)); exact HO_25.out) hb); replace BK497 := bbx hb BK497; replace BK498 := bbx hb BK498; replace BK499 := bbx hb BK499; replace BK500 := bbx hb BK500; replace HB := bsx hb HB; clear HO_25; have HO_25 := n0_; clear n0_; (try clear hb); (try clear hb2); (try clear hk); (try clear hi); obtain ⟨Ao91, co91, eo91⟩ := Kd.R_slice HO_25.out; subst eo91))
    go_loopg [47, 245] kj26 (fun kq v47 v245 w' => ∃ (x47_3 : ByteArray) (x245_3 : Int), v47 = .string x47_3 ∧ v245 = .int .i64 x245_3 ∧ Aside0 (laws_FnRingsOpenOfAll.l0 kq a2 a4 a6 a7 t501 t505 t509 t517 t526 t527 t528 t529 t531 t532 t533 t534 t535 x47_3 t509 (t509.length : Int) x245_3 a0_0 a0_1 a1_0 a1_1 a3_0 a3_1 a5_0 a5_1 = some r) ∧ Aside0 (kq ≤ kj26) ∧ Aside0 (Kd.R Kd.string 9 w' w.heap.size (fun _ => True) (.slice Ao91 t509.length co91) t509) ∧ Aside0 (Kd.R Kd.string 9 w' w.heap.size (fun _ => True) (.slice Ao91 t509.length co91) t509) ∧ Aside0 (w'.heap[gb497]? = some (.cells #[.int .i64 a0_0, .int .i64 a0_1] 23 (0, 0))) ∧ Aside0 (w'.heap[gb498]? = some (.cells #[.int .i64 a1_0, .int .i64 a1_1] 23 (0, 0))) ∧ Aside0 (w'.heap[gb499]? = some (.cells #[.int .i64 a3_0, .int .i64 a3_1] 23 (0, 0))) ∧ Aside0 (w'.heap[gb500]? = some (.cells #[.int .i64 a5_0, .int .i64 a5_1] 23 (0, 0))) ∧ Aside0 (Below w.heap.size w w'))
    case atStart => refine ⟨((⟨#[]⟩ : ByteArray)), (0), (by first | rfl | (simp; done) | (simp [*]; done)), (by first | rfl | (simp; done) | (simp [*]; done)), H', ⟨Nat.le_refl _⟩, ⟨?_⟩, ⟨?_⟩, ⟨?_⟩, ⟨?_⟩, ⟨?_⟩, ⟨?_⟩, ⟨bB HB⟩⟩ <;> (with_reducible repeat (first | refine g_d ?_ _ | refine g_e ?_ | refine g_a ?_ _ | apply r_a | apply r_d | apply r_e)) <;> first | exact BK497.out | exact BK498.out | exact BK499.out | exact BK500.out | exact HO_25.out
    clear H'
    try clear c70
    try clear c72
    try clear hcz81_0
    try clear hcz81_1
    try clear hcz83_0
    try clear hcz83_1
    try clear hcz85_0
    try clear hcz85_1
    try clear hcz87_0
    try clear hcz87_1
    try clear hcz89_0
    try clear hcz89_1
    try clear hfz81_0
    try clear hfz81_1
    try clear hfz83_0
    try clear hfz83_1
    try clear hfz85_0
    try clear hfz85_1
    try clear hfz87_0
    try clear hfz87_1
    try clear hfz89_0
    try clear hfz89_1
    obtain ⟨x47_3, x245_3, rfl, rfl, HA, HK3, HO_25, HO_243, BK497, BK498, BK499, BK500, HB⟩ := hrel
    rcases gk with _ | k3
    · exact absurd HA.out (by simp [laws_FnRingsOpenOfAll.l0])
    have H := HA.out
    clear HA
    simp only [laws_FnRingsOpenOfAll.l0] at H
    by_cases c92 : x245_3 < (t509.length : Int)
    · rw [if_pos c92] at H
      have c92b0 : decide (x245_3 < (t509.length : Int)) = true := decide_eq_true c92
      clear c92
      (first | rw [c92b0] | (simp only [i64_w, i32_w]; rw [c92b0]) | skip)
      by_cases c93 : 0 ≤ x245_3
      · rw [if_pos c93] at H
        have c93b0 : decide (0 ≤ x245_3) = true := decide_eq_true c93
        clear c93
        by_cases c94 : x245_3 < (t509.length : Int)
        · rw [if_pos c94] at H
          have c94b0 : decide (x245_3 < (t509.length : Int)) = true := decide_eq_true c94
          clear c94
          by_cases c95 : x47_3.size + (rdOf ByteArray.empty t509 x245_3).size ≤ 9223372036854775807
          · rw [if_pos c95] at H
            have c95b0 := eq_true c95
            have c95b1 : decide (x47_3.size + (rdOf ByteArray.empty t509 x245_3).size ≤ 9223372036854775807) = true := decide_eq_true c95
            try have c95b2 : (9223372036854775807 < x47_3.size + (rdOf ByteArray.empty t509 x245_3).size) = False := eq_false (Nat.not_lt.2 c95)
            by_cases c96 : ((rdOf ByteArray.empty t509 x245_3).size : Int) = 0
            · rw [if_pos c96] at H
              exact absurd H (by simp)
            · rw [if_neg c96] at H
              have c96b0 : (((rdOf ByteArray.empty t509 x245_3).size : Int) == 0) = false := beq_eq_false_iff_ne.mpr c96
              have c96b1 : (((rdOf ByteArray.empty t509 x245_3).size : Int) != 0) = true := bne_iff_ne.mpr c96
              by_cases c97 : (Int.tmod a0_0 ((rdOf ByteArray.empty t509 x245_3).size : Int)) = 0
              · rw [if_pos c97] at H
                have c97b0 : ((Int.tmod a0_0 ((rdOf ByteArray.empty t509 x245_3).size : Int)) == 0) = true := beq_iff_eq.mpr c97
                have c97b1 : ((Int.tmod a0_0 ((rdOf ByteArray.empty t509 x245_3).size : Int)) != 0) = false := bne_eq_false_iff_eq.mpr c97
                clear c97
                have H' := Aside0.mk H
                clear H
                have p536 : 0 ≤ (x245_3 : Int) := of_decide_eq_true (by first | (with_reducible assumption) | assumption)
                have q536 : x245_3 < (t509.length : Int) := of_decide_eq_true (by first | (with_reducible assumption) | assumption)
                obtain ⟨ad536, e536, hx536_0⟩ := Kd.at_string (Kd.R_reads' HO_243.out).2.2 x245_3 p536 q536
                cases e536
                replace p536 := eq_true p536
                replace q536 := eq_true q536
                have hnb98 := eq_false NB497_498.out
                have hnc98 := eq_false NB498_497.out
                have hnb99 := eq_false NB497_499.out
                have hnc99 := eq_false NB499_497.out
                have hnb100 := eq_false NB497_500.out
                have hnc100 := eq_false NB500_497.out
                have hcz101_0 := cz0 BK497
                have hcz101_1 := cz1 BK497
                have hfz101_0 := blk_frozen BK497.out 0
                have hfz101_1 := blk_frozen BK497.out 1
                go_wp2
                go_loopg [50] k3 (fun kq v50 w' => ∃ (x50_4 : Int), v50 = .int .i64 x50_4 ∧ Aside0 (laws_FnRingsOpenOfAll.l1 kq a2 a4 a6 a7 t501 t505 t509 t517 t526 t527 t528 t529 t531 t532 t533 t534 t535 (x47_3 ++ (rdOf ByteArray.empty t509 x245_3)) (rdOf ByteArray.empty t509 x245_3) x50_4 t509 (t509.length : Int) x245_3 a0_0 a0_1 a1_0 a1_1 a3_0 a3_1 a5_0 a5_1 = some r) ∧ Aside0 (kq ≤ k3) ∧ Aside0 (Kd.R Kd.string 9 w' w.heap.size (fun _ => True) (.slice (some ad536) t509.length co91) t509) ∧ Aside0 (Kd.R Kd.string 9 w' w.heap.size (fun _ => True) (.slice (some ad536) t509.length co91) t509) ∧ Aside0 (w'.heap[gb497]? = some (.cells #[.int .i64 a0_0, .int .i64 a0_1] 23 (0, 0))) ∧ Aside0 (w'.heap[gb498]? = some (.cells #[.int .i64 a1_0, .int .i64 a1_1] 23 (0, 0))) ∧ Aside0 (w'.heap[gb499]? = some (.cells #[.int .i64 a3_0, .int .i64 a3_1] 23 (0, 0))) ∧ Aside0 (w'.heap[gb500]? = some (.cells #[.int .i64 a5_0, .int .i64 a5_1] 23 (0, 0))) ∧ Aside0 (Below w.heap.size w w'))
                case atStart => refine ⟨(1), (by first | rfl | (simp; done) | (simp [*]; done)), H', ⟨Nat.le_refl _⟩, ⟨?_⟩, ⟨?_⟩, ⟨?_⟩, ⟨?_⟩, ⟨?_⟩, ⟨?_⟩, ⟨bB HB⟩⟩ <;> (with_reducible repeat (first | refine g_d ?_ _ | refine g_e ?_ | refine g_a ?_ _ | apply r_a | apply r_d | apply r_e)) <;> first | exact BK497.out | exact BK498.out | exact BK499.out | exact BK500.out | exact HO_25.out | exact HO_243.out
                case round =>
                  clear H'
                  try clear c92
                  try clear c92b0
                  try clear c93
                  try clear c93b0
                  try clear c94
                  try clear c94b0
                  try clear c95
                  try clear c95b0
                  try clear c95b1
                  try clear c95b2
                  try clear c96
                  try clear c96b0
                  try clear c96b1
                  try clear c97
                  try clear c97b0
                  try clear c97b1
                  try clear hcz101_0
                  try clear hcz101_1
                  try clear hfz101_0
                  try clear hfz101_1
                  try clear hx536_0
                  try clear p536
                  try clear q536
                  obtain ⟨x50_4, rfl, HA, HK4, HO_25, HO_243, BK497, BK498, BK499, BK500, HB⟩ := hrel
                  cases gk with
                  | zero => exact absurd HA.out (by simp [laws_FnRingsOpenOfAll.l1])
                  | succ k4 =>
                    have H := HA.out
                    clear HA
                    simp only [laws_FnRingsOpenOfAll.l1] at H
                    by_cases c102 : x50_4 < ((rdOf ByteArray.empty t509 x245_3).size : Int)
                    · rw [if_pos c102] at H
                      have c102b0 : decide (x50_4 < ((rdOf ByteArray.empty t509 x245_3).size : Int)) = true := decide_eq_true c102
                      clear c102
                      by_cases c103 : 0 ≤ x50_4
                      · rw [if_pos c103] at H
                        have c103b0 := eq_true c103
                        have c103b1 : decide (0 ≤ x50_4) = true := decide_eq_true c103
                        clear c103
                        by_cases c104 : x50_4 ≤ ((rdOf ByteArray.empty t509 x245_3).size : Int)
                        · rw [if_pos c104] at H
                          have c104b0 := eq_true c104
                          have c104b1 : decide (x50_4 ≤ ((rdOf ByteArray.empty t509 x245_3).size : Int)) = true := decide_eq_true c104
                          clear c104
                          have c105b0 := eq_true (of_decide_eq_true (by first | (with_reducible assumption) | assumption) : 0 ≤ x50_4)
                          have c106b0 := eq_true (of_decide_eq_true (by first | (with_reducible assumption) | assumption) : x50_4 ≤ ((rdOf ByteArray.empty t509 x245_3).size : Int))
                          by_cases c107 : ((rdOf ByteArray.empty t509 x245_3).extract (x50_4 : Int).toNat (rdOf ByteArray.empty t509 x245_3).size).size + ((rdOf ByteArray.empty t509 x245_3).extract 0 (x50_4 : Int).toNat).size ≤ 9223372036854775807
                          · rw [if_pos c107] at H
                            have c107b0 := eq_true c107
                            have c107b1 : decide (((rdOf ByteArray.empty t509 x245_3).extract (x50_4 : Int).toNat (rdOf ByteArray.empty t509 x245_3).size).size + ((rdOf ByteArray.empty t509 x245_3).extract 0 (x50_4 : Int).toNat).size ≤ 9223372036854775807) = true := decide_eq_true c107
                            try have c107b2 : (9223372036854775807 < ((rdOf ByteArray.empty t509 x245_3).extract (x50_4 : Int).toNat (rdOf ByteArray.empty t509 x245_3).size).size + ((rdOf ByteArray.empty t509 x245_3).extract 0 (x50_4 : Int).toNat).size) = False := eq_false (Nat.not_lt.2 c107)
                            try have c107b8 : (9223372036854775807 < (rdOf ByteArray.empty t509 x245_3).size) = False := eq_false (by have h_ := c107; rw [ByteArray.size_extract, ByteArray.size_extract] at h_; have q_ : x50_4 ≤ ((rdOf ByteArray.empty t509 x245_3).size : Int) := (by first | exact of_decide_eq_true (by assumption) | omega); omega)
                            by_cases c108 : ((Op.bytesLess (rdOf ByteArray.empty t509 x245_3).toList ((((rdOf ByteArray.empty t509 x245_3).extract (x50_4 : Int).toNat (rdOf ByteArray.empty t509 x245_3).size) ++ ((rdOf ByteArray.empty t509 x245_3).extract 0 (x50_4 : Int).toNat)).toList)) = true)
                            · rw [if_pos c108] at H
                              have c108b0 : (Op.bytesLess (rdOf ByteArray.empty t509 x245_3).toList ((((rdOf ByteArray.empty t509 x245_3).extract (x50_4 : Int).toNat (rdOf ByteArray.empty t509 x245_3).size) ++ ((rdOf ByteArray.empty t509 x245_3).extract 0 (x50_4 : Int).toNat)).toList)) = true := c108
                              clear c108
                              have H' := Aside0.mk H
                              clear H
                              try go_wp2
                              have n0_ := Aside0.mk (r_e HO_25.out)
                              have n1_ := Aside0.mk (r_e HO_243.out)
                              have n2_ := Aside0.mk (g_e BK497.out)
                              have n3_ := Aside0.mk (g_e BK498.out)
                              have n4_ := Aside0.mk (g_e BK499.out)
                              have n5_ := Aside0.mk (g_e BK500.out)
                              have n6_ := Aside0.mk (b_e HB.out)
                              clear HO_25
                              clear HO_243
                              clear BK497
                              clear BK498
                              clear BK499
                              clear BK500
                              clear HB
                              have HO_25 := n0_
                              have HO_243 := n1_
                              have BK497 := n2_
                              have BK498 := n3_
                              have BK499 := n4_
                              have BK500 := n5_
                              have HB := n6_
                              clear n0_ n1_ n2_ n3_ n4_ n5_ n6_
                              refine start_ (n := 9) (S := fun w' => True) (ds := []) (bs_ 9 0) (by kernel_rfl) rfl rfl trivial (fun hHeld => ?_); refine with_tabW laws_FnRingsOpenOfAll.tab31 laws_FnRingsOpenOfAll.bits31 (fun HT_ HW_ => ?_)
                              generalize wr.drew = w109 at HO_25 HO_243 BK497 BK498 BK499 BK500 HB hHeld ⊢
                              refine pua 0 264 (bs_ 9 1) HT_ ?_
                              refine pua 1 265 (bs_ 9 3) HT_ ?_
                              refine pua 2 266 (bs_ 9 7) HT_ ?_
                              refine pua 3 267 (bs_ 9 15) HT_ ?_
                              refine pua 4 268 (bs_ 9 31) HT_ ?_
                              refine pua 5 269 (bs_ 9 63) HT_ ?_
                              refine pua 6 270 (bs_ 9 127) HT_ ?_
                              refine pua 7 271 (bs_ 9 255) HT_ ?_
                              refine pua 8 272 (bs_ 9 511) HT_ ?_
                              refine done_ (done_of HT_.out (by kernel_rfl)) ?_
                              try go_wp2
                              go_roundg k4
                              case measure => have := HJ8.out; have := HJ26.out; have := HK3.out; have := HK4.out; omega
                              case rel => refine ⟨(wrap64 (x50_4 + 1)), (by first | rfl | (simp; done) | (simp [*]; done)), H', ⟨by have := HJ8.out; have := HJ26.out; have := HK3.out; have := HK4.out; omega⟩, ⟨?_⟩, ⟨?_⟩, ⟨?_⟩, ⟨?_⟩, ⟨?_⟩, ⟨?_⟩, ⟨bB HB⟩⟩ <;> (with_reducible repeat (first | refine g_d ?_ _ | refine g_e ?_ | refine g_a ?_ _ | apply r_a | apply r_d | apply r_e)) <;> first | exact BK497.out | exact BK498.out | exact BK499.out | exact BK500.out | exact HO_25.out | exact HO_243.out
                            · rw [if_neg c108] at H
                              have c108b0 : (Op.bytesLess (rdOf ByteArray.empty t509 x245_3).toList ((((rdOf ByteArray.empty t509 x245_3).extract (x50_4 : Int).toNat (rdOf ByteArray.empty t509 x245_3).size) ++ ((rdOf ByteArray.empty t509 x245_3).extract 0 (x50_4 : Int).toNat)).toList)) = false := by simpa using c108
                              clear c108
                              rw [HRT.out] at H
                              exact absurd H (by simp)
                          · rw [if_neg c107] at H
                            exact absurd H (by simp)
                        · rw [if_neg c104] at H
                          exact absurd H (by simp)
                      · rw [if_neg c103] at H
                        exact absurd H (by simp)
                    · rw [if_neg c102] at H
                      have c102b0 : decide (x50_4 < ((rdOf ByteArray.empty t509 x245_3).size : Int)) = false := decide_eq_false c102
                      clear c102
                      have H' := Aside0.mk H
                      clear H
                      go_wp2
                      go_roundg k4
                      case measure => have := HJ8.out; have := HJ26.out; have := HK3.out; have := HK4.out; omega
                      case rel => refine ⟨((x47_3 ++ (rdOf ByteArray.empty t509 x245_3))), (wrap64 (x245_3 + 1)), (by first | rfl | (simp; done) | (simp [*]; done)), (by first | rfl | (simp; done) | (simp [*]; done)), H', ⟨by have := HJ8.out; have := HJ26.out; have := HK3.out; have := HK4.out; omega⟩, ⟨?_⟩, ⟨?_⟩, ⟨?_⟩, ⟨?_⟩, ⟨?_⟩, ⟨?_⟩, ⟨bB HB⟩⟩ <;> (with_reducible repeat (first | refine g_d ?_ _ | refine g_e ?_ | refine g_a ?_ _ | apply r_a | apply r_d | apply r_e)) <;> first | exact BK497.out | exact BK498.out | exact BK499.out | exact BK500.out | exact HO_25.out | exact HO_243.out
              · rw [if_neg c97] at H
                have c97b0 : ((Int.tmod a0_0 ((rdOf ByteArray.empty t509 x245_3).size : Int)) == 0) = false := beq_eq_false_iff_ne.mpr c97
                have c97b1 : ((Int.tmod a0_0 ((rdOf ByteArray.empty t509 x245_3).size : Int)) != 0) = true := bne_iff_ne.mpr c97
                rw [HRT.out] at H
                exact absurd H (by simp)
          · rw [if_neg c95] at H
            exact absurd H (by simp)
        · rw [if_neg c94] at H
          exact absurd H (by simp)
      · rw [if_neg c93] at H
        exact absurd H (by simp)
    rw [if_neg c92] at H
    have c92b0 : decide (x245_3 < (t509.length : Int)) = false := decide_eq_false c92
    clear c92
    (first | rw [c92b0] | (simp only [i64_w, i32_w]; rw [c92b0]) | skip)
    have H' := Aside0.mk H
    clear H
    go_wp2
    go_loopg [51, 52] k3 (fun kq v51 v52 w' => ∃ (x51_4 : Int) (x52_4 : Int), v51 = .int .i64 x51_4 ∧ v52 = .int .i64 x52_4 ∧ Aside0 (laws_FnRingsOpenOfAll.l2 kq a2 a4 a6 a7 t501 t505 t509 t517 t526 t527 t528 t529 t531 t532 t533 t534 t535 x47_3 x51_4 x52_4 a0_0 a0_1 a1_0 a1_1 a3_0 a3_1 a5_0 a5_1 = some r) ∧ Aside0 (kq ≤ k3) ∧ Aside0 (Kd.R Kd.string 9 w' w.heap.size (fun _ => True) (.slice Ao91 t509.length co91) t509) ∧ Aside0 (w'.heap[gb497]? = some (.cells #[.int .i64 a0_0, .int .i64 a0_1] 23 (0, 0))) ∧ Aside0 (w'.heap[gb498]? = some (.cells #[.int .i64 a1_0, .int .i64 a1_1] 23 (0, 0))) ∧ Aside0 (w'.heap[gb499]? = some (.cells #[.int .i64 a3_0, .int .i64 a3_1] 23 (0, 0))) ∧ Aside0 (w'.heap[gb500]? = some (.cells #[.int .i64 a5_0, .int .i64 a5_1] 23 (0, 0))) ∧ Aside0 (Below w.heap.size w w'))
    case atStart => refine ⟨(0), (1), (by first | rfl | (simp; done) | (simp [*]; done)), (by first | rfl | (simp; done) | (simp [*]; done)), H', ⟨Nat.le_refl _⟩, ⟨?_⟩, ⟨?_⟩, ⟨?_⟩, ⟨?_⟩, ⟨?_⟩, ⟨bB HB⟩⟩ <;> (with_reducible repeat (first | refine g_d ?_ _ | refine g_e ?_ | refine g_a ?_ _ | apply r_a | apply r_d | apply r_e)) <;> first | exact BK497.out | exact BK498.out | exact BK499.out | exact BK500.out | exact HO_25.out
    clear H'
    try clear c92
    try clear c92b0
    obtain ⟨x51_4, x52_4, rfl, rfl, HA, HK4, HO_25, BK497, BK498, BK499, BK500, HB⟩ := hrel
    rcases gk with _ | k4
    · exact absurd HA.out (by simp [laws_FnRingsOpenOfAll.l2])
    have H := HA.out
    clear HA
    simp only [laws_FnRingsOpenOfAll.l2] at H
    by_cases c110 : x52_4 ≤ a0_0
    · rw [if_pos c110] at H
      have c110b0 : decide (x52_4 ≤ a0_0) = true := decide_eq_true c110
      clear c110
      by_cases c111 : x52_4 = 0
      · rw [if_pos c111] at H
        exact absurd H (by simp)
      · rw [if_neg c111] at H
        have c111b0 : (x52_4 == 0) = false := beq_eq_false_iff_ne.mpr c111
        have c111b1 : (x52_4 != 0) = true := bne_iff_ne.mpr c111
        by_cases c112 : (Int.tmod a0_0 x52_4) = 0
        · rw [if_pos c112] at H
          have c112b0 : ((Int.tmod a0_0 x52_4) == 0) = true := beq_iff_eq.mpr c112
          have c112b1 : ((Int.tmod a0_0 x52_4) != 0) = false := bne_eq_false_iff_eq.mpr c112
          clear c112
          replace H := Option.bind_eq_some_iff.mp H
          obtain ⟨⟨t538, t539⟩, A1130, H⟩ := H
          try dsimp only at H
          have A113 := Aside0.mk A1130
          clear A1130
          by_cases c114 : t539 = true
          · subst c114
            rw [if_pos rfl] at H
            have H' := Aside0.mk H
            clear H
            have hnb115 := eq_false NB497_498.out
            have hnc115 := eq_false NB498_497.out
            have hnb116 := eq_false NB497_499.out
            have hnc116 := eq_false NB499_497.out
            have hnb117 := eq_false NB497_500.out
            have hnc117 := eq_false NB500_497.out
            have hcz118_0 := cz0 BK497
            have hcz118_1 := cz1 BK497
            have hfz118_0 := blk_frozen BK497.out 0
            have hfz118_1 := blk_frozen BK497.out 1
            go_wp2_with (first | ((with_reducible refine gate_callee (f := 21) rfl ?_); refine goesL_ (some 288) rfl rfl Tryz.func21 (by kernel_rfl) rfl #[.agg #[.int .i64 a0_0, .int .i64 a0_1], .int .i64 x52_4] rfl (by (try simp only [m_1, m_2, m_3]); first | done | rfl | (simp only [m_4, m_5]; rfl)) ?_; (with_reducible refine (impl_CountLeastWords.calls k4 a0_0 a0_1 x52_4 t538 true _ A113.out).mono ?_); rintro e w119 ⟨rfl, hb⟩; refine ⟨_, rfl, ?_⟩; have n0_ := Aside0.mk (Kd.R_below (by (with_reducible repeat (first | apply r_a | apply r_d | apply r_e)); exact HO_25.out) hb); replace BK497 := bbx hb BK497; replace BK498 := bbx hb BK498; replace BK499 := bbx hb BK499; replace BK500 := bbx hb BK500; replace HB := bsx hb HB; clear HO_25; have HO_25 := n0_; clear n0_; (try clear hb); (try clear hb2); (try clear hk); (try clear hi)))
            go_roundg k4
            case measure => have := HJ8.out; have := HJ26.out; have := HK3.out; have := HK4.out; omega
            case rel => refine ⟨(wrap64 (x51_4 + t538)), (wrap64 (x52_4 + 1)), (by first | rfl | (simp; done) | (simp [*]; done)), (by first | rfl | (simp; done) | (simp [*]; done)), H', ⟨by have := HJ8.out; have := HJ26.out; have := HK3.out; have := HK4.out; omega⟩, ⟨?_⟩, ⟨?_⟩, ⟨?_⟩, ⟨?_⟩, ⟨?_⟩, ⟨bB HB⟩⟩ <;> (with_reducible repeat (first | refine g_d ?_ _ | refine g_e ?_ | refine g_a ?_ _ | apply r_a | apply r_d | apply r_e)) <;> first | exact BK497.out | exact BK498.out | exact BK499.out | exact BK500.out | exact HO_25.out
          · replace c114 := Bool.eq_false_iff.mpr c114
            subst c114
            rw [if_neg (show ¬ (false = true) by decide)] at H
            rw [HRT.out] at H
            exact absurd H (by simp)
        · rw [if_neg c112] at H
          have c112b0 : ((Int.tmod a0_0 x52_4) == 0) = false := beq_eq_false_iff_ne.mpr c112
          have c112b1 : ((Int.tmod a0_0 x52_4) != 0) = true := bne_iff_ne.mpr c112
          have H' := Aside0.mk H
          clear H
          have hnb120 := eq_false NB497_498.out
          have hnc120 := eq_false NB498_497.out
          have hnb121 := eq_false NB497_499.out
          have hnc121 := eq_false NB499_497.out
          have hnb122 := eq_false NB497_500.out
          have hnc122 := eq_false NB500_497.out
          have hcz123_0 := cz0 BK497
          have hcz123_1 := cz1 BK497
          have hfz123_0 := blk_frozen BK497.out 0
          have hfz123_1 := blk_frozen BK497.out 1
          go_wp2
          go_roundg k4
          case measure => have := HJ8.out; have := HJ26.out; have := HK3.out; have := HK4.out; omega
          case rel => refine ⟨(x51_4), (wrap64 (x52_4 + 1)), (by first | rfl | (simp; done) | (simp [*]; done)), (by first | rfl | (simp; done) | (simp [*]; done)), H', ⟨by have := HJ8.out; have := HJ26.out; have := HK3.out; have := HK4.out; omega⟩, ⟨?_⟩, ⟨?_⟩, ⟨?_⟩, ⟨?_⟩, ⟨?_⟩, ⟨bB HB⟩⟩ <;> (with_reducible repeat (first | refine g_d ?_ _ | refine g_e ?_ | refine g_a ?_ _ | apply r_a | apply r_d | apply r_e)) <;> first | exact BK497.out | exact BK498.out | exact BK499.out | exact BK500.out | exact HO_25.out
    rw [if_neg c110] at H
    have c110b0 : decide (x52_4 ≤ a0_0) = false := decide_eq_false c110
    clear c110
    by_cases c124 : t527 = true
    rotate_left
    · replace c124 := Bool.eq_false_iff.mpr c124
      subst c124
      rw [if_neg (show ¬ (false = true) by decide)] at H
      rw [HRT.out] at H
      exact absurd H (by simp)
    subst c124
    rw [if_pos rfl] at H
    by_cases c125 : (t501.size : Int) = t526
    rotate_left
    · rw [if_neg c125] at H
      have c125b0 : ((t501.size : Int) == t526) = false := beq_eq_false_iff_ne.mpr c125
      have c125b1 : ((t501.size : Int) != t526) = true := bne_iff_ne.mpr c125
      rw [HRT.out] at H
      exact absurd H (by simp)
    rw [if_pos c125] at H
    have c125b0 : ((t501.size : Int) == t526) = true := beq_iff_eq.mpr c125
    have c125b1 : ((t501.size : Int) != t526) = false := bne_eq_false_iff_eq.mpr c125
    clear c125
    by_cases c126 : x47_3.toList = t501.toList
    rotate_left
    · rw [if_neg c126] at H
      have c126b0 : (x47_3.toList == t501.toList) = false := beq_eq_false_iff_ne.mpr c126
      have c126b1 : (x47_3.toList != t501.toList) = true := bne_iff_ne.mpr c126
      rw [HRT.out] at H
      exact absurd H (by simp)
    rw [if_pos c126] at H
    have c126b0 : (x47_3.toList == t501.toList) = true := beq_iff_eq.mpr c126
    have c126b1 : (x47_3.toList != t501.toList) = false := bne_eq_false_iff_eq.mpr c126
    clear c126
    replace H := Option.bind_eq_some_iff.mp H
    obtain ⟨t537, A1270, H⟩ := H
    try dsimp only at H
    have A127 := Aside0.mk A1270
    clear A1270
    by_cases c128 : t537 = true
    rotate_left
    · replace c128 := Bool.eq_false_iff.mpr c128
      subst c128
      rw [if_neg (show ¬ (false = true) by decide)] at H
      rw [HRT.out] at H
      exact absurd H (by simp)
    subst c128
    rw [if_pos rfl] at H
    by_cases c129 : x51_4 = (t509.length : Int)
    rotate_left
    · rw [if_neg c129] at H
      have c129b0 : (x51_4 == (t509.length : Int)) = false := beq_eq_false_iff_ne.mpr c129
      have c129b1 : (x51_4 != (t509.length : Int)) = true := bne_iff_ne.mpr c129
      rw [HRT.out] at H
      exact absurd H (by simp)
    rw [if_pos c129] at H
    have c129b0 : (x51_4 == (t509.length : Int)) = true := beq_iff_eq.mpr c129
    have c129b1 : (x51_4 != (t509.length : Int)) = false := bne_eq_false_iff_eq.mpr c129
    clear c129
    by_cases c130 : (t517.size : Int) = (wrap64 ((wrap64 (t526 + a0_0)) - 1))
    rotate_left
    · rw [if_neg c130] at H
      have c130b0 : ((t517.size : Int) == (wrap64 ((wrap64 (t526 + a0_0)) - 1))) = false := beq_eq_false_iff_ne.mpr c130
      have c130b1 : ((t517.size : Int) != (wrap64 ((wrap64 (t526 + a0_0)) - 1))) = true := bne_iff_ne.mpr c130
      rw [HRT.out] at H
      exact absurd H (by simp)
    rw [if_pos c130] at H
    have c130b0 : ((t517.size : Int) == (wrap64 ((wrap64 (t526 + a0_0)) - 1))) = true := beq_iff_eq.mpr c130
    have c130b1 : ((t517.size : Int) != (wrap64 ((wrap64 (t526 + a0_0)) - 1))) = false := bne_eq_false_iff_eq.mpr c130
    clear c130
    by_cases c131 : t529 = true
    rotate_left
    · replace c131 := Bool.eq_false_iff.mpr c131
      subst c131
      rw [if_neg (show ¬ (false = true) by decide)] at H
      rw [HRT.out] at H
      exact absurd H (by simp)
    subst c131
    rw [if_pos rfl] at H
    by_cases c132 : t528 = t526
    rotate_left
    · rw [if_neg c132] at H
      have c132b0 : (t528 == t526) = false := beq_eq_false_iff_ne.mpr c132
      have c132b1 : (t528 != t526) = true := bne_iff_ne.mpr c132
      rw [HRT.out] at H
      exact absurd H (by simp)
    rw [if_pos c132] at H
    have c132b0 : (t528 == t526) = true := beq_iff_eq.mpr c132
    have c132b1 : (t528 != t526) = false := bne_eq_false_iff_eq.mpr c132
    clear c132
    by_cases c133 : t531 = true
    · subst c133
      rw [if_pos rfl] at H
      rw [HRT.out] at H
      exact absurd H (by simp)
    replace c133 := Bool.eq_false_iff.mpr c133
    subst c133
    rw [if_neg (show ¬ (false = true) by decide)] at H
    by_cases c134 : t533 = true
    rotate_left
    · replace c134 := Bool.eq_false_iff.mpr c134
      subst c134
      rw [if_neg (show ¬ (false = true) by decide)] at H
      rw [HRT.out] at H
      exact absurd H (by simp)
    subst c134
    rw [if_pos rfl] at H
    by_cases c135 : t532 = true
    rotate_left
    · replace c135 := Bool.eq_false_iff.mpr c135
      subst c135
      rw [if_neg (show ¬ (false = true) by decide)] at H
      rw [HRT.out] at H
      exact absurd H (by simp)
    subst c135
    rw [if_pos rfl] at H
    by_cases c136 : t535 = true
    rotate_left
    · replace c136 := Bool.eq_false_iff.mpr c136
      subst c136
      rw [if_neg (show ¬ (false = true) by decide)] at H
      rw [HRT.out] at H
      exact absurd H (by simp)
    subst c136
    rw [if_pos rfl] at H
    by_cases c137 : t534 = true
    rotate_left
    · replace c137 := Bool.eq_false_iff.mpr c137
      subst c137
      rw [if_neg (show ¬ (false = true) by decide)] at H
      rw [HRT.out] at H
      exact absurd H (by simp)
    subst c137
    rw [if_pos rfl] at H
    by_cases c138 : ((Op.bytesLess t501.toList t505.toList) = true)
    rotate_left
    · rw [if_neg c138] at H
      have c138b0 : (Op.bytesLess t501.toList t505.toList) = false := by simpa using c138
      clear c138
      rw [HRT.out] at H
      exact absurd H (by simp)
    rw [if_pos c138] at H
    have c138b0 : (Op.bytesLess t501.toList t505.toList) = true := c138
    clear c138
    have H' := Aside0.mk H
    clear H
    have hnb139 := eq_false NB497_498.out
    have hnc139 := eq_false NB498_497.out
    have hnb140 := eq_false NB497_499.out
    have hnc140 := eq_false NB499_497.out
    have hnb141 := eq_false NB497_500.out
    have hnc141 := eq_false NB500_497.out
    have hcz142_0 := cz0 BK497
    have hcz142_1 := cz1 BK497
    have hfz142_0 := blk_frozen BK497.out 0
    have hfz142_1 := blk_frozen BK497.out 1
    go_wp2_with (first | (go_at_call 22; (with_reducible refine (laws_eSorted.calls k4 _ _ t509 true _ ?side1 ?side2 A127.out).mono ?_); (case side1 => repeat (first | exact (Kd.R_reads' HO_25.out).2.2 | (with_reducible refine Kd.C_alloc ?_ _) | (with_reducible refine Kd.C_drewN ?_ _) | (with_reducible refine Kd.C_drew ?_))); (case side2 => exact (Kd.R_reads' HO_25.out).2.1); rintro e w' ⟨rfl, ⟨nd, rfl⟩⟩))
    go_meet
    case rel => refine ⟨_, H', ⟨by have := HJ8.out; have := HJ26.out; have := HK3.out; have := HK4.out; first | omega | exact Nat.le_refl _⟩, ⟨?_⟩, ⟨?_⟩, ⟨?_⟩, ⟨?_⟩, ⟨bB HB⟩⟩ <;> (with_reducible repeat (first | refine g_d ?_ _ | refine g_e ?_ | refine g_a ?_ _)) <;> first | exact BK497.out | exact BK498.out | exact BK499.out | exact BK500.out
  clear HC71
  obtain ⟨kq, HA, HJ70, BK497, BK498, BK499, BK500, HB⟩ := hcut
  rcases kq with _ | kj70
  · exact absurd HA.out (by simp [laws_FnRingsOpenOfAll.j5])
  have H := HA.out
  clear HA
  simp only [laws_FnRingsOpenOfAll.j5] at H
  replace H := Option.bind_eq_some_iff.mp H
  obtain ⟨⟨t540, t541⟩, A1430, H⟩ := H
  try dsimp only at H
  have A143 := Aside0.mk A1430
  clear A1430
  replace H := Option.bind_eq_some_iff.mp H
  obtain ⟨⟨t542, t543⟩, A1440, H⟩ := H
  try dsimp only at H
  have A144 := Aside0.mk A1440
  clear A1440
  replace H := Option.bind_eq_some_iff.mp H
  obtain ⟨⟨t544, t545⟩, A1450, H⟩ := H
  try dsimp only at H
  have A145 := Aside0.mk A1450
  clear A1450
  replace H := Option.bind_eq_some_iff.mp H
  obtain ⟨⟨t546, t547⟩, A1460, H⟩ := H
  try dsimp only at H
  have A146 := Aside0.mk A1460
  clear A1460
  replace H := Option.bind_eq_some_iff.mp H
  obtain ⟨⟨t548, t549⟩, A1470, H⟩ := H
  try dsimp only at H
  have A147 := Aside0.mk A1470
  clear A1470
  replace H := Option.bind_eq_some_iff.mp H
  obtain ⟨⟨t550, t551⟩, A1480, H⟩ := H
  try dsimp only at H
  have A148 := Aside0.mk A1480
  clear A1480
  replace H := Option.bind_eq_some_iff.mp H
  obtain ⟨⟨t552, t553⟩, A1490, H⟩ := H
  try dsimp only at H
  have A149 := Aside0.mk A1490
  clear A1490
  replace H := Option.bind_eq_some_iff.mp H
  obtain ⟨⟨t554, t555⟩, A1500, H⟩ := H
  try dsimp only at H
  have A150 := Aside0.mk A1500
  clear A1500
  have HC151 := Aside0.mk H
  clear H
  have hnb152 := eq_false NB498_497.out
  have hnc152 := eq_false NB497_498.out
  have hnb153 := eq_false NB498_499.out
  have hnc153 := eq_false NB499_498.out
  have hnb154 := eq_false NB498_500.out
  have hnc154 := eq_false NB500_498.out
  have hcz155_0 := cz0 BK498
  have hcz155_1 := cz1 BK498
  have hfz155_0 := blk_frozen BK498.out 0
  have hfz155_1 := blk_frozen BK498.out 1
  go_upto_region 53 with (first | ((with_reducible refine gate_callee (f := 21) rfl ?_); refine goesL_ (some 366) rfl rfl Tryz.func21 (by kernel_rfl) rfl #[.agg #[.int .i64 a1_0, .int .i64 a1_1], .int .i64 a2] rfl (by (try simp only [m_1, m_2, m_3]); first | done | rfl | (simp only [m_4, m_5]; rfl)) ?_; (with_reducible refine (impl_CountLeastWords.calls kj70 a1_0 a1_1 a2 t540 t541 _ A143.out).mono ?_); rintro e w156 ⟨rfl, hb⟩; refine ⟨_, rfl, ?_⟩; replace BK497 := bbx hb BK497; replace BK498 := bbx hb BK498; replace BK499 := bbx hb BK499; replace BK500 := bbx hb BK500; replace HB := bsx hb HB; skip; (try clear hb); (try clear hb2); (try clear hk); (try clear hi); have hcz157_0 := cz0 BK498; have hcz157_1 := cz1 BK498; have hfz157_0 := blk_frozen BK498.out 0; have hfz157_1 := blk_frozen BK498.out 1) | ((with_reducible refine gate_callee (f := 23) rfl ?_); refine goesL_ (some 372) rfl rfl Tryz.func23 (by kernel_rfl) rfl #[.agg #[.int .i64 a1_0, .int .i64 a1_1], .int .i64 a2] rfl (by (try simp only [m_1, m_2, m_3]); first | done | rfl | (simp only [m_4, m_5]; rfl)) ?_; (with_reducible refine (spec_CountLeastWords.calls kj70 a1_0 a1_1 a2 t542 t543 _ A144.out).mono ?_); rintro e w158 ⟨rfl, hb⟩; refine ⟨_, rfl, ?_⟩; replace BK497 := bbx hb BK497; replace BK498 := bbx hb BK498; replace BK499 := bbx hb BK499; replace BK500 := bbx hb BK500; replace HB := bsx hb HB; skip; (try clear hb); (try clear hb2); (try clear hk); (try clear hi); have hnb159 := eq_false NB499_497.out; have hnc159 := eq_false NB497_499.out; have hnb160 := eq_false NB499_500.out; have hnc160 := eq_false NB500_499.out; have hcz161_0 := cz0 BK499; have hcz161_1 := cz1 BK499; have hfz161_0 := blk_frozen BK499.out 0; have hfz161_1 := blk_frozen BK499.out 1) | ((with_reducible refine gate_callee (f := 18) rfl ?_); refine goesL_ (some 378) rfl rfl Tryz.func18 (by kernel_rfl) rfl #[.agg #[.int .i64 a3_0, .int .i64 a3_1], .string a4] rfl (by (try simp only [m_1, m_2, m_3]); first | done | rfl | (simp only [m_4, m_5]; rfl)) ?_; (with_reducible refine (impl_CountOpened.calls kj70 a3_0 a3_1 a4 t544 t545 _ A145.out).mono ?_); rintro e w162 ⟨rfl, hb⟩; refine ⟨_, rfl, ?_⟩; replace BK497 := bbx hb BK497; replace BK498 := bbx hb BK498; replace BK499 := bbx hb BK499; replace BK500 := bbx hb BK500; replace HB := bsx hb HB; skip; (try clear hb); (try clear hb2); (try clear hk); (try clear hi); have hcz163_0 := cz0 BK499; have hcz163_1 := cz1 BK499; have hfz163_0 := blk_frozen BK499.out 0; have hfz163_1 := blk_frozen BK499.out 1) | ((with_reducible refine gate_callee (f := 24) rfl ?_); refine goesL_ (some 384) rfl rfl Tryz.func24 (by kernel_rfl) rfl #[.agg #[.int .i64 a3_0, .int .i64 a3_1], .string a4] rfl (by (try simp only [m_1, m_2, m_3]); first | done | rfl | (simp only [m_4, m_5]; rfl)) ?_; (with_reducible refine (spec_CountOpened.calls kj70 a3_0 a3_1 a4 t546 t547 _ A146.out).mono ?_); rintro e w164 ⟨rfl, hb⟩; refine ⟨_, rfl, ?_⟩; replace BK497 := bbx hb BK497; replace BK498 := bbx hb BK498; replace BK499 := bbx hb BK499; replace BK500 := bbx hb BK500; replace HB := bsx hb HB; skip; (try clear hb); (try clear hb2); (try clear hk); (try clear hi); have hcz165_0 := cz0 BK499; have hcz165_1 := cz1 BK499; have hfz165_0 := blk_frozen BK499.out 0; have hfz165_1 := blk_frozen BK499.out 1) | ((with_reducible refine gate_callee (f := 19) rfl ?_); refine goesL_ (some 390) rfl rfl Tryz.func19 (by kernel_rfl) rfl #[.agg #[.int .i64 a3_0, .int .i64 a3_1], .string a4] rfl (by (try simp only [m_1, m_2, m_3]); first | done | rfl | (simp only [m_4, m_5]; rfl)) ?_; (with_reducible refine (impl_FirstMissed.calls kj70 a3_0 a3_1 a4 t548 t549 _ (strings_Index.gl_below HG.out (bB HB)) A147.out).mono ?_); rintro e w166 ⟨rfl, hb⟩; refine ⟨_, rfl, ?_⟩; replace BK497 := bbx hb BK497; replace BK498 := bbx hb BK498; replace BK499 := bbx hb BK499; replace BK500 := bbx hb BK500; replace HB := bsx hb HB; skip; (try clear hb); (try clear hb2); (try clear hk); (try clear hi); have hcz167_0 := cz0 BK499; have hcz167_1 := cz1 BK499; have hfz167_0 := blk_frozen BK499.out 0; have hfz167_1 := blk_frozen BK499.out 1) | ((with_reducible refine gate_callee (f := 25) rfl ?_); refine goesL_ (some 396) rfl rfl Tryz.func25 (by kernel_rfl) rfl #[.agg #[.int .i64 a3_0, .int .i64 a3_1], .string a4] rfl (by (try simp only [m_1, m_2, m_3]); first | done | rfl | (simp only [m_4, m_5]; rfl)) ?_; (with_reducible refine (spec_FirstMissed.calls kj70 a3_0 a3_1 a4 t550 t551 _ A148.out).mono ?_); rintro e w168 ⟨rfl, hb⟩; refine ⟨_, rfl, ?_⟩; replace BK497 := bbx hb BK497; replace BK498 := bbx hb BK498; replace BK499 := bbx hb BK499; replace BK500 := bbx hb BK500; replace HB := bsx hb HB; skip; (try clear hb); (try clear hb2); (try clear hk); (try clear hi); have hnb169 := eq_false NB500_497.out; have hnc169 := eq_false NB497_500.out; have hcz170_0 := cz0 BK500; have hcz170_1 := cz1 BK500; have hfz170_0 := blk_frozen BK500.out 0; have hfz170_1 := blk_frozen BK500.out 1) | ((with_reducible refine gate_callee (f := 26) rfl ?_); refine goesL_ (some 403) rfl rfl Tryz.func26 (by kernel_rfl) rfl #[.agg #[.int .i64 a5_0, .int .i64 a5_1], .string a6, .string a7] rfl (by (try simp only [m_1, m_2, m_3]); first | done | rfl | (simp only [m_4, m_5]; rfl)) ?_; (with_reducible refine (impl_StepsToOpen.calls kj70 a5_0 a5_1 a6 a7 t552 t553 _ (strings_Index.gl_below HG.out (bB HB)) A149.out).mono ?_); rintro e w171 ⟨rfl, hb⟩; refine ⟨_, rfl, ?_⟩; replace BK497 := bbx hb BK497; replace BK498 := bbx hb BK498; replace BK499 := bbx hb BK499; replace BK500 := bbx hb BK500; replace HB := bsx hb HB; skip; (try clear hb); (try clear hb2); (try clear hk); (try clear hi); have hcz172_0 := cz0 BK500; have hcz172_1 := cz1 BK500; have hfz172_0 := blk_frozen BK500.out 0; have hfz172_1 := blk_frozen BK500.out 1) | ((with_reducible refine gate_callee (f := 27) rfl ?_); refine goesL_ (some 410) rfl rfl Tryz.func27 (by kernel_rfl) rfl #[.agg #[.int .i64 a5_0, .int .i64 a5_1], .string a6, .string a7] rfl (by (try simp only [m_1, m_2, m_3]); first | done | rfl | (simp only [m_4, m_5]; rfl)) ?_; (with_reducible refine (spec_StepsToOpen.calls kj70 a5_0 a5_1 a6 a7 t554 t555 _ A150.out).mono ?_); rintro e w173 ⟨rfl, hb⟩; refine ⟨_, rfl, ?_⟩; replace BK497 := bbx hb BK497; replace BK498 := bbx hb BK498; replace BK499 := bbx hb BK499; replace BK500 := bbx hb BK500; replace HB := bsx hb HB; skip; (try clear hb); (try clear hb2); (try clear hk); (try clear hi)))
  (try simp only [Act.put, s_1, s_2, s_3])
  go_cut [457] from 1 to 0 (fun v457 wc => ∃ (kq : Nat) (x457_150 : Bool), v457 = .bool x457_150 ∧ Aside0 (laws_FnRingsOpenOfAll.j6 kq a4 a6 a7 t544 t545 t548 t549 t552 t553 x457_150 a3_0 a3_1 a5_0 a5_1 = some r) ∧ Aside0 (kq ≤ kj70) ∧ Aside0 (wc.heap[gb497]? = some (.cells #[.int .i64 a0_0, .int .i64 a0_1] 23 (0, 0))) ∧ Aside0 (wc.heap[gb498]? = some (.cells #[.int .i64 a1_0, .int .i64 a1_1] 23 (0, 0))) ∧ Aside0 (wc.heap[gb499]? = some (.cells #[.int .i64 a3_0, .int .i64 a3_1] 23 (0, 0))) ∧ Aside0 (wc.heap[gb500]? = some (.cells #[.int .i64 a5_0, .int .i64 a5_1] 23 (0, 0))) ∧ Aside0 (Below w.heap.size w wc))
  case first => as_aux_lemma =>
    have H := HC151.out
    clear HC151
    by_cases c174 : (t541 != t543) = true
    · rw [if_pos c174] at H
      have c174b0 : (t541 != t543) = true := c174
      (try (have c174b1 : decide (t541 = t543) = false := by simpa using c174))
      (try (have c174b2 : (t541 == t543) = false := by simpa using c174))
      (try (have c174b3 : ¬ (t541 = t543) := by simpa using c174))
      clear c174
      (first | rw [c174b0] | (simp only [i64_w, i32_w]; rw [c174b0]) | skip)
      rw [HRT.out] at H
      exact absurd H (by generalize kj70 = q_; cases q_ <;> simp [laws_FnRingsOpenOfAll.j6])
    rw [if_neg c174] at H
    have c174b0 : (t541 != t543) = false := by simpa using c174
    (try (have c174b1 : decide (t541 = t543) = true := by simpa using c174))
    (try (have c174b2 : (t541 == t543) = true := by simpa using c174))
    clear c174
    (first | rw [c174b0] | (simp only [i64_w, i32_w]; rw [c174b0]) | skip)
    by_cases c175 : t540 = t542
    rotate_left
    · rw [if_neg c175] at H
      have c175b0 : (t540 == t542) = false := beq_eq_false_iff_ne.mpr c175
      have c175b1 : (t540 != t542) = true := bne_iff_ne.mpr c175
      rw [HRT.out] at H
      exact absurd H (by generalize kj70 = q_; cases q_ <;> simp [laws_FnRingsOpenOfAll.j6])
    rw [if_pos c175] at H
    have c175b0 : (t540 == t542) = true := beq_iff_eq.mpr c175
    have c175b1 : (t540 != t542) = false := bne_eq_false_iff_eq.mpr c175
    clear c175
    by_cases c176 : (t545 != t547) = true
    · rw [if_pos c176] at H
      have c176b0 : (t545 != t547) = true := c176
      (try (have c176b1 : decide (t545 = t547) = false := by simpa using c176))
      (try (have c176b2 : (t545 == t547) = false := by simpa using c176))
      (try (have c176b3 : ¬ (t545 = t547) := by simpa using c176))
      clear c176
      rw [HRT.out] at H
      exact absurd H (by generalize kj70 = q_; cases q_ <;> simp [laws_FnRingsOpenOfAll.j6])
    rw [if_neg c176] at H
    have c176b0 : (t545 != t547) = false := by simpa using c176
    (try (have c176b1 : decide (t545 = t547) = true := by simpa using c176))
    (try (have c176b2 : (t545 == t547) = true := by simpa using c176))
    clear c176
    by_cases c177 : t544 = t546
    rotate_left
    · rw [if_neg c177] at H
      have c177b0 : (t544 == t546) = false := beq_eq_false_iff_ne.mpr c177
      have c177b1 : (t544 != t546) = true := bne_iff_ne.mpr c177
      rw [HRT.out] at H
      exact absurd H (by generalize kj70 = q_; cases q_ <;> simp [laws_FnRingsOpenOfAll.j6])
    rw [if_pos c177] at H
    have c177b0 : (t544 == t546) = true := beq_iff_eq.mpr c177
    have c177b1 : (t544 != t546) = false := bne_eq_false_iff_eq.mpr c177
    clear c177
    by_cases c178 : (t549 != t551) = true
    · rw [if_pos c178] at H
      have c178b0 : (t549 != t551) = true := c178
      (try (have c178b1 : decide (t549 = t551) = false := by simpa using c178))
      (try (have c178b2 : (t549 == t551) = false := by simpa using c178))
      (try (have c178b3 : ¬ (t549 = t551) := by simpa using c178))
      clear c178
      rw [HRT.out] at H
      exact absurd H (by generalize kj70 = q_; cases q_ <;> simp [laws_FnRingsOpenOfAll.j6])
    rw [if_neg c178] at H
    have c178b0 : (t549 != t551) = false := by simpa using c178
    (try (have c178b1 : decide (t549 = t551) = true := by simpa using c178))
    (try (have c178b2 : (t549 == t551) = true := by simpa using c178))
    clear c178
    by_cases c179 : t548.toList = t550.toList
    rotate_left
    · rw [if_neg c179] at H
      have c179b0 : (t548.toList == t550.toList) = false := beq_eq_false_iff_ne.mpr c179
      have c179b1 : (t548.toList != t550.toList) = true := bne_iff_ne.mpr c179
      rw [HRT.out] at H
      exact absurd H (by generalize kj70 = q_; cases q_ <;> simp [laws_FnRingsOpenOfAll.j6])
    rw [if_pos c179] at H
    have c179b0 : (t548.toList == t550.toList) = true := beq_iff_eq.mpr c179
    have c179b1 : (t548.toList != t550.toList) = false := bne_eq_false_iff_eq.mpr c179
    clear c179
    by_cases c180 : (t553 != t555) = true
    · rw [if_pos c180] at H
      have c180b0 : (t553 != t555) = true := c180
      (try (have c180b1 : decide (t553 = t555) = false := by simpa using c180))
      (try (have c180b2 : (t553 == t555) = false := by simpa using c180))
      (try (have c180b3 : ¬ (t553 = t555) := by simpa using c180))
      clear c180
      rw [HRT.out] at H
      exact absurd H (by generalize kj70 = q_; cases q_ <;> simp [laws_FnRingsOpenOfAll.j6])
    rw [if_neg c180] at H
    have c180b0 : (t553 != t555) = false := by simpa using c180
    (try (have c180b1 : decide (t553 = t555) = true := by simpa using c180))
    (try (have c180b2 : (t553 == t555) = true := by simpa using c180))
    clear c180
    by_cases c181 : t552 = t554
    rotate_left
    · rw [if_neg c181] at H
      have c181b0 : (t552 == t554) = false := beq_eq_false_iff_ne.mpr c181
      have c181b1 : (t552 != t554) = true := bne_iff_ne.mpr c181
      rw [HRT.out] at H
      exact absurd H (by generalize kj70 = q_; cases q_ <;> simp [laws_FnRingsOpenOfAll.j6])
    rw [if_pos c181] at H
    have c181b0 : (t552 == t554) = true := beq_iff_eq.mpr c181
    have c181b1 : (t552 != t554) = false := bne_eq_false_iff_eq.mpr c181
    clear c181
    by_cases c182 : t549 = true
    · subst c182
      rw [if_pos rfl] at H
      have H' := Aside0.mk H
      clear H
      go_wp2
      go_meet
      case rel => refine ⟨_, (!t545), (by first | rfl | (simp; done) | (simp [*]; done)), H', ⟨by have := HJ8.out; have := HJ26.out; have := HJ70.out; first | omega | exact Nat.le_refl _⟩, ⟨?_⟩, ⟨?_⟩, ⟨?_⟩, ⟨?_⟩, ⟨bB HB⟩⟩ <;> (with_reducible repeat (first | refine g_d ?_ _ | refine g_e ?_ | refine g_a ?_ _)) <;> first | exact BK497.out | exact BK498.out | exact BK499.out | exact BK500.out
    replace c182 := Bool.eq_false_iff.mpr c182
    subst c182
    rw [if_neg (show ¬ (false = true) by decide)] at H
    have H' := Aside0.mk H
    clear H
    go_wp2
    go_meet
    case rel => refine ⟨_, (false), (by first | rfl | (simp; done) | (simp [*]; done)), H', ⟨by have := HJ8.out; have := HJ26.out; have := HJ70.out; first | omega | exact Nat.le_refl _⟩, ⟨?_⟩, ⟨?_⟩, ⟨?_⟩, ⟨?_⟩, ⟨bB HB⟩⟩ <;> (with_reducible repeat (first | refine g_d ?_ _ | refine g_e ?_ | refine g_a ?_ _)) <;> first | exact BK497.out | exact BK498.out | exact BK499.out | exact BK500.out
  clear HC151
  try clear hcz155_0
  try clear hcz155_1
  try clear hcz157_0
  try clear hcz157_1
  try clear hcz161_0
  try clear hcz161_1
  try clear hcz163_0
  try clear hcz163_1
  try clear hcz165_0
  try clear hcz165_1
  try clear hcz167_0
  try clear hcz167_1
  try clear hcz170_0
  try clear hcz170_1
  try clear hcz172_0
  try clear hcz172_1
  try clear hfz155_0
  try clear hfz155_1
  try clear hfz157_0
  try clear hfz157_1
  try clear hfz161_0
  try clear hfz161_1
  try clear hfz163_0
  try clear hfz163_1
  try clear hfz165_0
  try clear hfz165_1
  try clear hfz167_0
  try clear hfz167_1
  try clear hfz170_0
  try clear hfz170_1
  try clear hfz172_0
  try clear hfz172_1
  obtain ⟨kq, x457_150, rfl, HA, HJ150, BK497, BK498, BK499, BK500, HB⟩ := hcut
  rcases kq with _ | kj150
  · exact absurd HA.out (by simp [laws_FnRingsOpenOfAll.j6])
  have H := HA.out
  clear HA
  simp only [laws_FnRingsOpenOfAll.j6] at H
  by_cases c183 : x457_150 = true
  · subst c183
    rw [if_pos rfl] at H
    rw [HRT.out] at H
    exact absurd H (by simp)
  replace c183 := Bool.eq_false_iff.mpr c183
  subst c183
  rw [if_neg (show ¬ (false = true) by decide)] at H
  have HC184 := Aside0.mk H
  clear H
  go_upto_if 458 with (fail)
  go_cut [] from 1 to 0 (fun wc => ∃ (kq : Nat), Aside0 (laws_FnRingsOpenOfAll.j7 kq a4 a6 a7 t548 t549 t552 t553 a3_0 a3_1 a5_0 a5_1 = some r) ∧ Aside0 (kq ≤ kj150) ∧ Aside0 (wc.heap[gb497]? = some (.cells #[.int .i64 a0_0, .int .i64 a0_1] 23 (0, 0))) ∧ Aside0 (wc.heap[gb498]? = some (.cells #[.int .i64 a1_0, .int .i64 a1_1] 23 (0, 0))) ∧ Aside0 (wc.heap[gb499]? = some (.cells #[.int .i64 a3_0, .int .i64 a3_1] 23 (0, 0))) ∧ Aside0 (wc.heap[gb500]? = some (.cells #[.int .i64 a5_0, .int .i64 a5_1] 23 (0, 0))) ∧ Aside0 (Below w.heap.size w wc))
  case first => as_aux_lemma =>
    have H := HC184.out
    clear HC184
    by_cases c185 : t545 = true
    rotate_left
    · replace c185 := Bool.eq_false_iff.mpr c185
      subst c185
      rw [if_neg (show ¬ (false = true) by decide)] at H
      have H' := Aside0.mk H
      clear H
      go_wp2
      go_meet
      case rel => refine ⟨_, H', ⟨by have := HJ8.out; have := HJ26.out; have := HJ70.out; have := HJ150.out; first | omega | exact Nat.le_refl _⟩, ⟨?_⟩, ⟨?_⟩, ⟨?_⟩, ⟨?_⟩, ⟨bB HB⟩⟩ <;> (with_reducible repeat (first | refine g_d ?_ _ | refine g_e ?_ | refine g_a ?_ _)) <;> first | exact BK497.out | exact BK498.out | exact BK499.out | exact BK500.out
    subst c185
    rw [if_pos rfl] at H
    replace H := Option.bind_eq_some_iff.mp H
    obtain ⟨⟨t556, t557⟩, A1860, H⟩ := H
    try dsimp only at H
    have A186 := Aside0.mk A1860
    clear A1860
    by_cases c187 : t557 = true
    rotate_left
    · replace c187 := Bool.eq_false_iff.mpr c187
      subst c187
      rw [if_neg (show ¬ (false = true) by decide)] at H
      rw [HRT.out] at H
      exact absurd H (by simp)
    subst c187
    rw [if_pos rfl] at H
    by_cases c188 : t544 < 0
    · rw [if_pos c188] at H
      have c188b0 : decide (t544 < 0) = true := decide_eq_true c188
      clear c188
      (first | rw [c188b0] | (simp only [i64_w, i32_w]; rw [c188b0]) | skip)
      rw [HRT.out] at H
      exact absurd H (by simp)
    rw [if_neg c188] at H
    have c188b0 : decide (t544 < 0) = false := decide_eq_false c188
    clear c188
    (first | rw [c188b0] | (simp only [i64_w, i32_w]; rw [c188b0]) | skip)
    by_cases c189 : t544 > t556
    · rw [if_pos c189] at H
      have c189b0 : decide (t556 < t544) = true := decide_eq_true c189
      clear c189
      rw [HRT.out] at H
      exact absurd H (by simp)
    rw [if_neg c189] at H
    have c189b0 : decide (t556 < t544) = false := decide_eq_false c189
    clear c189
    by_cases c190 : ((t544 == t556) == t549) = true
    · rw [if_pos c190] at H
      have c190b0 : ((t544 == t556) == t549) = true := c190
      (try (have c190b1 : decide ((t544 == t556) = t549) = true := by simpa using c190))
      (try (have c190b2 : ((t544 == t556) == t549) = true := by simpa using c190))
      clear c190
      rw [HRT.out] at H
      exact absurd H (by simp)
    rw [if_neg c190] at H
    have c190b0 : ((t544 == t556) == t549) = false := by simpa using c190
    (try (have c190b1 : decide ((t544 == t556) = t549) = false := by simpa using c190))
    (try (have c190b2 : ((t544 == t556) == t549) = false := by simpa using c190))
    (try (have c190b3 : ¬ ((t544 == t556) = t549) := by simpa using c190))
    clear c190
    have H' := Aside0.mk H
    clear H
    have hnb191 := eq_false NB499_497.out
    have hnc191 := eq_false NB497_499.out
    have hnb192 := eq_false NB499_498.out
    have hnc192 := eq_false NB498_499.out
    have hnb193 := eq_false NB499_500.out
    have hnc193 := eq_false NB500_499.out
    have hcz194_0 := cz0 BK499
    have hcz194_1 := cz1 BK499
    have hfz194_0 := blk_frozen BK499.out 0
    have hfz194_1 := blk_frozen BK499.out 1
    go_wp2_with (first | ((with_reducible refine gate_callee (f := 17) rfl ?_); refine goesL_ (some 461) rfl rfl Tryz.func17 (by kernel_rfl) rfl #[.agg #[.int .i64 a3_0, .int .i64 a3_1]] rfl (by (try simp only [m_1, m_2, m_3]); first | done | rfl | (simp only [m_4, m_5]; rfl)) ?_; (with_reducible refine (impl_CountCodes.calls kj150 a3_0 a3_1 t556 true _ A186.out).mono ?_); rintro e w195 ⟨rfl, hb⟩; refine ⟨_, rfl, ?_⟩; replace BK497 := bbx hb BK497; replace BK498 := bbx hb BK498; replace BK499 := bbx hb BK499; replace BK500 := bbx hb BK500; replace HB := bsx hb HB; skip; (try clear hb); (try clear hb2); (try clear hk); (try clear hi)))
    go_meet
    case rel => refine ⟨_, H', ⟨by have := HJ8.out; have := HJ26.out; have := HJ70.out; have := HJ150.out; first | omega | exact Nat.le_refl _⟩, ⟨?_⟩, ⟨?_⟩, ⟨?_⟩, ⟨?_⟩, ⟨bB HB⟩⟩ <;> (with_reducible repeat (first | refine g_d ?_ _ | refine g_e ?_ | refine g_a ?_ _)) <;> first | exact BK497.out | exact BK498.out | exact BK499.out | exact BK500.out
  clear HC184
  try clear c183
  obtain ⟨kq, HA, HJ183, BK497, BK498, BK499, BK500, HB⟩ := hcut
  rcases kq with _ | kj183
  · exact absurd HA.out (by simp [laws_FnRingsOpenOfAll.j7])
  have H := HA.out
  clear HA
  simp only [laws_FnRingsOpenOfAll.j7] at H
  have HC196 := Aside0.mk H
  clear H
  go_upto_if 482 with (fail)
  go_cut [] from 1 to 0 (fun wc => ∃ (kq : Nat), Aside0 (laws_FnRingsOpenOfAll.j8 kq a6 a7 t552 t553 a5_0 a5_1 = some r) ∧ Aside0 (kq ≤ kj183) ∧ Aside0 (wc.heap[gb497]? = some (.cells #[.int .i64 a0_0, .int .i64 a0_1] 23 (0, 0))) ∧ Aside0 (wc.heap[gb498]? = some (.cells #[.int .i64 a1_0, .int .i64 a1_1] 23 (0, 0))) ∧ Aside0 (wc.heap[gb499]? = some (.cells #[.int .i64 a3_0, .int .i64 a3_1] 23 (0, 0))) ∧ Aside0 (wc.heap[gb500]? = some (.cells #[.int .i64 a5_0, .int .i64 a5_1] 23 (0, 0))) ∧ Aside0 (Below w.heap.size w wc))
  case first => as_aux_lemma =>
    have H := HC196.out
    clear HC196
    by_cases c197 : t549 = true
    rotate_left
    · replace c197 := Bool.eq_false_iff.mpr c197
      subst c197
      rw [if_neg (show ¬ (false = true) by decide)] at H
      have H' := Aside0.mk H
      clear H
      go_wp2
      go_meet
      case rel => refine ⟨_, H', ⟨by have := HJ8.out; have := HJ26.out; have := HJ70.out; have := HJ150.out; have := HJ183.out; first | omega | exact Nat.le_refl _⟩, ⟨?_⟩, ⟨?_⟩, ⟨?_⟩, ⟨?_⟩, ⟨bB HB⟩⟩ <;> (with_reducible repeat (first | refine g_d ?_ _ | refine g_e ?_ | refine g_a ?_ _)) <;> first | exact BK497.out | exact BK498.out | exact BK499.out | exact BK500.out
    subst c197
    rw [if_pos rfl] at H
    replace H := Option.bind_eq_some_iff.mp H
    obtain ⟨⟨t558, t559⟩, A1980, H⟩ := H
    try dsimp only at H
    have A198 := Aside0.mk A1980
    clear A1980
    by_cases c199 : t559 = true
    · subst c199
      rw [if_pos rfl] at H
      rw [HRT.out] at H
      exact absurd H (by simp)
    replace c199 := Bool.eq_false_iff.mpr c199
    subst c199
    rw [if_neg (show ¬ (false = true) by decide)] at H
    have H' := Aside0.mk H
    clear H
    have hnb200 := eq_false NB499_497.out
    have hnc200 := eq_false NB497_499.out
    have hnb201 := eq_false NB499_498.out
    have hnc201 := eq_false NB498_499.out
    have hnb202 := eq_false NB499_500.out
    have hnc202 := eq_false NB500_499.out
    have hcz203_0 := cz0 BK499
    have hcz203_1 := cz1 BK499
    have hfz203_0 := blk_frozen BK499.out 0
    have hfz203_1 := blk_frozen BK499.out 1
    go_wp2_with (first | ((with_reducible refine gate_callee (f := 26) rfl ?_); refine goesL_ (some 487) rfl rfl Tryz.func26 (by kernel_rfl) rfl #[.agg #[.int .i64 a3_0, .int .i64 a3_1], .string a4, .string t548] rfl (by (try simp only [m_1, m_2, m_3]); first | done | rfl | (simp only [m_4, m_5]; rfl)) ?_; (with_reducible refine (impl_StepsToOpen.calls kj183 a3_0 a3_1 a4 t548 t558 false _ (strings_Index.gl_below HG.out (bB HB)) A198.out).mono ?_); rintro e w204 ⟨rfl, hb⟩; refine ⟨_, rfl, ?_⟩; replace BK497 := bbx hb BK497; replace BK498 := bbx hb BK498; replace BK499 := bbx hb BK499; replace BK500 := bbx hb BK500; replace HB := bsx hb HB; skip; (try clear hb); (try clear hb2); (try clear hk); (try clear hi)))
    go_meet
    case rel => refine ⟨_, H', ⟨by have := HJ8.out; have := HJ26.out; have := HJ70.out; have := HJ150.out; have := HJ183.out; first | omega | exact Nat.le_refl _⟩, ⟨?_⟩, ⟨?_⟩, ⟨?_⟩, ⟨?_⟩, ⟨bB HB⟩⟩ <;> (with_reducible repeat (first | refine g_d ?_ _ | refine g_e ?_ | refine g_a ?_ _)) <;> first | exact BK497.out | exact BK498.out | exact BK499.out | exact BK500.out
  clear HC196
  obtain ⟨kq, HA, HJ195, BK497, BK498, BK499, BK500, HB⟩ := hcut
  rcases kq with _ | kj195
  · exact absurd HA.out (by simp [laws_FnRingsOpenOfAll.j8])
  have H := HA.out
  clear HA
  simp only [laws_FnRingsOpenOfAll.j8] at H
  by_cases c205 : t553 = true
  rotate_left
  · replace c205 := Bool.eq_false_iff.mpr c205
    subst c205
    rw [if_neg (show ¬ (false = true) by decide)] at H
    obtain rfl := Option.some.inj H
    go_wp2
    go_ret
    exact ⟨by first | rfl | (simp [errW_none, errW_some] <;> rfl) | (simp [*, errW_none, errW_some] <;> rfl), bB HB⟩

  subst c205
  rw [if_pos rfl] at H
  by_cases c206 : 0 ≤ t552
  rotate_left
  · rw [if_neg c206] at H
    exact absurd H (by simp)
  rw [if_pos c206] at H
  have c206b0 := eq_true c206
  have c206b1 : decide (0 ≤ t552) = true := decide_eq_true c206
  clear c206
  by_cases c207 : t552 ≤ (a6.size : Int)
  rotate_left
  · rw [if_neg c207] at H
    exact absurd H (by simp)
  rw [if_pos c207] at H
  have c207b0 := eq_true c207
  have c207b1 : decide (t552 ≤ (a6.size : Int)) = true := decide_eq_true c207
  clear c207
  replace H := Option.bind_eq_some_iff.mp H
  obtain ⟨⟨t560, t561⟩, A2080, H⟩ := H
  try dsimp only at H
  have A208 := Aside0.mk A2080
  clear A2080
  obtain ⟨ji209, hji209⟩ : ∃ j_ : Int, (wrap64 (t552 - 1)) = j_ := ⟨_, rfl⟩
  replace H : (if 0 ≤ (ji209) then (if (ji209) ≤ (a6.size : Int) then ((impl_CountOpened.f kj195 a5_0 a5_1 (a6.extract 0 ((ji209) : Int).toNat)).bind fun bt562 => (if t552 < a5_0 then (some false) else (if t552 > (a6.size : Int) then (some false) else (if 0 ≤ (wrap64 (t552 - a5_0)) then (if (wrap64 (t552 - a5_0)) ≤ t552 then (if (a6.extract ((wrap64 (t552 - a5_0)) : Int).toNat (t552 : Int).toNat).toList = a7.toList then (if t561 = true then (if bt562.2 = true then (if t560 = (wrap64 (bt562.1 + 1)) then (some true) else (some false)) else (some false)) else (some false)) else (some false)) else (none)) else (none))))) else (none)) else (none)) = some r := by first | (rw [hji209] at H; exact H) | (simp only [hji209] at H ⊢; exact H)
  (try rw [hji209] at A208)
  have hji209w : (IntKind.i64.wrap (t552 - 1)) = ji209 := (i64_w _).trans hji209
  by_cases c210 : 0 ≤ (ji209)
  rotate_left
  · rw [if_neg c210] at H
    exact absurd H (by simp)
  rw [if_pos c210] at H
  have c210b0 := eq_true c210
  have c210b1 : decide (0 ≤ (ji209)) = true := decide_eq_true c210
  clear c210
  by_cases c211 : (ji209) ≤ (a6.size : Int)
  rotate_left
  · rw [if_neg c211] at H
    exact absurd H (by simp)
  rw [if_pos c211] at H
  have c211b0 := eq_true c211
  have c211b1 : decide ((ji209) ≤ (a6.size : Int)) = true := decide_eq_true c211
  clear c211
  replace H := Option.bind_eq_some_iff.mp H
  obtain ⟨⟨t562, t563⟩, A2120, H⟩ := H
  try dsimp only at H
  have A212 := Aside0.mk A2120
  clear A2120
  by_cases c213 : t552 < a5_0
  · rw [if_pos c213] at H
    have c213b0 : decide (t552 < a5_0) = true := decide_eq_true c213
    clear c213
    rw [HRT.out] at H
    exact absurd H (by simp)
  rw [if_neg c213] at H
  have c213b0 : decide (t552 < a5_0) = false := decide_eq_false c213
  clear c213
  by_cases c214 : t552 > (a6.size : Int)
  · rw [if_pos c214] at H
    have c214b0 : decide ((a6.size : Int) < t552) = true := decide_eq_true c214
    clear c214
    rw [HRT.out] at H
    exact absurd H (by simp)
  rw [if_neg c214] at H
  have c214b0 : decide ((a6.size : Int) < t552) = false := decide_eq_false c214
  clear c214
  obtain ⟨ji215, hji215⟩ : ∃ j_ : Int, (wrap64 (t552 - a5_0)) = j_ := ⟨_, rfl⟩
  replace H : (if 0 ≤ (ji215) then (if (ji215) ≤ t552 then (if (a6.extract ((ji215) : Int).toNat (t552 : Int).toNat).toList = a7.toList then (if t561 = true then (if t563 = true then (if t560 = (wrap64 (t562 + 1)) then (some true) else (some false)) else (some false)) else (some false)) else (some false)) else (none)) else (none)) = some r := by first | (rw [hji215] at H; exact H) | (simp only [hji215] at H ⊢; exact H)
  (try rw [hji215] at A208)
  (try rw [hji215] at A212)
  have hji215w : (IntKind.i64.wrap (t552 - a5_0)) = ji215 := (i64_w _).trans hji215
  by_cases c216 : 0 ≤ (ji215)
  rotate_left
  · rw [if_neg c216] at H
    exact absurd H (by simp)
  rw [if_pos c216] at H
  have c216b0 := eq_true c216
  have c216b1 : decide (0 ≤ (ji215)) = true := decide_eq_true c216
  clear c216
  by_cases c217 : (ji215) ≤ t552
  rotate_left
  · rw [if_neg c217] at H
    exact absurd H (by simp)
  rw [if_pos c217] at H
  have c217b0 := eq_true c217
  have c217b1 : decide ((ji215) ≤ t552) = true := decide_eq_true c217
  clear c217
  have c218b0 := eq_true (of_decide_eq_true (by first | (with_reducible assumption) | assumption) : t552 ≤ (a6.size : Int))
  by_cases c219 : (a6.extract ((ji215) : Int).toNat (t552 : Int).toNat).toList = a7.toList
  rotate_left
  · rw [if_neg c219] at H
    have c219b0 : ((a6.extract ((ji215) : Int).toNat (t552 : Int).toNat).toList == a7.toList) = false := beq_eq_false_iff_ne.mpr c219
    have c219b1 : ((a6.extract ((ji215) : Int).toNat (t552 : Int).toNat).toList != a7.toList) = true := bne_iff_ne.mpr c219
    rw [HRT.out] at H
    exact absurd H (by simp)
  rw [if_pos c219] at H
  have c219b0 : ((a6.extract ((ji215) : Int).toNat (t552 : Int).toNat).toList == a7.toList) = true := beq_iff_eq.mpr c219
  have c219b1 : ((a6.extract ((ji215) : Int).toNat (t552 : Int).toNat).toList != a7.toList) = false := bne_eq_false_iff_eq.mpr c219
  clear c219
  by_cases c220 : t561 = true
  rotate_left
  · replace c220 := Bool.eq_false_iff.mpr c220
    subst c220
    rw [if_neg (show ¬ (false = true) by decide)] at H
    rw [HRT.out] at H
    exact absurd H (by simp)
  subst c220
  rw [if_pos rfl] at H
  by_cases c221 : t563 = true
  rotate_left
  · replace c221 := Bool.eq_false_iff.mpr c221
    subst c221
    rw [if_neg (show ¬ (false = true) by decide)] at H
    rw [HRT.out] at H
    exact absurd H (by simp)
  subst c221
  rw [if_pos rfl] at H
  by_cases c222 : t560 = (wrap64 (t562 + 1))
  rotate_left
  · rw [if_neg c222] at H
    have c222b0 : (t560 == (wrap64 (t562 + 1))) = false := beq_eq_false_iff_ne.mpr c222
    have c222b1 : (t560 != (wrap64 (t562 + 1))) = true := bne_iff_ne.mpr c222
    rw [HRT.out] at H
    exact absurd H (by simp)
  rw [if_pos c222] at H
  have c222b0 : (t560 == (wrap64 (t562 + 1))) = true := beq_iff_eq.mpr c222
  have c222b1 : (t560 != (wrap64 (t562 + 1))) = false := bne_eq_false_iff_eq.mpr c222
  clear c222
  obtain rfl := Option.some.inj H
  try go_wp2
  have n0_ := Aside0.mk (g_e BK497.out)
  have n1_ := Aside0.mk (g_e BK498.out)
  have n2_ := Aside0.mk (g_e BK499.out)
  have n3_ := Aside0.mk (g_e BK500.out)
  have n4_ := Aside0.mk (b_e HB.out)
  clear BK497
  clear BK498
  clear BK499
  clear BK500
  clear HB
  have BK497 := n0_
  have BK498 := n1_
  have BK499 := n2_
  have BK500 := n3_
  have HB := n4_
  clear n0_ n1_ n2_ n3_ n4_
  refine start_ (n := 10) (S := fun w' => w'.cell? ⟨gb500, 0, none⟩ = some (.int .i64 a5_0) ∧ w'.cell? ⟨gb500, 1, none⟩ = some (.int .i64 a5_1)) (ds := []) (bs_ 10 0) (by kernel_rfl) rfl rfl ⟨(blk_cell BK500.out 0).trans rfl, (blk_cell BK500.out 1).trans rfl⟩ (fun hHeld => ?_); refine with_tabW laws_FnRingsOpenOfAll.tab64 laws_FnRingsOpenOfAll.bits64 (fun HT_ HW_ => ?_)
  generalize wc.drew = w223 at BK497 BK498 BK499 BK500 HB hHeld ⊢
  refine pua 1 494 (bs_ 10 2) HT_ ?_
  refine pua 2 495 (bs_ 10 6) HT_ ?_
  refine pua 3 496 (bs_ 10 14) HT_ ?_
  refine tk_ 0 493 (bs_ 10 15) rfl rfl HT_ HW_ (by kernel_rfl) (fun _ _ _ h => h) (by rfl) hHeld (by rintro w' ⟨s0, s1⟩; go_simp; with_reducible rfl) (by simp only [Act.put, s_1, s_2, s_3, i64_w, i32_w]; rfl) ?_
  refine one_ (i := 4) (N := some 497) (bs_ 10 31) rfl rfl (one_of HT_.out (by kernel_rfl)) (by decide) (fun K hK => ?_)
  refine goes_ Tryz.func18 (by kernel_rfl) rfl #[.agg #[.int .i64 a5_0, .int .i64 a5_1], .string (a6.extract 0 (t552 : Int).toNat)] (by rfl) rfl rfl (by (try simp only [m_1, m_2, m_3]); first | done | rfl | (simp only [m_4, m_5]; rfl)) ?_
  with_reducible refine (impl_CountOpened.calls kj195 a5_0 a5_1 (a6.extract 0 (t552 : Int).toNat) t560 true _ A208.out).mono ?_
  rintro e w224 ⟨rfl, hb⟩
  refine ⟨_, rfl, ?_⟩
  have n0_ := bbx hb BK497
  have n1_ := bbx hb BK498
  have n2_ := bbx hb BK499
  have n3_ := bbx hb BK500
  have n4_ := bsx hb HB
  clear BK497
  clear BK498
  clear BK499
  clear BK500
  clear HB
  have BK497 := n0_
  have BK498 := n1_
  have BK499 := n2_
  have BK500 := n3_
  have HB := n4_
  clear n0_ n1_ n2_ n3_ n4_
  (try clear hb)
  (try clear hb2)
  (try clear hk)
  (try clear hi)
  refine hK.out _ _ ⟨(blk_cell BK500.out 0).trans rfl, (blk_cell BK500.out 1).trans rfl⟩ (fun hHeld => ?_)
  clear hK K
  refine norm_ (a' := ?_) ?_ ?_
  rotate_left
  · show Act.put _ (some 497) _ = _
    simp only [Act.put, s_1, s_2, s_3, i64_w, i32_w]
    rfl
  refine pua 5 492 (bs_ 10 63) HT_ ?_
  refine pua 6 498 (bs_ 10 127) HT_ ?_
  refine pua 7 499 (bs_ 10 255) HT_ ?_
  refine pua 8 75 (bs_ 10 511) HT_ ?_
  refine pua 9 76 (bs_ 10 1023) HT_ ?_
  refine done_ (done_of HT_.out (by kernel_rfl)) ?_
  try go_wp2
  have n0_ := Aside0.mk (g_e BK497.out)
  have n1_ := Aside0.mk (g_e BK498.out)
  have n2_ := Aside0.mk (g_e BK499.out)
  have n3_ := Aside0.mk (g_e BK500.out)
  have n4_ := Aside0.mk (b_e HB.out)
  clear BK497
  clear BK498
  clear BK499
  clear BK500
  clear HB
  have BK497 := n0_
  have BK498 := n1_
  have BK499 := n2_
  have BK500 := n3_
  have HB := n4_
  clear n0_ n1_ n2_ n3_ n4_
  refine start_ (n := 11) (S := fun w' => w'.cell? ⟨gb500, 0, none⟩ = some (.int .i64 a5_0) ∧ w'.cell? ⟨gb500, 1, none⟩ = some (.int .i64 a5_1)) (ds := []) (bs_ 11 0) (by kernel_rfl) rfl rfl ⟨(blk_cell BK500.out 0).trans rfl, (blk_cell BK500.out 1).trans rfl⟩ (fun hHeld => ?_); refine with_tabW laws_FnRingsOpenOfAll.tab65 laws_FnRingsOpenOfAll.bits65 (fun HT_ HW_ => ?_)
  generalize w224.drew = w225 at BK497 BK498 BK499 BK500 HB hHeld ⊢
  refine pua 1 502 (bs_ 11 2) HT_ ?_
  refine pua 2 503 (bs_ 11 6) HT_ ?_
  refine pua 3 504 (bs_ 11 14) HT_ ?_
  refine pua 4 505 (bs_ 11 30) HT_ ?_
  refine tk_ 0 501 (bs_ 11 31) rfl rfl HT_ HW_ (by kernel_rfl) (fun _ _ _ h => h) (by rfl) hHeld (by rintro w' ⟨s0, s1⟩; go_simp; with_reducible rfl) (by simp only [Act.put, s_1, s_2, s_3, i64_w, i32_w]; rfl) ?_
  refine one_ (i := 5) (N := some 506) (bs_ 11 63) rfl rfl (one_of HT_.out (by kernel_rfl)) (by decide) (fun K hK => ?_)
  refine goes_ Tryz.func18 (by kernel_rfl) rfl #[.agg #[.int .i64 a5_0, .int .i64 a5_1], .string (a6.extract 0 ((ji209) : Int).toNat)] (by rfl) rfl rfl (by (try simp only [m_1, m_2, m_3]); first | done | (simp only [hji209]; rfl) | rfl | (simp only [m_4, m_5]; rfl)) ?_
  with_reducible refine (impl_CountOpened.calls kj195 a5_0 a5_1 (a6.extract 0 ((ji209) : Int).toNat) t562 true _ A212.out).mono ?_
  rintro e w226 ⟨rfl, hb⟩
  refine ⟨_, rfl, ?_⟩
  have n0_ := bbx hb BK497
  have n1_ := bbx hb BK498
  have n2_ := bbx hb BK499
  have n3_ := bbx hb BK500
  have n4_ := bsx hb HB
  clear BK497
  clear BK498
  clear BK499
  clear BK500
  clear HB
  have BK497 := n0_
  have BK498 := n1_
  have BK499 := n2_
  have BK500 := n3_
  have HB := n4_
  clear n0_ n1_ n2_ n3_ n4_
  (try clear hb)
  (try clear hb2)
  (try clear hk)
  (try clear hi)
  refine hK.out _ _ ⟨(blk_cell BK500.out 0).trans rfl, (blk_cell BK500.out 1).trans rfl⟩ (fun hHeld => ?_)
  clear hK K
  refine norm_ (a' := ?_) ?_ ?_
  rotate_left
  · show Act.put _ (some 506) _ = _
    simp only [Act.put, s_1, s_2, s_3, i64_w, i32_w]
    rfl
  refine pua 6 500 (bs_ 11 127) HT_ ?_
  refine pua 7 507 (bs_ 11 255) HT_ ?_
  refine pua 8 508 (bs_ 11 511) HT_ ?_
  refine pua 9 77 (bs_ 11 1023) HT_ ?_
  refine pua 10 78 (bs_ 11 2047) HT_ ?_
  refine done_ (done_of HT_.out (by kernel_rfl)) ?_
  have hnb227 := eq_false NB500_497.out
  have hnc227 := eq_false NB497_500.out
  have hnb228 := eq_false NB500_498.out
  have hnc228 := eq_false NB498_500.out
  have hnb229 := eq_false NB500_499.out
  have hnc229 := eq_false NB499_500.out
  have hcz230_0 := cz0 BK500
  have hcz230_1 := cz1 BK500
  have hfz230_0 := blk_frozen BK500.out 0
  have hfz230_1 := blk_frozen BK500.out 1
  try go_wp2
  go_ret
  exact ⟨by first | rfl | (simp [errW_none, errW_some] <;> rfl) | (simp only [← hji209, ← hji215]; first | rfl | (simp [errW_none, errW_some] <;> rfl)) | (simp [*, errW_none, errW_some] <;> rfl), bB HB⟩
end Go.Proofs.YtmpcefcgboljkaaGreat.P
