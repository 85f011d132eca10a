-- Texts of this session's own program (wip/dr.py), which runs the kit's printer.
import Derived.Test.YtmpcefcgboljkaaGreatPx0
import Derived.Test.YtmpcefcgboljkaaGreatPx1
import Derived.Test.YtmpcefcgboljkaaGreatPx22
import Derived.Test.YtmpcefcgboljkaaGreatPx27
import Derived.Test.YtmpcefcgboljkaaGreatPx66
import Derived.Test.YtmpcefcgboljkaaGreatPx84
import Derived.Test.YtmpcefcgboljkaaGreatPx103
import Derived.Test.YtmpcefcgboljkaaGreatPx136
namespace Go.Proofs.YtmpcefcgboljkaaGreat.P
open Go.RowKit Go.Proofs.YtmpcefcgboljkaaGreatW.PrintWords Go.Proofs.YtmpcefcgboljkaaGreatW.PrintLast Go.Proofs.YtmpcefcgboljkaaGreatW.PrintMore
attribute [local go_sem] q_leq q_gtr q_geq max2_int min2_int max_two min_two max_three min_three max_four min_four   -- for this text's walks alone
set_option linter.unusedVariables false
set_option linter.unusedSimpArgs false

/-! ### laws_FnRingsOpen: function 5 -/
mutual
def laws_FnRingsOpen.j0 : Nat → List Int → ByteArray → Bool → ByteArray → List ByteArray → ByteArray → Bool → Int → Int → Option (Bool)
  | 0, _, _, _, _, _, _, _, _, _ => none
  | k + 1, x1, x6, x7, x10, x14, x18, x200, x958000, x958001 => if x200 = true then (some false) else (if x7 = true then ((impl_CountCodes.f k x958000 x958001).bind fun bt983 => ((impl_CountOpened.f k x958000 x958001 x18).bind fun bt985 => ((impl_FirstMissed.f k x958000 x958001 x18).bind fun bt987 => ((impl_IsRing.f k x958000 x958001 x6).bind fun bt989 => ((impl_IsRing.f k x958000 x958001 x10).bind fun bt991 => (laws_FnRingsOpen.l0 k x1 x6 x10 x14 x18 bt983.1 bt983.2 bt985.1 bt985.2 bt987.2 bt989.1 bt989.2 bt991.1 bt991.2 (⟨#[]⟩ : ByteArray) x14 (x14.length : Int) 0 x958000 x958001)))))) else (laws_FnRingsOpen.j4 k x1))
def laws_FnRingsOpen.j4 : Nat → List Int → Option (Bool)
  | 0, _ => none
  | k + 1, x1 => (spec_DrawCountLeastWords.f x1).bind fun bt997 => ((impl_CountLeastWords.f k bt997.1 bt997.2.1 bt997.2.2).bind fun bt1001 => ((spec_CountLeastWords.f k bt997.1 bt997.2.1 bt997.2.2).bind fun bt1003 => ((spec_DrawCountOpened.f k x1).bind fun bt1005 => ((impl_CountOpened.f k bt1005.1 bt1005.2.1 bt1005.2.2).bind fun bt1009 => ((spec_CountOpened.f k bt1005.1 bt1005.2.1 bt1005.2.2).bind fun bt1011 => ((impl_FirstMissed.f k bt1005.1 bt1005.2.1 bt1005.2.2).bind fun bt1013 => ((spec_FirstMissed.f k bt1005.1 bt1005.2.1 bt1005.2.2).bind fun bt1015 => ((spec_DrawStepsToOpen.f k x1).bind fun bt1017 => ((impl_StepsToOpen.f k bt1017.1 bt1017.2.1 bt1017.2.2.1 bt1017.2.2.2).bind fun bt1022 => ((spec_StepsToOpen.f k bt1017.1 bt1017.2.1 bt1017.2.2.1 bt1017.2.2.2).bind fun bt1024 => (if (bt1001.2 != bt1003.2) = true then (laws_FnRingsOpen.j5 k bt1005.2.2 bt1009.1 bt1009.2 bt1013.1 bt1013.2 bt1017.2.2.1 bt1017.2.2.2 bt1022.1 bt1022.2 true bt1005.1 bt1005.2.1 bt1017.1 bt1017.2.1) else (if bt1001.1 = bt1003.1 then (if (bt1009.2 != bt1011.2) = true then (laws_FnRingsOpen.j5 k bt1005.2.2 bt1009.1 bt1009.2 bt1013.1 bt1013.2 bt1017.2.2.1 bt1017.2.2.2 bt1022.1 bt1022.2 true bt1005.1 bt1005.2.1 bt1017.1 bt1017.2.1) else (if bt1009.1 = bt1011.1 then (if (bt1013.2 != bt1015.2) = true then (laws_FnRingsOpen.j5 k bt1005.2.2 bt1009.1 bt1009.2 bt1013.1 bt1013.2 bt1017.2.2.1 bt1017.2.2.2 bt1022.1 bt1022.2 true bt1005.1 bt1005.2.1 bt1017.1 bt1017.2.1) else (if bt1013.1.toList = bt1015.1.toList then (if (bt1022.2 != bt1024.2) = true then (laws_FnRingsOpen.j5 k bt1005.2.2 bt1009.1 bt1009.2 bt1013.1 bt1013.2 bt1017.2.2.1 bt1017.2.2.2 bt1022.1 bt1022.2 true bt1005.1 bt1005.2.1 bt1017.1 bt1017.2.1) else (if bt1022.1 = bt1024.1 then (if bt1013.2 = true then (laws_FnRingsOpen.j5 k bt1005.2.2 bt1009.1 bt1009.2 bt1013.1 bt1013.2 bt1017.2.2.1 bt1017.2.2.2 bt1022.1 bt1022.2 (!bt1009.2) bt1005.1 bt1005.2.1 bt1017.1 bt1017.2.1) else (laws_FnRingsOpen.j5 k bt1005.2.2 bt1009.1 bt1009.2 bt1013.1 bt1013.2 bt1017.2.2.1 bt1017.2.2.2 bt1022.1 bt1022.2 false bt1005.1 bt1005.2.1 bt1017.1 bt1017.2.1)) else (laws_FnRingsOpen.j5 k bt1005.2.2 bt1009.1 bt1009.2 bt1013.1 bt1013.2 bt1017.2.2.1 bt1017.2.2.2 bt1022.1 bt1022.2 true bt1005.1 bt1005.2.1 bt1017.1 bt1017.2.1))) else (laws_FnRingsOpen.j5 k bt1005.2.2 bt1009.1 bt1009.2 bt1013.1 bt1013.2 bt1017.2.2.1 bt1017.2.2.2 bt1022.1 bt1022.2 true bt1005.1 bt1005.2.1 bt1017.1 bt1017.2.1))) else (laws_FnRingsOpen.j5 k bt1005.2.2 bt1009.1 bt1009.2 bt1013.1 bt1013.2 bt1017.2.2.1 bt1017.2.2.2 bt1022.1 bt1022.2 true bt1005.1 bt1005.2.1 bt1017.1 bt1017.2.1))) else (laws_FnRingsOpen.j5 k bt1005.2.2 bt1009.1 bt1009.2 bt1013.1 bt1013.2 bt1017.2.2.1 bt1017.2.2.2 bt1022.1 bt1022.2 true bt1005.1 bt1005.2.1 bt1017.1 bt1017.2.1)))))))))))))
def laws_FnRingsOpen.j5 : Nat → ByteArray → Int → Bool → ByteArray → Bool → ByteArray → ByteArray → Int → Bool → Bool → Int → Int → Int → Int → Option (Bool)
  | 0, _, _, _, _, _, _, _, _, _, _, _, _, _, _ => none
  | k + 1, x51, x52, x53, x56, x57, x61, x62, x63, x64, x461, x1009000, x1009001, x1022000, x1022001 => if x461 = true then (some false) else (if x53 = true then ((impl_CountCodes.f k x1009000 x1009001).bind fun bt1026 => (if bt1026.2 = true then (if x52 < 0 then (some false) else (if x52 > bt1026.1 then (some false) else (if ((x52 == bt1026.1) == x57) = true then (some false) else (laws_FnRingsOpen.j6 k x51 x56 x57 x61 x62 x63 x64 x1009000 x1009001 x1022000 x1022001)))) else (some false))) else (laws_FnRingsOpen.j6 k x51 x56 x57 x61 x62 x63 x64 x1009000 x1009001 x1022000 x1022001))
def laws_FnRingsOpen.j6 : Nat → ByteArray → ByteArray → Bool → ByteArray → ByteArray → Int → Bool → Int → Int → Int → Int → Option (Bool)
  | 0, _, _, _, _, _, _, _, _, _, _, _ => none
  | k + 1, x51, x56, x57, x61, x62, x63, x64, x1009000, x1009001, x1022000, x1022001 => if x57 = true then ((impl_StepsToOpen.f k x1009000 x1009001 x51 x56).bind fun bt1028 => (if bt1028.2 = true then (some false) else (laws_FnRingsOpen.j7 k x61 x62 x63 x64 x1022000 x1022001))) else (laws_FnRingsOpen.j7 k x61 x62 x63 x64 x1022000 x1022001)
def laws_FnRingsOpen.j7 : Nat → ByteArray → ByteArray → Int → Bool → Int → Int → Option (Bool)
  | 0, _, _, _, _, _, _ => none
  | k + 1, x61, x62, x63, x64, x1022000, x1022001 => if x64 = true then (if 0 ≤ x63 then (if x63 ≤ (x61.size : Int) then ((impl_CountOpened.f k x1022000 x1022001 (x61.extract 0 (x63 : Int).toNat)).bind fun bt1030 => (if 0 ≤ (wrap64 (x63 - 1)) then (if (wrap64 (x63 - 1)) ≤ (x61.size : Int) then ((impl_CountOpened.f k x1022000 x1022001 (x61.extract 0 ((wrap64 (x63 - 1)) : Int).toNat)).bind fun bt1032 => (if x63 < x1022000 then (some false) else (if x63 > (x61.size : Int) then (some false) else (if 0 ≤ (wrap64 (x63 - x1022000)) then (if (wrap64 (x63 - x1022000)) ≤ x63 then (if (x61.extract ((wrap64 (x63 - x1022000)) : Int).toNat (x63 : Int).toNat).toList = x62.toList then (if bt1030.2 = true then (if bt1032.2 = true then (if bt1030.1 = (wrap64 (bt1032.1 + 1)) then (some true) else (some false)) else (some false)) else (some false)) else (some false)) else (none)) else (none))))) else (none)) else (none))) else (none)) else (none)) else (some true)
def laws_FnRingsOpen.l0 : Nat → List Int → ByteArray → ByteArray → List ByteArray → ByteArray → Int → Bool → Int → Bool → Bool → Bool → Bool → Bool → Bool → ByteArray → List ByteArray → Int → Int → Int → Int → Option (Bool)
  | 0, _, _, _, _, _, _, _, _, _, _, _, _, _, _, _, _, _, _, _, _ => none
  | k + 1, x1, x6, x10, x14, x18, x26, x27, x28, x29, x31, x32, x33, x34, x35, x36, x231, x232, x233, x958000, x958001 => if x233 < x232 then (if 0 ≤ x233 then (if x233 < (x231.length : Int) then (if x36.size + (rdOf ByteArray.empty x231 x233).size ≤ 9223372036854775807 then (if ((rdOf ByteArray.empty x231 x233).size : Int) = 0 then (none) else (if (Int.tmod x958000 ((rdOf ByteArray.empty x231 x233).size : Int)) = 0 then (laws_FnRingsOpen.l1 k x1 x6 x10 x14 x18 x26 x27 x28 x29 x31 x32 x33 x34 x35 (x36 ++ (rdOf ByteArray.empty x231 x233)) (rdOf ByteArray.empty x231 x233) 1 x231 x232 x233 x958000 x958001) else (some false))) else (none)) else (none)) else (none)) else (laws_FnRingsOpen.l2 k x1 x6 x10 x14 x18 x26 x27 x28 x29 x31 x32 x33 x34 x35 x36 0 1 x958000 x958001)
def laws_FnRingsOpen.l1 : Nat → List Int → ByteArray → ByteArray → List ByteArray → ByteArray → Int → Bool → Int → Bool → Bool → Bool → Bool → Bool → Bool → ByteArray → ByteArray → Int → List ByteArray → Int → Int → Int → Int → Option (Bool)
  | 0, _, _, _, _, _, _, _, _, _, _, _, _, _, _, _, _, _, _, _, _, _, _ => none
  | k + 1, x1, x6, x10, x14, x18, x26, x27, x28, x29, x31, x32, x33, x34, x35, x36, x38, x39, x231, x232, x233, x958000, x958001 => if x39 < (x38.size : Int) then (if 0 ≤ x39 then (if x39 ≤ (x38.size : Int) then (if (x38.extract (x39 : Int).toNat x38.size).size + (x38.extract 0 (x39 : Int).toNat).size ≤ 9223372036854775807 then (if ((Op.bytesLess x38.toList (((x38.extract (x39 : Int).toNat x38.size) ++ (x38.extract 0 (x39 : Int).toNat)).toList)) = true) then (laws_FnRingsOpen.l1 k x1 x6 x10 x14 x18 x26 x27 x28 x29 x31 x32 x33 x34 x35 x36 x38 (wrap64 (x39 + 1)) x231 x232 x233 x958000 x958001) else (some false)) else (none)) else (none)) else (none)) else (laws_FnRingsOpen.l0 k x1 x6 x10 x14 x18 x26 x27 x28 x29 x31 x32 x33 x34 x35 x36 x231 x232 (wrap64 (x233 + 1)) x958000 x958001)
def laws_FnRingsOpen.l2 : Nat → List Int → ByteArray → ByteArray → List ByteArray → ByteArray → Int → Bool → Int → Bool → Bool → Bool → Bool → Bool → Bool → ByteArray → Int → Int → Int → Int → Option (Bool)
  | 0, _, _, _, _, _, _, _, _, _, _, _, _, _, _, _, _, _, _, _ => none
  | k + 1, x1, x6, x10, x14, x18, x26, x27, x28, x29, x31, x32, x33, x34, x35, x36, x40, x41, x958000, x958001 => if x41 ≤ x958000 then (if x41 = 0 then (none) else (if (Int.tmod x958000 x41) = 0 then ((impl_CountLeastWords.f k x958000 x958001 x41).bind fun bt995 => (if bt995.2 = true then (laws_FnRingsOpen.l2 k x1 x6 x10 x14 x18 x26 x27 x28 x29 x31 x32 x33 x34 x35 x36 (wrap64 (x40 + bt995.1)) (wrap64 (x41 + 1)) x958000 x958001) else (some false))) else (laws_FnRingsOpen.l2 k x1 x6 x10 x14 x18 x26 x27 x28 x29 x31 x32 x33 x34 x35 x36 x40 (wrap64 (x41 + 1)) x958000 x958001))) else (if x27 = true then (if (x6.size : Int) = x26 then (if x36.toList = x6.toList then ((laws_eSorted.f k x14).bind fun t994 => (if t994 = true then (if x40 = (x14.length : Int) then (if (x18.size : Int) = (wrap64 ((wrap64 (x26 + x958000)) - 1)) then (if x29 = true then (if x28 = x26 then (if x31 = true then (some false) else (if x33 = true then (if x32 = true then (if x35 = true then (if x34 = true then (if ((Op.bytesLess x6.toList x10.toList) = true) then (laws_FnRingsOpen.j4 k x1) else (some false)) else (some false)) else (some false)) else (some false)) else (some false))) else (some false)) else (some false)) else (some false)) else (some false)) else (some false))) else (some false)) else (some false)) else (some false))
end
def laws_FnRingsOpen.f (k : Nat) (l0 : List Int) (l1 : List Int) : Option (Bool) := (laws_big.f l0 l1).bind fun t954 => (if t954 = true then (some true) else ((spec_DrawLeastRing.f l0).bind fun bt955 => ((impl_LeastRing.f k bt955.1 bt955.2).bind fun bt958 => ((spec_LeastRing.f k bt955.1 bt955.2).bind fun bt960 => ((impl_GreatestRing.f k bt955.1 bt955.2).bind fun bt962 => ((spec_GreatestRing.f k bt955.1 bt955.2).bind fun bt964 => ((impl_LeastWords.f k bt955.1 bt955.2).bind fun bt966 => ((spec_LeastWords.f k bt955.1 bt955.2).bind fun bt970 => ((impl_OpeningText.f k bt955.1 bt955.2).bind fun bt974 => ((spec_OpeningText.f k bt955.1 bt955.2).bind fun bt976 => ((impl_CountRings.f k bt955.1 bt955.2).bind fun bt978 => ((spec_CountRings.f k bt955.1 bt955.2).bind fun bt980 => (if (bt958.2 != bt960.2) = true then (laws_FnRingsOpen.j0 k l1 bt958.1 bt958.2 bt962.1 bt966.1 bt974.1 true bt955.1 bt955.2) else (if bt958.1.toList = bt960.1.toList then (if (bt962.2 != bt964.2) = true then (laws_FnRingsOpen.j0 k l1 bt958.1 bt958.2 bt962.1 bt966.1 bt974.1 true bt955.1 bt955.2) else (if bt962.1.toList = bt964.1.toList then (if (bt966.2 != bt970.2) = true then (laws_FnRingsOpen.j0 k l1 bt958.1 bt958.2 bt962.1 bt966.1 bt974.1 true bt955.1 bt955.2) else ((laws_eTexts.f k bt966.1 bt970.1).bind fun t982 => (if t982 = true then (if (bt974.2 != bt976.2) = true then (laws_FnRingsOpen.j0 k l1 bt958.1 bt958.2 bt962.1 bt966.1 bt974.1 true bt955.1 bt955.2) else (if bt974.1.toList = bt976.1.toList then (if (bt978.2 != bt980.2) = true then (laws_FnRingsOpen.j0 k l1 bt958.1 bt958.2 bt962.1 bt966.1 bt974.1 true bt955.1 bt955.2) else (if bt978.1 = bt980.1 then (if (bt962.2 != bt958.2) = true then (laws_FnRingsOpen.j0 k l1 bt958.1 bt958.2 bt962.1 bt966.1 bt974.1 true bt955.1 bt955.2) else (if (bt966.2 != bt958.2) = true then (laws_FnRingsOpen.j0 k l1 bt958.1 bt958.2 bt962.1 bt966.1 bt974.1 true bt955.1 bt955.2) else (if (bt974.2 != bt958.2) = true then (laws_FnRingsOpen.j0 k l1 bt958.1 bt958.2 bt962.1 bt966.1 bt974.1 true bt955.1 bt955.2) else (if bt978.2 = true then (laws_FnRingsOpen.j0 k l1 bt958.1 bt958.2 bt962.1 bt966.1 bt974.1 (!bt958.2) bt955.1 bt955.2) else (laws_FnRingsOpen.j0 k l1 bt958.1 bt958.2 bt962.1 bt966.1 bt974.1 false bt955.1 bt955.2))))) else (laws_FnRingsOpen.j0 k l1 bt958.1 bt958.2 bt962.1 bt966.1 bt974.1 true bt955.1 bt955.2))) else (laws_FnRingsOpen.j0 k l1 bt958.1 bt958.2 bt962.1 bt966.1 bt974.1 true bt955.1 bt955.2))) else (laws_FnRingsOpen.j0 k l1 bt958.1 bt958.2 bt962.1 bt966.1 bt974.1 true bt955.1 bt955.2)))) else (laws_FnRingsOpen.j0 k l1 bt958.1 bt958.2 bt962.1 bt966.1 bt974.1 true bt955.1 bt955.2))) else (laws_FnRingsOpen.j0 k l1 bt958.1 bt958.2 bt962.1 bt966.1 bt974.1 true bt955.1 bt955.2)))))))))))))))
theorem laws_FnRingsOpen.mono_l : ∀ k, (∀ y0 y1 y2 y3 y4 y5 y6 y7 y8, LeO (laws_FnRingsOpen.j0 k y0 y1 y2 y3 y4 y5 y6 y7 y8) (laws_FnRingsOpen.j0 (k + 1) y0 y1 y2 y3 y4 y5 y6 y7 y8)) ∧ (∀ y0, LeO (laws_FnRingsOpen.j4 k y0) (laws_FnRingsOpen.j4 (k + 1) y0)) ∧ (∀ y0 y1 y2 y3 y4 y5 y6 y7 y8 y9 y10 y11 y12 y13, LeO (laws_FnRingsOpen.j5 k y0 y1 y2 y3 y4 y5 y6 y7 y8 y9 y10 y11 y12 y13) (laws_FnRingsOpen.j5 (k + 1) y0 y1 y2 y3 y4 y5 y6 y7 y8 y9 y10 y11 y12 y13)) ∧ (∀ y0 y1 y2 y3 y4 y5 y6 y7 y8 y9 y10, LeO (laws_FnRingsOpen.j6 k y0 y1 y2 y3 y4 y5 y6 y7 y8 y9 y10) (laws_FnRingsOpen.j6 (k + 1) y0 y1 y2 y3 y4 y5 y6 y7 y8 y9 y10)) ∧ (∀ y0 y1 y2 y3 y4 y5, LeO (laws_FnRingsOpen.j7 k y0 y1 y2 y3 y4 y5) (laws_FnRingsOpen.j7 (k + 1) y0 y1 y2 y3 y4 y5)) ∧ (∀ y0 y1 y2 y3 y4 y5 y6 y7 y8 y9 y10 y11 y12 y13 y14 y15 y16 y17 y18 y19, LeO (laws_FnRingsOpen.l0 k y0 y1 y2 y3 y4 y5 y6 y7 y8 y9 y10 y11 y12 y13 y14 y15 y16 y17 y18 y19) (laws_FnRingsOpen.l0 (k + 1) y0 y1 y2 y3 y4 y5 y6 y7 y8 y9 y10 y11 y12 y13 y14 y15 y16 y17 y18 y19)) ∧ (∀ y0 y1 y2 y3 y4 y5 y6 y7 y8 y9 y10 y11 y12 y13 y14 y15 y16 y17 y18 y19 y20 y21, LeO (laws_FnRingsOpen.l1 k y0 y1 y2 y3 y4 y5 y6 y7 y8 y9 y10 y11 y12 y13 y14 y15 y16 y17 y18 y19 y20 y21) (laws_FnRingsOpen.l1 (k + 1) y0 y1 y2 y3 y4 y5 y6 y7 y8 y9 y10 y11 y12 y13 y14 y15 y16 y17 y18 y19 y20 y21)) ∧ (∀ y0 y1 y2 y3 y4 y5 y6 y7 y8 y9 y10 y11 y12 y13 y14 y15 y16 y17 y18, LeO (laws_FnRingsOpen.l2 k y0 y1 y2 y3 y4 y5 y6 y7 y8 y9 y10 y11 y12 y13 y14 y15 y16 y17 y18) (laws_FnRingsOpen.l2 (k + 1) y0 y1 y2 y3 y4 y5 y6 y7 y8 y9 y10 y11 y12 y13 y14 y15 y16 y17 y18))
  | 0 => ⟨fun _ _ _ _ _ _ _ _ _ r h => by simp [laws_FnRingsOpen.j0] at h, fun _ r h => by simp [laws_FnRingsOpen.j4] at h, fun _ _ _ _ _ _ _ _ _ _ _ _ _ _ r h => by simp [laws_FnRingsOpen.j5] at h, fun _ _ _ _ _ _ _ _ _ _ _ r h => by simp [laws_FnRingsOpen.j6] at h, fun _ _ _ _ _ _ r h => by simp [laws_FnRingsOpen.j7] at h, fun _ _ _ _ _ _ _ _ _ _ _ _ _ _ _ _ _ _ _ _ r h => by simp [laws_FnRingsOpen.l0] at h, fun _ _ _ _ _ _ _ _ _ _ _ _ _ _ _ _ _ _ _ _ _ _ r h => by simp [laws_FnRingsOpen.l1] at h, fun _ _ _ _ _ _ _ _ _ _ _ _ _ _ _ _ _ _ _ r h => by simp [laws_FnRingsOpen.l2] at h⟩
  | k + 1 => by
    obtain ⟨ih0, ih1, ih2, ih3, ih4, ih5, ih6, ih7⟩ := laws_FnRingsOpen.mono_l k
    refine ⟨?_, ?_, ?_, ?_, ?_, ?_, ?_, ?_⟩
    · intro y0 y1 y2 y3 y4 y5 y6 y7 y8
      unfold laws_FnRingsOpen.j0
      repeat' first
      | (with_reducible exact ih0 _ _ _ _ _ _ _ _ _)
      | (with_reducible exact ih1 _)
      | (with_reducible exact ih2 _ _ _ _ _ _ _ _ _ _ _ _ _ _)
      | (with_reducible exact ih3 _ _ _ _ _ _ _ _ _ _ _)
      | (with_reducible exact ih4 _ _ _ _ _ _)
      | (with_reducible exact ih5 _ _ _ _ _ _ _ _ _ _ _ _ _ _ _ _ _ _ _ _)
      | (with_reducible exact ih6 _ _ _ _ _ _ _ _ _ _ _ _ _ _ _ _ _ _ _ _ _ _)
      | (with_reducible exact ih7 _ _ _ _ _ _ _ _ _ _ _ _ _ _ _ _ _ _ _)
      | (with_reducible exact impl_CountCodes.mono _ _ _)
      | (with_reducible exact impl_CountLeastWords.mono _ _ _ _)
      | (with_reducible exact impl_CountOpened.mono _ _ _ _)
      | (with_reducible exact impl_CountRings.mono _ _ _)
      | (with_reducible exact impl_FirstMissed.mono _ _ _ _)
      | (with_reducible exact impl_GreatestRing.mono _ _ _)
      | (with_reducible exact impl_IsRing.mono _ _ _ _)
      | (with_reducible exact impl_LeastRing.mono _ _ _)
      | (with_reducible exact impl_LeastWords.mono _ _ _)
      | (with_reducible exact impl_OpeningText.mono _ _ _)
      | (with_reducible exact impl_StepsToOpen.mono _ _ _ _ _)
      | (with_reducible exact laws_eSorted.mono _ _)
      | (with_reducible exact laws_eTexts.mono _ _ _)
      | (with_reducible exact spec_CountLeastWords.mono _ _ _ _)
      | (with_reducible exact spec_CountOpened.mono _ _ _ _)
      | (with_reducible exact spec_CountRings.mono _ _ _)
      | (with_reducible exact spec_DrawCountOpened.mono _ _)
      | (with_reducible exact spec_DrawStepsToOpen.mono _ _)
      | (with_reducible exact spec_FirstMissed.mono _ _ _ _)
      | (with_reducible exact spec_GreatestRing.mono _ _ _)
      | (with_reducible exact spec_LeastRing.mono _ _ _)
      | (with_reducible exact spec_LeastWords.mono _ _ _)
      | (with_reducible exact spec_OpeningText.mono _ _ _)
      | (with_reducible exact spec_StepsToOpen.mono _ _ _ _ _)
      | (with_reducible exact LeO.refl _)
      | (with_reducible exact LeO.none _)
      | (with_reducible refine LeO.ite ?_ ?_)
      | (with_reducible refine LeO.bind ?_ (fun _ => ?_))
      | exact ih0 _ _ _ _ _ _ _ _ _
      | exact ih1 _
      | exact ih2 _ _ _ _ _ _ _ _ _ _ _ _ _ _
      | exact ih3 _ _ _ _ _ _ _ _ _ _ _
      | exact ih4 _ _ _ _ _ _
      | exact ih5 _ _ _ _ _ _ _ _ _ _ _ _ _ _ _ _ _ _ _ _
      | exact ih6 _ _ _ _ _ _ _ _ _ _ _ _ _ _ _ _ _ _ _ _ _ _
      | exact ih7 _ _ _ _ _ _ _ _ _ _ _ _ _ _ _ _ _ _ _
      | exact impl_CountCodes.mono _ _ _
      | exact impl_CountLeastWords.mono _ _ _ _
      | exact impl_CountOpened.mono _ _ _ _
      | exact impl_CountRings.mono _ _ _
      | exact impl_FirstMissed.mono _ _ _ _
      | exact impl_GreatestRing.mono _ _ _
      | exact impl_IsRing.mono _ _ _ _
      | exact impl_LeastRing.mono _ _ _
      | exact impl_LeastWords.mono _ _ _
      | exact impl_OpeningText.mono _ _ _
      | exact impl_StepsToOpen.mono _ _ _ _ _
      | exact laws_eSorted.mono _ _
      | exact laws_eTexts.mono _ _ _
      | exact spec_CountLeastWords.mono _ _ _ _
      | exact spec_CountOpened.mono _ _ _ _
      | exact spec_CountRings.mono _ _ _
      | exact spec_DrawCountOpened.mono _ _
      | exact spec_DrawStepsToOpen.mono _ _
      | exact spec_FirstMissed.mono _ _ _ _
      | exact spec_GreatestRing.mono _ _ _
      | exact spec_LeastRing.mono _ _ _
      | exact spec_LeastWords.mono _ _ _
      | exact spec_OpeningText.mono _ _ _
      | exact spec_StepsToOpen.mono _ _ _ _ _
      | exact LeO.none _
      | refine LeO.ite ?_ ?_
      | refine LeO.bind ?_ (fun _ => ?_)
    · intro y0
      unfold laws_FnRingsOpen.j4
      repeat' first
      | (with_reducible exact ih0 _ _ _ _ _ _ _ _ _)
      | (with_reducible exact ih1 _)
      | (with_reducible exact ih2 _ _ _ _ _ _ _ _ _ _ _ _ _ _)
      | (with_reducible exact ih3 _ _ _ _ _ _ _ _ _ _ _)
      | (with_reducible exact ih4 _ _ _ _ _ _)
      | (with_reducible exact ih5 _ _ _ _ _ _ _ _ _ _ _ _ _ _ _ _ _ _ _ _)
      | (with_reducible exact ih6 _ _ _ _ _ _ _ _ _ _ _ _ _ _ _ _ _ _ _ _ _ _)
      | (with_reducible exact ih7 _ _ _ _ _ _ _ _ _ _ _ _ _ _ _ _ _ _ _)
      | (with_reducible exact impl_CountCodes.mono _ _ _)
      | (with_reducible exact impl_CountLeastWords.mono _ _ _ _)
      | (with_reducible exact impl_CountOpened.mono _ _ _ _)
      | (with_reducible exact impl_CountRings.mono _ _ _)
      | (with_reducible exact impl_FirstMissed.mono _ _ _ _)
      | (with_reducible exact impl_GreatestRing.mono _ _ _)
      | (with_reducible exact impl_IsRing.mono _ _ _ _)
      | (with_reducible exact impl_LeastRing.mono _ _ _)
      | (with_reducible exact impl_LeastWords.mono _ _ _)
      | (with_reducible exact impl_OpeningText.mono _ _ _)
      | (with_reducible exact impl_StepsToOpen.mono _ _ _ _ _)
      | (with_reducible exact laws_eSorted.mono _ _)
      | (with_reducible exact laws_eTexts.mono _ _ _)
      | (with_reducible exact spec_CountLeastWords.mono _ _ _ _)
      | (with_reducible exact spec_CountOpened.mono _ _ _ _)
      | (with_reducible exact spec_CountRings.mono _ _ _)
      | (with_reducible exact spec_DrawCountOpened.mono _ _)
      | (with_reducible exact spec_DrawStepsToOpen.mono _ _)
      | (with_reducible exact spec_FirstMissed.mono _ _ _ _)
      | (with_reducible exact spec_GreatestRing.mono _ _ _)
      | (with_reducible exact spec_LeastRing.mono _ _ _)
      | (with_reducible exact spec_LeastWords.mono _ _ _)
      | (with_reducible exact spec_OpeningText.mono _ _ _)
      | (with_reducible exact spec_StepsToOpen.mono _ _ _ _ _)
      | (with_reducible exact LeO.refl _)
      | (with_reducible exact LeO.none _)
      | (with_reducible refine LeO.ite ?_ ?_)
      | (with_reducible refine LeO.bind ?_ (fun _ => ?_))
      | exact ih0 _ _ _ _ _ _ _ _ _
      | exact ih1 _
      | exact ih2 _ _ _ _ _ _ _ _ _ _ _ _ _ _
      | exact ih3 _ _ _ _ _ _ _ _ _ _ _
      | exact ih4 _ _ _ _ _ _
      | exact ih5 _ _ _ _ _ _ _ _ _ _ _ _ _ _ _ _ _ _ _ _
      | exact ih6 _ _ _ _ _ _ _ _ _ _ _ _ _ _ _ _ _ _ _ _ _ _
      | exact ih7 _ _ _ _ _ _ _ _ _ _ _ _ _ _ _ _ _ _ _
      | exact impl_CountCodes.mono _ _ _
      | exact impl_CountLeastWords.mono _ _ _ _
      | exact impl_CountOpened.mono _ _ _ _
      | exact impl_CountRings.mono _ _ _
      | exact impl_FirstMissed.mono _ _ _ _
      | exact impl_GreatestRing.mono _ _ _
      | exact impl_IsRing.mono _ _ _ _
      | exact impl_LeastRing.mono _ _ _
      | exact impl_LeastWords.mono _ _ _
      | exact impl_OpeningText.mono _ _ _
      | exact impl_StepsToOpen.mono _ _ _ _ _
      | exact laws_eSorted.mono _ _
      | exact laws_eTexts.mono _ _ _
      | exact spec_CountLeastWords.mono _ _ _ _
      | exact spec_CountOpened.mono _ _ _ _
      | exact spec_CountRings.mono _ _ _
      | exact spec_DrawCountOpened.mono _ _
      | exact spec_DrawStepsToOpen.mono _ _
      | exact spec_FirstMissed.mono _ _ _ _
      | exact spec_GreatestRing.mono _ _ _
      | exact spec_LeastRing.mono _ _ _
      | exact spec_LeastWords.mono _ _ _
      | exact spec_OpeningText.mono _ _ _
      | exact spec_StepsToOpen.mono _ _ _ _ _
      | exact LeO.none _
      | refine LeO.ite ?_ ?_
      | refine LeO.bind ?_ (fun _ => ?_)
    · intro y0 y1 y2 y3 y4 y5 y6 y7 y8 y9 y10 y11 y12 y13
      unfold laws_FnRingsOpen.j5
      repeat' first
      | (with_reducible exact ih0 _ _ _ _ _ _ _ _ _)
      | (with_reducible exact ih1 _)
      | (with_reducible exact ih2 _ _ _ _ _ _ _ _ _ _ _ _ _ _)
      | (with_reducible exact ih3 _ _ _ _ _ _ _ _ _ _ _)
      | (with_reducible exact ih4 _ _ _ _ _ _)
      | (with_reducible exact ih5 _ _ _ _ _ _ _ _ _ _ _ _ _ _ _ _ _ _ _ _)
      | (with_reducible exact ih6 _ _ _ _ _ _ _ _ _ _ _ _ _ _ _ _ _ _ _ _ _ _)
      | (with_reducible exact ih7 _ _ _ _ _ _ _ _ _ _ _ _ _ _ _ _ _ _ _)
      | (with_reducible exact impl_CountCodes.mono _ _ _)
      | (with_reducible exact impl_CountLeastWords.mono _ _ _ _)
      | (with_reducible exact impl_CountOpened.mono _ _ _ _)
      | (with_reducible exact impl_CountRings.mono _ _ _)
      | (with_reducible exact impl_FirstMissed.mono _ _ _ _)
      | (with_reducible exact impl_GreatestRing.mono _ _ _)
      | (with_reducible exact impl_IsRing.mono _ _ _ _)
      | (with_reducible exact impl_LeastRing.mono _ _ _)
      | (with_reducible exact impl_LeastWords.mono _ _ _)
      | (with_reducible exact impl_OpeningText.mono _ _ _)
      | (with_reducible exact impl_StepsToOpen.mono _ _ _ _ _)
      | (with_reducible exact laws_eSorted.mono _ _)
      | (with_reducible exact laws_eTexts.mono _ _ _)
      | (with_reducible exact spec_CountLeastWords.mono _ _ _ _)
      | (with_reducible exact spec_CountOpened.mono _ _ _ _)
      | (with_reducible exact spec_CountRings.mono _ _ _)
      | (with_reducible exact spec_DrawCountOpened.mono _ _)
      | (with_reducible exact spec_DrawStepsToOpen.mono _ _)
      | (with_reducible exact spec_FirstMissed.mono _ _ _ _)
      | (with_reducible exact spec_GreatestRing.mono _ _ _)
      | (with_reducible exact spec_LeastRing.mono _ _ _)
      | (with_reducible exact spec_LeastWords.mono _ _ _)
      | (with_reducible exact spec_OpeningText.mono _ _ _)
      | (with_reducible exact spec_StepsToOpen.mono _ _ _ _ _)
      | (with_reducible exact LeO.refl _)
      | (with_reducible exact LeO.none _)
      | (with_reducible refine LeO.ite ?_ ?_)
      | (with_reducible refine LeO.bind ?_ (fun _ => ?_))
      | exact ih0 _ _ _ _ _ _ _ _ _
      | exact ih1 _
      | exact ih2 _ _ _ _ _ _ _ _ _ _ _ _ _ _
      | exact ih3 _ _ _ _ _ _ _ _ _ _ _
      | exact ih4 _ _ _ _ _ _
      | exact ih5 _ _ _ _ _ _ _ _ _ _ _ _ _ _ _ _ _ _ _ _
      | exact ih6 _ _ _ _ _ _ _ _ _ _ _ _ _ _ _ _ _ _ _ _ _ _
      | exact ih7 _ _ _ _ _ _ _ _ _ _ _ _ _ _ _ _ _ _ _
      | exact impl_CountCodes.mono _ _ _
      | exact impl_CountLeastWords.mono _ _ _ _
      | exact impl_CountOpened.mono _ _ _ _
      | exact impl_CountRings.mono _ _ _
      | exact impl_FirstMissed.mono _ _ _ _
      | exact impl_GreatestRing.mono _ _ _
      | exact impl_IsRing.mono _ _ _ _
      | exact impl_LeastRing.mono _ _ _
      | exact impl_LeastWords.mono _ _ _
      | exact impl_OpeningText.mono _ _ _
      | exact impl_StepsToOpen.mono _ _ _ _ _
      | exact laws_eSorted.mono _ _
      | exact laws_eTexts.mono _ _ _
      | exact spec_CountLeastWords.mono _ _ _ _
      | exact spec_CountOpened.mono _ _ _ _
      | exact spec_CountRings.mono _ _ _
      | exact spec_DrawCountOpened.mono _ _
      | exact spec_DrawStepsToOpen.mono _ _
      | exact spec_FirstMissed.mono _ _ _ _
      | exact spec_GreatestRing.mono _ _ _
      | exact spec_LeastRing.mono _ _ _
      | exact spec_LeastWords.mono _ _ _
      | exact spec_OpeningText.mono _ _ _
      | exact spec_StepsToOpen.mono _ _ _ _ _
      | exact LeO.none _
      | refine LeO.ite ?_ ?_
      | refine LeO.bind ?_ (fun _ => ?_)
    · intro y0 y1 y2 y3 y4 y5 y6 y7 y8 y9 y10
      unfold laws_FnRingsOpen.j6
      repeat' first
      | (with_reducible exact ih0 _ _ _ _ _ _ _ _ _)
      | (with_reducible exact ih1 _)
      | (with_reducible exact ih2 _ _ _ _ _ _ _ _ _ _ _ _ _ _)
      | (with_reducible exact ih3 _ _ _ _ _ _ _ _ _ _ _)
      | (with_reducible exact ih4 _ _ _ _ _ _)
      | (with_reducible exact ih5 _ _ _ _ _ _ _ _ _ _ _ _ _ _ _ _ _ _ _ _)
      | (with_reducible exact ih6 _ _ _ _ _ _ _ _ _ _ _ _ _ _ _ _ _ _ _ _ _ _)
      | (with_reducible exact ih7 _ _ _ _ _ _ _ _ _ _ _ _ _ _ _ _ _ _ _)
      | (with_reducible exact impl_CountCodes.mono _ _ _)
      | (with_reducible exact impl_CountLeastWords.mono _ _ _ _)
      | (with_reducible exact impl_CountOpened.mono _ _ _ _)
      | (with_reducible exact impl_CountRings.mono _ _ _)
      | (with_reducible exact impl_FirstMissed.mono _ _ _ _)
      | (with_reducible exact impl_GreatestRing.mono _ _ _)
      | (with_reducible exact impl_IsRing.mono _ _ _ _)
      | (with_reducible exact impl_LeastRing.mono _ _ _)
      | (with_reducible exact impl_LeastWords.mono _ _ _)
      | (with_reducible exact impl_OpeningText.mono _ _ _)
      | (with_reducible exact impl_StepsToOpen.mono _ _ _ _ _)
      | (with_reducible exact laws_eSorted.mono _ _)
      | (with_reducible exact laws_eTexts.mono _ _ _)
      | (with_reducible exact spec_CountLeastWords.mono _ _ _ _)
      | (with_reducible exact spec_CountOpened.mono _ _ _ _)
      | (with_reducible exact spec_CountRings.mono _ _ _)
      | (with_reducible exact spec_DrawCountOpened.mono _ _)
      | (with_reducible exact spec_DrawStepsToOpen.mono _ _)
      | (with_reducible exact spec_FirstMissed.mono _ _ _ _)
      | (with_reducible exact spec_GreatestRing.mono _ _ _)
      | (with_reducible exact spec_LeastRing.mono _ _ _)
      | (with_reducible exact spec_LeastWords.mono _ _ _)
      | (with_reducible exact spec_OpeningText.mono _ _ _)
      | (with_reducible exact spec_StepsToOpen.mono _ _ _ _ _)
      | (with_reducible exact LeO.refl _)
      | (with_reducible exact LeO.none _)
      | (with_reducible refine LeO.ite ?_ ?_)
      | (with_reducible refine LeO.bind ?_ (fun _ => ?_))
      | exact ih0 _ _ _ _ _ _ _ _ _
      | exact ih1 _
      | exact ih2 _ _ _ _ _ _ _ _ _ _ _ _ _ _
      | exact ih3 _ _ _ _ _ _ _ _ _ _ _
      | exact ih4 _ _ _ _ _ _
      | exact ih5 _ _ _ _ _ _ _ _ _ _ _ _ _ _ _ _ _ _ _ _
      | exact ih6 _ _ _ _ _ _ _ _ _ _ _ _ _ _ _ _ _ _ _ _ _ _
      | exact ih7 _ _ _ _ _ _ _ _ _ _ _ _ _ _ _ _ _ _ _
      | exact impl_CountCodes.mono _ _ _
      | exact impl_CountLeastWords.mono _ _ _ _
      | exact impl_CountOpened.mono _ _ _ _
      | exact impl_CountRings.mono _ _ _
      | exact impl_FirstMissed.mono _ _ _ _
      | exact impl_GreatestRing.mono _ _ _
      | exact impl_IsRing.mono _ _ _ _
      | exact impl_LeastRing.mono _ _ _
      | exact impl_LeastWords.mono _ _ _
      | exact impl_OpeningText.mono _ _ _
      | exact impl_StepsToOpen.mono _ _ _ _ _
      | exact laws_eSorted.mono _ _
      | exact laws_eTexts.mono _ _ _
      | exact spec_CountLeastWords.mono _ _ _ _
      | exact spec_CountOpened.mono _ _ _ _
      | exact spec_CountRings.mono _ _ _
      | exact spec_DrawCountOpened.mono _ _
      | exact spec_DrawStepsToOpen.mono _ _
      | exact spec_FirstMissed.mono _ _ _ _
      | exact spec_GreatestRing.mono _ _ _
      | exact spec_LeastRing.mono _ _ _
      | exact spec_LeastWords.mono _ _ _
      | exact spec_OpeningText.mono _ _ _
      | exact spec_StepsToOpen.mono _ _ _ _ _
      | exact LeO.none _
      | refine LeO.ite ?_ ?_
      | refine LeO.bind ?_ (fun _ => ?_)
    · intro y0 y1 y2 y3 y4 y5
      unfold laws_FnRingsOpen.j7
      repeat' first
      | (with_reducible exact ih0 _ _ _ _ _ _ _ _ _)
      | (with_reducible exact ih1 _)
      | (with_reducible exact ih2 _ _ _ _ _ _ _ _ _ _ _ _ _ _)
      | (with_reducible exact ih3 _ _ _ _ _ _ _ _ _ _ _)
      | (with_reducible exact ih4 _ _ _ _ _ _)
      | (with_reducible exact ih5 _ _ _ _ _ _ _ _ _ _ _ _ _ _ _ _ _ _ _ _)
      | (with_reducible exact ih6 _ _ _ _ _ _ _ _ _ _ _ _ _ _ _ _ _ _ _ _ _ _)
      | (with_reducible exact ih7 _ _ _ _ _ _ _ _ _ _ _ _ _ _ _ _ _ _ _)
      | (with_reducible exact impl_CountCodes.mono _ _ _)
      | (with_reducible exact impl_CountLeastWords.mono _ _ _ _)
      | (with_reducible exact impl_CountOpened.mono _ _ _ _)
      | (with_reducible exact impl_CountRings.mono _ _ _)
      | (with_reducible exact impl_FirstMissed.mono _ _ _ _)
      | (with_reducible exact impl_GreatestRing.mono _ _ _)
      | (with_reducible exact impl_IsRing.mono _ _ _ _)
      | (with_reducible exact impl_LeastRing.mono _ _ _)
      | (with_reducible exact impl_LeastWords.mono _ _ _)
      | (with_reducible exact impl_OpeningText.mono _ _ _)
      | (with_reducible exact impl_StepsToOpen.mono _ _ _ _ _)
      | (with_reducible exact laws_eSorted.mono _ _)
      | (with_reducible exact laws_eTexts.mono _ _ _)
      | (with_reducible exact spec_CountLeastWords.mono _ _ _ _)
      | (with_reducible exact spec_CountOpened.mono _ _ _ _)
      | (with_reducible exact spec_CountRings.mono _ _ _)
      | (with_reducible exact spec_DrawCountOpened.mono _ _)
      | (with_reducible exact spec_DrawStepsToOpen.mono _ _)
      | (with_reducible exact spec_FirstMissed.mono _ _ _ _)
      | (with_reducible exact spec_GreatestRing.mono _ _ _)
      | (with_reducible exact spec_LeastRing.mono _ _ _)
      | (with_reducible exact spec_LeastWords.mono _ _ _)
      | (with_reducible exact spec_OpeningText.mono _ _ _)
      | (with_reducible exact spec_StepsToOpen.mono _ _ _ _ _)
      | (with_reducible exact LeO.refl _)
      | (with_reducible exact LeO.none _)
      | (with_reducible refine LeO.ite ?_ ?_)
      | (with_reducible refine LeO.bind ?_ (fun _ => ?_))
      | exact ih0 _ _ _ _ _ _ _ _ _
      | exact ih1 _
      | exact ih2 _ _ _ _ _ _ _ _ _ _ _ _ _ _
      | exact ih3 _ _ _ _ _ _ _ _ _ _ _
      | exact ih4 _ _ _ _ _ _
      | exact ih5 _ _ _ _ _ _ _ _ _ _ _ _ _ _ _ _ _ _ _ _
      | exact ih6 _ _ _ _ _ _ _ _ _ _ _ _ _ _ _ _ _ _ _ _ _ _
      | exact ih7 _ _ _ _ _ _ _ _ _ _ _ _ _ _ _ _ _ _ _
      | exact impl_CountCodes.mono _ _ _
      | exact impl_CountLeastWords.mono _ _ _ _
      | exact impl_CountOpened.mono _ _ _ _
      | exact impl_CountRings.mono _ _ _
      | exact impl_FirstMissed.mono _ _ _ _
      | exact impl_GreatestRing.mono _ _ _
      | exact impl_IsRing.mono _ _ _ _
      | exact impl_LeastRing.mono _ _ _
      | exact impl_LeastWords.mono _ _ _
      | exact impl_OpeningText.mono _ _ _
      | exact impl_StepsToOpen.mono _ _ _ _ _
      | exact laws_eSorted.mono _ _
      | exact laws_eTexts.mono _ _ _
      | exact spec_CountLeastWords.mono _ _ _ _
      | exact spec_CountOpened.mono _ _ _ _
      | exact spec_CountRings.mono _ _ _
      | exact spec_DrawCountOpened.mono _ _
      | exact spec_DrawStepsToOpen.mono _ _
      | exact spec_FirstMissed.mono _ _ _ _
      | exact spec_GreatestRing.mono _ _ _
      | exact spec_LeastRing.mono _ _ _
      | exact spec_LeastWords.mono _ _ _
      | exact spec_OpeningText.mono _ _ _
      | exact spec_StepsToOpen.mono _ _ _ _ _
      | exact LeO.none _
      | refine LeO.ite ?_ ?_
      | refine LeO.bind ?_ (fun _ => ?_)
    · intro y0 y1 y2 y3 y4 y5 y6 y7 y8 y9 y10 y11 y12 y13 y14 y15 y16 y17 y18 y19
      unfold laws_FnRingsOpen.l0
      repeat' first
      | (with_reducible exact ih0 _ _ _ _ _ _ _ _ _)
      | (with_reducible exact ih1 _)
      | (with_reducible exact ih2 _ _ _ _ _ _ _ _ _ _ _ _ _ _)
      | (with_reducible exact ih3 _ _ _ _ _ _ _ _ _ _ _)
      | (with_reducible exact ih4 _ _ _ _ _ _)
      | (with_reducible exact ih5 _ _ _ _ _ _ _ _ _ _ _ _ _ _ _ _ _ _ _ _)
      | (with_reducible exact ih6 _ _ _ _ _ _ _ _ _ _ _ _ _ _ _ _ _ _ _ _ _ _)
      | (with_reducible exact ih7 _ _ _ _ _ _ _ _ _ _ _ _ _ _ _ _ _ _ _)
      | (with_reducible exact impl_CountCodes.mono _ _ _)
      | (with_reducible exact impl_CountLeastWords.mono _ _ _ _)
      | (with_reducible exact impl_CountOpened.mono _ _ _ _)
      | (with_reducible exact impl_CountRings.mono _ _ _)
      | (with_reducible exact impl_FirstMissed.mono _ _ _ _)
      | (with_reducible exact impl_GreatestRing.mono _ _ _)
      | (with_reducible exact impl_IsRing.mono _ _ _ _)
      | (with_reducible exact impl_LeastRing.mono _ _ _)
      | (with_reducible exact impl_LeastWords.mono _ _ _)
      | (with_reducible exact impl_OpeningText.mono _ _ _)
      | (with_reducible exact impl_StepsToOpen.mono _ _ _ _ _)
      | (with_reducible exact laws_eSorted.mono _ _)
      | (with_reducible exact laws_eTexts.mono _ _ _)
      | (with_reducible exact spec_CountLeastWords.mono _ _ _ _)
      | (with_reducible exact spec_CountOpened.mono _ _ _ _)
      | (with_reducible exact spec_CountRings.mono _ _ _)
      | (with_reducible exact spec_DrawCountOpened.mono _ _)
      | (with_reducible exact spec_DrawStepsToOpen.mono _ _)
      | (with_reducible exact spec_FirstMissed.mono _ _ _ _)
      | (with_reducible exact spec_GreatestRing.mono _ _ _)
      | (with_reducible exact spec_LeastRing.mono _ _ _)
      | (with_reducible exact spec_LeastWords.mono _ _ _)
      | (with_reducible exact spec_OpeningText.mono _ _ _)
      | (with_reducible exact spec_StepsToOpen.mono _ _ _ _ _)
      | (with_reducible exact LeO.refl _)
      | (with_reducible exact LeO.none _)
      | (with_reducible refine LeO.ite ?_ ?_)
      | (with_reducible refine LeO.bind ?_ (fun _ => ?_))
      | exact ih0 _ _ _ _ _ _ _ _ _
      | exact ih1 _
      | exact ih2 _ _ _ _ _ _ _ _ _ _ _ _ _ _
      | exact ih3 _ _ _ _ _ _ _ _ _ _ _
      | exact ih4 _ _ _ _ _ _
      | exact ih5 _ _ _ _ _ _ _ _ _ _ _ _ _ _ _ _ _ _ _ _
      | exact ih6 _ _ _ _ _ _ _ _ _ _ _ _ _ _ _ _ _ _ _ _ _ _
      | exact ih7 _ _ _ _ _ _ _ _ _ _ _ _ _ _ _ _ _ _ _
      | exact impl_CountCodes.mono _ _ _
      | exact impl_CountLeastWords.mono _ _ _ _
      | exact impl_CountOpened.mono _ _ _ _
      | exact impl_CountRings.mono _ _ _
      | exact impl_FirstMissed.mono _ _ _ _
      | exact impl_GreatestRing.mono _ _ _
      | exact impl_IsRing.mono _ _ _ _
      | exact impl_LeastRing.mono _ _ _
      | exact impl_LeastWords.mono _ _ _
      | exact impl_OpeningText.mono _ _ _
      | exact impl_StepsToOpen.mono _ _ _ _ _
      | exact laws_eSorted.mono _ _
      | exact laws_eTexts.mono _ _ _
      | exact spec_CountLeastWords.mono _ _ _ _
      | exact spec_CountOpened.mono _ _ _ _
      | exact spec_CountRings.mono _ _ _
      | exact spec_DrawCountOpened.mono _ _
      | exact spec_DrawStepsToOpen.mono _ _
      | exact spec_FirstMissed.mono _ _ _ _
      | exact spec_GreatestRing.mono _ _ _
      | exact spec_LeastRing.mono _ _ _
      | exact spec_LeastWords.mono _ _ _
      | exact spec_OpeningText.mono _ _ _
      | exact spec_StepsToOpen.mono _ _ _ _ _
      | exact LeO.none _
      | refine LeO.ite ?_ ?_
      | refine LeO.bind ?_ (fun _ => ?_)
    · intro y0 y1 y2 y3 y4 y5 y6 y7 y8 y9 y10 y11 y12 y13 y14 y15 y16 y17 y18 y19 y20 y21
      unfold laws_FnRingsOpen.l1
      repeat' first
      | (with_reducible exact ih0 _ _ _ _ _ _ _ _ _)
      | (with_reducible exact ih1 _)
      | (with_reducible exact ih2 _ _ _ _ _ _ _ _ _ _ _ _ _ _)
      | (with_reducible exact ih3 _ _ _ _ _ _ _ _ _ _ _)
      | (with_reducible exact ih4 _ _ _ _ _ _)
      | (with_reducible exact ih5 _ _ _ _ _ _ _ _ _ _ _ _ _ _ _ _ _ _ _ _)
      | (with_reducible exact ih6 _ _ _ _ _ _ _ _ _ _ _ _ _ _ _ _ _ _ _ _ _ _)
      | (with_reducible exact ih7 _ _ _ _ _ _ _ _ _ _ _ _ _ _ _ _ _ _ _)
      | (with_reducible exact impl_CountCodes.mono _ _ _)
      | (with_reducible exact impl_CountLeastWords.mono _ _ _ _)
      | (with_reducible exact impl_CountOpened.mono _ _ _ _)
      | (with_reducible exact impl_CountRings.mono _ _ _)
      | (with_reducible exact impl_FirstMissed.mono _ _ _ _)
      | (with_reducible exact impl_GreatestRing.mono _ _ _)
      | (with_reducible exact impl_IsRing.mono _ _ _ _)
      | (with_reducible exact impl_LeastRing.mono _ _ _)
      | (with_reducible exact impl_LeastWords.mono _ _ _)
      | (with_reducible exact impl_OpeningText.mono _ _ _)
      | (with_reducible exact impl_StepsToOpen.mono _ _ _ _ _)
      | (with_reducible exact laws_eSorted.mono _ _)
      | (with_reducible exact laws_eTexts.mono _ _ _)
      | (with_reducible exact spec_CountLeastWords.mono _ _ _ _)
      | (with_reducible exact spec_CountOpened.mono _ _ _ _)
      | (with_reducible exact spec_CountRings.mono _ _ _)
      | (with_reducible exact spec_DrawCountOpened.mono _ _)
      | (with_reducible exact spec_DrawStepsToOpen.mono _ _)
      | (with_reducible exact spec_FirstMissed.mono _ _ _ _)
      | (with_reducible exact spec_GreatestRing.mono _ _ _)
      | (with_reducible exact spec_LeastRing.mono _ _ _)
      | (with_reducible exact spec_LeastWords.mono _ _ _)
      | (with_reducible exact spec_OpeningText.mono _ _ _)
      | (with_reducible exact spec_StepsToOpen.mono _ _ _ _ _)
      | (with_reducible exact LeO.refl _)
      | (with_reducible exact LeO.none _)
      | (with_reducible refine LeO.ite ?_ ?_)
      | (with_reducible refine LeO.bind ?_ (fun _ => ?_))
      | exact ih0 _ _ _ _ _ _ _ _ _
      | exact ih1 _
      | exact ih2 _ _ _ _ _ _ _ _ _ _ _ _ _ _
      | exact ih3 _ _ _ _ _ _ _ _ _ _ _
      | exact ih4 _ _ _ _ _ _
      | exact ih5 _ _ _ _ _ _ _ _ _ _ _ _ _ _ _ _ _ _ _ _
      | exact ih6 _ _ _ _ _ _ _ _ _ _ _ _ _ _ _ _ _ _ _ _ _ _
      | exact ih7 _ _ _ _ _ _ _ _ _ _ _ _ _ _ _ _ _ _ _
      | exact impl_CountCodes.mono _ _ _
      | exact impl_CountLeastWords.mono _ _ _ _
      | exact impl_CountOpened.mono _ _ _ _
      | exact impl_CountRings.mono _ _ _
      | exact impl_FirstMissed.mono _ _ _ _
      | exact impl_GreatestRing.mono _ _ _
      | exact impl_IsRing.mono _ _ _ _
      | exact impl_LeastRing.mono _ _ _
      | exact impl_LeastWords.mono _ _ _
      | exact impl_OpeningText.mono _ _ _
      | exact impl_StepsToOpen.mono _ _ _ _ _
      | exact laws_eSorted.mono _ _
      | exact laws_eTexts.mono _ _ _
      | exact spec_CountLeastWords.mono _ _ _ _
      | exact spec_CountOpened.mono _ _ _ _
      | exact spec_CountRings.mono _ _ _
      | exact spec_DrawCountOpened.mono _ _
      | exact spec_DrawStepsToOpen.mono _ _
      | exact spec_FirstMissed.mono _ _ _ _
      | exact spec_GreatestRing.mono _ _ _
      | exact spec_LeastRing.mono _ _ _
      | exact spec_LeastWords.mono _ _ _
      | exact spec_OpeningText.mono _ _ _
      | exact spec_StepsToOpen.mono _ _ _ _ _
      | exact LeO.none _
      | refine LeO.ite ?_ ?_
      | refine LeO.bind ?_ (fun _ => ?_)
    · intro y0 y1 y2 y3 y4 y5 y6 y7 y8 y9 y10 y11 y12 y13 y14 y15 y16 y17 y18
      unfold laws_FnRingsOpen.l2
      repeat' first
      | (with_reducible exact ih0 _ _ _ _ _ _ _ _ _)
      | (with_reducible exact ih1 _)
      | (with_reducible exact ih2 _ _ _ _ _ _ _ _ _ _ _ _ _ _)
      | (with_reducible exact ih3 _ _ _ _ _ _ _ _ _ _ _)
      | (with_reducible exact ih4 _ _ _ _ _ _)
      | (with_reducible exact ih5 _ _ _ _ _ _ _ _ _ _ _ _ _ _ _ _ _ _ _ _)
      | (with_reducible exact ih6 _ _ _ _ _ _ _ _ _ _ _ _ _ _ _ _ _ _ _ _ _ _)
      | (with_reducible exact ih7 _ _ _ _ _ _ _ _ _ _ _ _ _ _ _ _ _ _ _)
      | (with_reducible exact impl_CountCodes.mono _ _ _)
      | (with_reducible exact impl_CountLeastWords.mono _ _ _ _)
      | (with_reducible exact impl_CountOpened.mono _ _ _ _)
      | (with_reducible exact impl_CountRings.mono _ _ _)
      | (with_reducible exact impl_FirstMissed.mono _ _ _ _)
      | (with_reducible exact impl_GreatestRing.mono _ _ _)
      | (with_reducible exact impl_IsRing.mono _ _ _ _)
      | (with_reducible exact impl_LeastRing.mono _ _ _)
      | (with_reducible exact impl_LeastWords.mono _ _ _)
      | (with_reducible exact impl_OpeningText.mono _ _ _)
      | (with_reducible exact impl_StepsToOpen.mono _ _ _ _ _)
      | (with_reducible exact laws_eSorted.mono _ _)
      | (with_reducible exact laws_eTexts.mono _ _ _)
      | (with_reducible exact spec_CountLeastWords.mono _ _ _ _)
      | (with_reducible exact spec_CountOpened.mono _ _ _ _)
      | (with_reducible exact spec_CountRings.mono _ _ _)
      | (with_reducible exact spec_DrawCountOpened.mono _ _)
      | (with_reducible exact spec_DrawStepsToOpen.mono _ _)
      | (with_reducible exact spec_FirstMissed.mono _ _ _ _)
      | (with_reducible exact spec_GreatestRing.mono _ _ _)
      | (with_reducible exact spec_LeastRing.mono _ _ _)
      | (with_reducible exact spec_LeastWords.mono _ _ _)
      | (with_reducible exact spec_OpeningText.mono _ _ _)
      | (with_reducible exact spec_StepsToOpen.mono _ _ _ _ _)
      | (with_reducible exact LeO.refl _)
      | (with_reducible exact LeO.none _)
      | (with_reducible refine LeO.ite ?_ ?_)
      | (with_reducible refine LeO.bind ?_ (fun _ => ?_))
      | exact ih0 _ _ _ _ _ _ _ _ _
      | exact ih1 _
      | exact ih2 _ _ _ _ _ _ _ _ _ _ _ _ _ _
      | exact ih3 _ _ _ _ _ _ _ _ _ _ _
      | exact ih4 _ _ _ _ _ _
      | exact ih5 _ _ _ _ _ _ _ _ _ _ _ _ _ _ _ _ _ _ _ _
      | exact ih6 _ _ _ _ _ _ _ _ _ _ _ _ _ _ _ _ _ _ _ _ _ _
      | exact ih7 _ _ _ _ _ _ _ _ _ _ _ _ _ _ _ _ _ _ _
      | exact impl_CountCodes.mono _ _ _
      | exact impl_CountLeastWords.mono _ _ _ _
      | exact impl_CountOpened.mono _ _ _ _
      | exact impl_CountRings.mono _ _ _
      | exact impl_FirstMissed.mono _ _ _ _
      | exact impl_GreatestRing.mono _ _ _
      | exact impl_IsRing.mono _ _ _ _
      | exact impl_LeastRing.mono _ _ _
      | exact impl_LeastWords.mono _ _ _
      | exact impl_OpeningText.mono _ _ _
      | exact impl_StepsToOpen.mono _ _ _ _ _
      | exact laws_eSorted.mono _ _
      | exact laws_eTexts.mono _ _ _
      | exact spec_CountLeastWords.mono _ _ _ _
      | exact spec_CountOpened.mono _ _ _ _
      | exact spec_CountRings.mono _ _ _
      | exact spec_DrawCountOpened.mono _ _
      | exact spec_DrawStepsToOpen.mono _ _
      | exact spec_FirstMissed.mono _ _ _ _
      | exact spec_GreatestRing.mono _ _ _
      | exact spec_LeastRing.mono _ _ _
      | exact spec_LeastWords.mono _ _ _
      | exact spec_OpeningText.mono _ _ _
      | exact spec_StepsToOpen.mono _ _ _ _ _
      | exact LeO.none _
      | refine LeO.ite ?_ ?_
      | refine LeO.bind ?_ (fun _ => ?_)
theorem laws_FnRingsOpen.mono : ∀ a0 a1 k, LeO (laws_FnRingsOpen.f k a0 a1) (laws_FnRingsOpen.f (k + 1) a0 a1) := by
  intro a0 a1 k
  obtain ⟨ih0, ih1, ih2, ih3, ih4, ih5, ih6, ih7⟩ := laws_FnRingsOpen.mono_l k
  unfold laws_FnRingsOpen.f
  repeat' first
      | (with_reducible exact ih0 _ _ _ _ _ _ _ _ _)
      | (with_reducible exact ih1 _)
      | (with_reducible exact ih2 _ _ _ _ _ _ _ _ _ _ _ _ _ _)
      | (with_reducible exact ih3 _ _ _ _ _ _ _ _ _ _ _)
      | (with_reducible exact ih4 _ _ _ _ _ _)
      | (with_reducible exact ih5 _ _ _ _ _ _ _ _ _ _ _ _ _ _ _ _ _ _ _ _)
      | (with_reducible exact ih6 _ _ _ _ _ _ _ _ _ _ _ _ _ _ _ _ _ _ _ _ _ _)
      | (with_reducible exact ih7 _ _ _ _ _ _ _ _ _ _ _ _ _ _ _ _ _ _ _)
      | (with_reducible exact impl_CountCodes.mono _ _ _)
      | (with_reducible exact impl_CountLeastWords.mono _ _ _ _)
      | (with_reducible exact impl_CountOpened.mono _ _ _ _)
      | (with_reducible exact impl_CountRings.mono _ _ _)
      | (with_reducible exact impl_FirstMissed.mono _ _ _ _)
      | (with_reducible exact impl_GreatestRing.mono _ _ _)
      | (with_reducible exact impl_IsRing.mono _ _ _ _)
      | (with_reducible exact impl_LeastRing.mono _ _ _)
      | (with_reducible exact impl_LeastWords.mono _ _ _)
      | (with_reducible exact impl_OpeningText.mono _ _ _)
      | (with_reducible exact impl_StepsToOpen.mono _ _ _ _ _)
      | (with_reducible exact laws_eSorted.mono _ _)
      | (with_reducible exact laws_eTexts.mono _ _ _)
      | (with_reducible exact spec_CountLeastWords.mono _ _ _ _)
      | (with_reducible exact spec_CountOpened.mono _ _ _ _)
      | (with_reducible exact spec_CountRings.mono _ _ _)
      | (with_reducible exact spec_DrawCountOpened.mono _ _)
      | (with_reducible exact spec_DrawStepsToOpen.mono _ _)
      | (with_reducible exact spec_FirstMissed.mono _ _ _ _)
      | (with_reducible exact spec_GreatestRing.mono _ _ _)
      | (with_reducible exact spec_LeastRing.mono _ _ _)
      | (with_reducible exact spec_LeastWords.mono _ _ _)
      | (with_reducible exact spec_OpeningText.mono _ _ _)
      | (with_reducible exact spec_StepsToOpen.mono _ _ _ _ _)
      | (with_reducible exact LeO.refl _)
      | (with_reducible exact LeO.none _)
      | (with_reducible refine LeO.ite ?_ ?_)
      | (with_reducible refine LeO.bind ?_ (fun _ => ?_))
      | exact ih0 _ _ _ _ _ _ _ _ _
      | exact ih1 _
      | exact ih2 _ _ _ _ _ _ _ _ _ _ _ _ _ _
      | exact ih3 _ _ _ _ _ _ _ _ _ _ _
      | exact ih4 _ _ _ _ _ _
      | exact ih5 _ _ _ _ _ _ _ _ _ _ _ _ _ _ _ _ _ _ _ _
      | exact ih6 _ _ _ _ _ _ _ _ _ _ _ _ _ _ _ _ _ _ _ _ _ _
      | exact ih7 _ _ _ _ _ _ _ _ _ _ _ _ _ _ _ _ _ _ _
      | exact impl_CountCodes.mono _ _ _
      | exact impl_CountLeastWords.mono _ _ _ _
      | exact impl_CountOpened.mono _ _ _ _
      | exact impl_CountRings.mono _ _ _
      | exact impl_FirstMissed.mono _ _ _ _
      | exact impl_GreatestRing.mono _ _ _
      | exact impl_IsRing.mono _ _ _ _
      | exact impl_LeastRing.mono _ _ _
      | exact impl_LeastWords.mono _ _ _
      | exact impl_OpeningText.mono _ _ _
      | exact impl_StepsToOpen.mono _ _ _ _ _
      | exact laws_eSorted.mono _ _
      | exact laws_eTexts.mono _ _ _
      | exact spec_CountLeastWords.mono _ _ _ _
      | exact spec_CountOpened.mono _ _ _ _
      | exact spec_CountRings.mono _ _ _
      | exact spec_DrawCountOpened.mono _ _
      | exact spec_DrawStepsToOpen.mono _ _
      | exact spec_FirstMissed.mono _ _ _ _
      | exact spec_GreatestRing.mono _ _ _
      | exact spec_LeastRing.mono _ _ _
      | exact spec_LeastWords.mono _ _ _
      | exact spec_OpeningText.mono _ _ _
      | exact spec_StepsToOpen.mono _ _ _ _ _
      | exact LeO.none _
      | refine LeO.ite ?_ ?_
      | refine LeO.bind ?_ (fun _ => ?_)
def laws_FnRingsOpen.T32 : Bool × List (List Nat × List Nat) := (true, [([], []), ([], []), ([0, 1], [0, 1]), ([], []), ([], []), ([3, 4], [3, 4]), ([2, 5], [2, 5]), ([], []), ([6, 7], [6, 7])])
def laws_FnRingsOpen.B32 : List Nat := [0, 0, 3, 0, 0, 24, 63, 0, 255]
theorem laws_FnRingsOpen.tab32 : rtab .any (opsOf Tryz.f5 32) = laws_FnRingsOpen.T32 := by kernel_rfl
theorem laws_FnRingsOpen.bits32 : waitsOk laws_FnRingsOpen.T32.2 laws_FnRingsOpen.B32 = true := by kernel_rfl
def laws_FnRingsOpen.T68 : Bool × List (List Nat × List Nat) := (true, [([], []), ([], []), ([], []), ([1, 2], [1, 2]), ([0, 3], [0, 3]), ([4], [4]), ([5], [5]), ([5], [5]), ([6, 4, 0, 1, 2, 3, 4, 5, 6], [6]), ([7, 8, 0, 1, 2, 3, 4, 5, 6, 7, 8], [7])])
def laws_FnRingsOpen.B68 : List Nat := [0, 0, 0, 6, 15, 31, 63, 63, 127, 511]
theorem laws_FnRingsOpen.tab68 : rtab .any (opsOf Tryz.f5 68) = laws_FnRingsOpen.T68 := by kernel_rfl
theorem laws_FnRingsOpen.bits68 : waitsOk laws_FnRingsOpen.T68.2 laws_FnRingsOpen.B68 = true := by kernel_rfl
def laws_FnRingsOpen.T69 : Bool × List (List Nat × List Nat) := (true, [([], []), ([], []), ([], []), ([2], [2]), ([1, 3], [1, 3]), ([0, 4], [0, 4]), ([5], [5]), ([6], [6]), ([6], [6]), ([7, 5, 0, 1, 2, 3, 4, 5, 6, 7], [7]), ([8, 9, 0, 1, 2, 3, 4, 5, 6, 7, 8, 9], [8])])
def laws_FnRingsOpen.B69 : List Nat := [0, 0, 0, 4, 14, 31, 63, 127, 127, 255, 1023]
theorem laws_FnRingsOpen.tab69 : rtab .any (opsOf Tryz.f5 69) = laws_FnRingsOpen.T69 := by kernel_rfl
theorem laws_FnRingsOpen.bits69 : waitsOk laws_FnRingsOpen.T69.2 laws_FnRingsOpen.B69 = true := by kernel_rfl
set_option maxHeartbeats 8000000 in
set_option maxRecDepth 100000 in
theorem laws_FnRingsOpen.calls (k : Nat) (A0 : Option Addr) (c0 : Nat) (l0 : List Int) (A1 : Option Addr) (c1 : Nat) (l1 : List Int) (r : Bool) (w : World) (hr0 : Kd.C (Kd.int .u8) w A0 l0.length l0) (hc0 : l0.length ≤ c0) (hr1 : Kd.C (Kd.int .u8) w A1 l1.length l1) (hc1 : l1.length ≤ c1) (hG : strings_Index.Gl w) (h : laws_FnRingsOpen.f k l0 l1 = some r) (hr_ : r = true := by rfl) :
    Calls Tryz.prog 5 #[.slice A0 l0.length c0, .slice A1 l1.length c1] w fun e w' => e = .returned (.bool r) ∧ Below w.heap.size w w' := by
  have HRT := Aside0.mk hr_
  clear hr_
  have HG := Aside0.mk hG
  clear hG
  have hu23 := Tryz.underlying23
  have HR0 := Aside0.mk hr0
  have HC0 := Aside0.mk hc0
  clear hr0 hc0
  have HR1 := Aside0.mk hr1
  have HC1 := Aside0.mk hc1
  clear hr1 hc1
  have HB := Aside0.mk (Below.refl w.heap.size w)
  have H : ((laws_big.f l0 l1).bind fun t954 => (if t954 = true then (some true) else ((spec_DrawLeastRing.f l0).bind fun bt955 => ((impl_LeastRing.f k bt955.1 bt955.2).bind fun bt958 => ((spec_LeastRing.f k bt955.1 bt955.2).bind fun bt960 => ((impl_GreatestRing.f k bt955.1 bt955.2).bind fun bt962 => ((spec_GreatestRing.f k bt955.1 bt955.2).bind fun bt964 => ((impl_LeastWords.f k bt955.1 bt955.2).bind fun bt966 => ((spec_LeastWords.f k bt955.1 bt955.2).bind fun bt970 => ((impl_OpeningText.f k bt955.1 bt955.2).bind fun bt974 => ((spec_OpeningText.f k bt955.1 bt955.2).bind fun bt976 => ((impl_CountRings.f k bt955.1 bt955.2).bind fun bt978 => ((spec_CountRings.f k bt955.1 bt955.2).bind fun bt980 => (if (bt958.2 != bt960.2) = true then (laws_FnRingsOpen.j0 k l1 bt958.1 bt958.2 bt962.1 bt966.1 bt974.1 true bt955.1 bt955.2) else (if bt958.1.toList = bt960.1.toList then (if (bt962.2 != bt964.2) = true then (laws_FnRingsOpen.j0 k l1 bt958.1 bt958.2 bt962.1 bt966.1 bt974.1 true bt955.1 bt955.2) else (if bt962.1.toList = bt964.1.toList then (if (bt966.2 != bt970.2) = true then (laws_FnRingsOpen.j0 k l1 bt958.1 bt958.2 bt962.1 bt966.1 bt974.1 true bt955.1 bt955.2) else ((laws_eTexts.f k bt966.1 bt970.1).bind fun t982 => (if t982 = true then (if (bt974.2 != bt976.2) = true then (laws_FnRingsOpen.j0 k l1 bt958.1 bt958.2 bt962.1 bt966.1 bt974.1 true bt955.1 bt955.2) else (if bt974.1.toList = bt976.1.toList then (if (bt978.2 != bt980.2) = true then (laws_FnRingsOpen.j0 k l1 bt958.1 bt958.2 bt962.1 bt966.1 bt974.1 true bt955.1 bt955.2) else (if bt978.1 = bt980.1 then (if (bt962.2 != bt958.2) = true then (laws_FnRingsOpen.j0 k l1 bt958.1 bt958.2 bt962.1 bt966.1 bt974.1 true bt955.1 bt955.2) else (if (bt966.2 != bt958.2) = true then (laws_FnRingsOpen.j0 k l1 bt958.1 bt958.2 bt962.1 bt966.1 bt974.1 true bt955.1 bt955.2) else (if (bt974.2 != bt958.2) = true then (laws_FnRingsOpen.j0 k l1 bt958.1 bt958.2 bt962.1 bt966.1 bt974.1 true bt955.1 bt955.2) else (if bt978.2 = true then (laws_FnRingsOpen.j0 k l1 bt958.1 bt958.2 bt962.1 bt966.1 bt974.1 (!bt958.2) bt955.1 bt955.2) else (laws_FnRingsOpen.j0 k l1 bt958.1 bt958.2 bt962.1 bt966.1 bt974.1 false bt955.1 bt955.2))))) else (laws_FnRingsOpen.j0 k l1 bt958.1 bt958.2 bt962.1 bt966.1 bt974.1 true bt955.1 bt955.2))) else (laws_FnRingsOpen.j0 k l1 bt958.1 bt958.2 bt962.1 bt966.1 bt974.1 true bt955.1 bt955.2))) else (laws_FnRingsOpen.j0 k l1 bt958.1 bt958.2 bt962.1 bt966.1 bt974.1 true bt955.1 bt955.2)))) else (laws_FnRingsOpen.j0 k l1 bt958.1 bt958.2 bt962.1 bt966.1 bt974.1 true bt955.1 bt955.2))) else (laws_FnRingsOpen.j0 k l1 bt958.1 bt958.2 bt962.1 bt966.1 bt974.1 true bt955.1 bt955.2)))))))))))))))) = some r := h
  clear h
  replace H := Option.bind_eq_some_iff.mp H
  obtain ⟨t954, A30, H⟩ := H
  try dsimp only at H
  have A3 := Aside0.mk A30
  clear A30
  by_cases c4 : t954 = true
  · subst c4
    rw [if_pos rfl] at H
    obtain rfl := Option.some.inj H
    go_enter Tryz.func5, Tryz.ntmps5
    go_wp2_with (first | ((with_reducible refine gate_callee (f := 28) rfl ?_); refine goesL_ (some 77) rfl rfl Tryz.func28 (by kernel_rfl) rfl #[.slice A0 l0.length c0, .slice A1 l1.length c1] rfl (by (try simp only [m_1, m_2, m_3]); first | done | rfl | (simp only [m_4, m_5]; rfl)) ?_; (with_reducible refine (laws_big.calls _ _ l0 _ _ l1 true _ ?side1 ?side2 ?side3 ?side4 A3.out).mono ?_); (case side1 => repeat (first | exact HR0.out | (with_reducible refine Kd.C_alloc ?_ _) | (with_reducible refine Kd.C_drewN ?_ _) | (with_reducible refine Kd.C_drew ?_))); (case side2 => exact HC0.out); (case side3 => repeat (first | exact HR1.out | (with_reducible refine Kd.C_alloc ?_ _) | (with_reducible refine Kd.C_drewN ?_ _) | (with_reducible refine Kd.C_drew ?_))); (case side4 => exact HC1.out); rintro e w' ⟨rfl, ⟨nd, rfl⟩⟩; refine ⟨_, rfl, ?_⟩))
    go_ret
    exact ⟨by first | rfl | (simp [errW_none, errW_some] <;> rfl) | (simp [*, errW_none, errW_some] <;> rfl), bB HB⟩
  replace c4 := Bool.eq_false_iff.mpr c4
  subst c4
  rw [if_neg (show ¬ (false = true) by decide)] at H
  replace H := Option.bind_eq_some_iff.mp H
  obtain ⟨⟨t955, t956⟩, A50, H⟩ := H
  try dsimp only at H
  have A5 := Aside0.mk A50
  clear A50
  replace H := Option.bind_eq_some_iff.mp H
  obtain ⟨⟨t958, t959⟩, A60, H⟩ := H
  try dsimp only at H
  have A6 := Aside0.mk A60
  clear A60
  replace H := Option.bind_eq_some_iff.mp H
  obtain ⟨⟨t960, t961⟩, A70, H⟩ := H
  try dsimp only at H
  have A7 := Aside0.mk A70
  clear A70
  replace H := Option.bind_eq_some_iff.mp H
  obtain ⟨⟨t962, t963⟩, A80, H⟩ := H
  try dsimp only at H
  have A8 := Aside0.mk A80
  clear A80
  replace H := Option.bind_eq_some_iff.mp H
  obtain ⟨⟨t964, t965⟩, A90, H⟩ := H
  try dsimp only at H
  have A9 := Aside0.mk A90
  clear A90
  replace H := Option.bind_eq_some_iff.mp H
  obtain ⟨⟨t966, t969⟩, A100, H⟩ := H
  try dsimp only at H
  have A10 := Aside0.mk A100
  clear A100
  replace H := Option.bind_eq_some_iff.mp H
  obtain ⟨⟨t970, t973⟩, A110, H⟩ := H
  try dsimp only at H
  have A11 := Aside0.mk A110
  clear A110
  replace H := Option.bind_eq_some_iff.mp H
  obtain ⟨⟨t974, t975⟩, A120, H⟩ := H
  try dsimp only at H
  have A12 := Aside0.mk A120
  clear A120
  replace H := Option.bind_eq_some_iff.mp H
  obtain ⟨⟨t976, t977⟩, A130, H⟩ := H
  try dsimp only at H
  have A13 := Aside0.mk A130
  clear A130
  replace H := Option.bind_eq_some_iff.mp H
  obtain ⟨⟨t978, t979⟩, A140, H⟩ := H
  try dsimp only at H
  have A14 := Aside0.mk A140
  clear A140
  replace H := Option.bind_eq_some_iff.mp H
  obtain ⟨⟨t980, t981⟩, A150, H⟩ := H
  try dsimp only at H
  have A15 := Aside0.mk A150
  clear A150
  have HC16 := Aside0.mk H
  clear H
  go_enter Tryz.func5, Tryz.ntmps5
  go_upto_region 14 with (first | ((with_reducible refine gate_callee (f := 28) rfl ?_); refine goesL_ (some 77) rfl rfl Tryz.func28 (by kernel_rfl) rfl #[.slice A0 l0.length c0, .slice A1 l1.length c1] rfl (by (try simp only [m_1, m_2, m_3]); first | done | rfl | (simp only [m_4, m_5]; rfl)) ?_; (with_reducible refine (laws_big.calls _ _ l0 _ _ l1 false _ ?side1 ?side2 ?side3 ?side4 A3.out).mono ?_); (case side1 => repeat (first | exact HR0.out | (with_reducible refine Kd.C_alloc ?_ _) | (with_reducible refine Kd.C_drewN ?_ _) | (with_reducible refine Kd.C_drew ?_))); (case side2 => exact HC0.out); (case side3 => repeat (first | exact HR1.out | (with_reducible refine Kd.C_alloc ?_ _) | (with_reducible refine Kd.C_drewN ?_ _) | (with_reducible refine Kd.C_drew ?_))); (case side4 => exact HC1.out); rintro e w' ⟨rfl, ⟨nd, rfl⟩⟩; refine ⟨_, rfl, ?_⟩) | ((with_reducible refine gate_callee (f := 46) rfl ?_); refine goesL_ (some 79) rfl rfl Tryz.func46 (by kernel_rfl) rfl #[.slice A0 l0.length c0] rfl (by (try simp only [m_1, m_2, m_3]); first | done | rfl | (simp only [m_4, m_5]; rfl)) ?_; (with_reducible refine (spec_DrawLeastRing.calls _ _ l0 t955 t956 _ ?side1 ?side2 A5.out).mono ?_); (case side1 => repeat (first | exact HR0.out | (with_reducible refine Kd.C_alloc ?_ _) | (with_reducible refine Kd.C_drewN ?_ _) | (with_reducible refine Kd.C_drew ?_))); (case side2 => exact HC0.out); rintro e w17 ⟨rfl, hb⟩; refine ⟨_, rfl, ?_⟩; replace HB := bsx hb HB; skip; (try clear hb); (try clear hb2); (try clear hk); (try clear hi)) | ((with_reducible refine gate_dst (N := 5) rfl ?_); (try (refine gate_guard (by rfl) ?_; dsimp only)); refine box_event ?hg (N := 5) ?hd (cs := #[.int .i64 0, .int .i64 0]) (t := 23) ?hr ?_; (case hd => rfl); (case hg => rfl); (case hr => first | (go_simp; done) | (go_simp; rfl)); intro gb957 hg w18 hbox hb; have n0_ := bsx hb HB; have n1_ := Aside0.mk (hbox); have n2_ := gwx hg HB; have n3_ := n2_; clear HB; have HB := n0_; have BK957 := n1_; have GW957 := n2_; have GE957 := n3_; clear n0_ n1_ n2_ n3_; clear hb hbox hg; have hcz19_0 := cz0 BK957; have hcz19_1 := cz1 BK957; have hfz19_0 := blk_frozen BK957.out 0; have hfz19_1 := blk_frozen BK957.out 1) | ((with_reducible refine gate_callee (f := 6) rfl ?_); refine goesL_ (some 82) rfl rfl Tryz.func6 (by kernel_rfl) rfl #[.agg #[.int .i64 t955, .int .i64 t956]] rfl (by (try simp only [m_1, m_2, m_3]); first | done | rfl | (simp only [m_4, m_5]; rfl)) ?_; (with_reducible refine (impl_LeastRing.calls k t955 t956 t958 t959 _ A6.out).mono ?_); rintro e w20 ⟨rfl, hb⟩; refine ⟨_, rfl, ?_⟩; have n0_ := Aside0.mk (blk_below (g := gb957) (o := .cells #[.int .i64 t955, .int .i64 t956] 23 (0, 0)) (by (with_reducible repeat (first | refine g_d ?_ _ | refine g_e ?_ | refine g_a ?_ _)); refine blk_put (cs := #[.int .i64 t955, .int .i64 0]) ?_ 1 _ rfl; (with_reducible repeat (first | refine g_d ?_ _ | refine g_e ?_ | refine g_a ?_ _)); refine blk_put (cs := #[.int .i64 0, .int .i64 0]) ?_ 0 _ rfl; (with_reducible repeat (first | refine g_d ?_ _ | refine g_e ?_ | refine g_a ?_ _)); exact BK957.out) hb); replace HB := bsx hb HB; clear BK957; have BK957 := n0_; clear n0_; (try clear hb); (try clear hb2); (try clear hk); (try clear hi); have hcz21_0 := cz0 BK957; have hcz21_1 := cz1 BK957; have hfz21_0 := blk_frozen BK957.out 0; have hfz21_1 := blk_frozen BK957.out 1) | ((with_reducible refine gate_callee (f := 7) rfl ?_); refine goesL_ (some 87) rfl rfl Tryz.func7 (by kernel_rfl) rfl #[.agg #[.int .i64 t955, .int .i64 t956]] rfl (by (try simp only [m_1, m_2, m_3]); first | done | rfl | (simp only [m_4, m_5]; rfl)) ?_; (with_reducible refine (spec_LeastRing.calls k t955 t956 t960 t961 _ A7.out).mono ?_); rintro e w22 ⟨rfl, hb⟩; refine ⟨_, rfl, ?_⟩; replace BK957 := bbx hb BK957; replace HB := bsx hb HB; skip; (try clear hb); (try clear hb2); (try clear hk); (try clear hi); have hcz23_0 := cz0 BK957; have hcz23_1 := cz1 BK957; have hfz23_0 := blk_frozen BK957.out 0; have hfz23_1 := blk_frozen BK957.out 1) | ((with_reducible refine gate_callee (f := 8) rfl ?_); refine goesL_ (some 92) rfl rfl Tryz.func8 (by kernel_rfl) rfl #[.agg #[.int .i64 t955, .int .i64 t956]] rfl (by (try simp only [m_1, m_2, m_3]); first | done | rfl | (simp only [m_4, m_5]; rfl)) ?_; (with_reducible refine (impl_GreatestRing.calls k t955 t956 t962 t963 _ A8.out).mono ?_); rintro e w24 ⟨rfl, hb⟩; refine ⟨_, rfl, ?_⟩; replace BK957 := bbx hb BK957; replace HB := bsx hb HB; skip; (try clear hb); (try clear hb2); (try clear hk); (try clear hi); have hcz25_0 := cz0 BK957; have hcz25_1 := cz1 BK957; have hfz25_0 := blk_frozen BK957.out 0; have hfz25_1 := blk_frozen BK957.out 1) | ((with_reducible refine gate_callee (f := 9) rfl ?_); refine goesL_ (some 97) rfl rfl Tryz.func9 (by kernel_rfl) rfl #[.agg #[.int .i64 t955, .int .i64 t956]] rfl (by (try simp only [m_1, m_2, m_3]); first | done | rfl | (simp only [m_4, m_5]; rfl)) ?_; (with_reducible refine (spec_GreatestRing.calls k t955 t956 t964 t965 _ A9.out).mono ?_); rintro e w26 ⟨rfl, hb⟩; refine ⟨_, rfl, ?_⟩; replace BK957 := bbx hb BK957; replace HB := bsx hb HB; skip; (try clear hb); (try clear hb2); (try clear hk); (try clear hi); have hcz27_0 := cz0 BK957; have hcz27_1 := cz1 BK957; have hfz27_0 := blk_frozen BK957.out 0; have hfz27_1 := blk_frozen BK957.out 1) | ((with_reducible refine gate_callee (f := 10) rfl ?_); refine goesL_ (some 102) rfl rfl Tryz.func10 (by kernel_rfl) rfl #[.agg #[.int .i64 t955, .int .i64 t956]] rfl (by (try simp only [m_1, m_2, m_3]); first | done | rfl | (simp only [m_4, m_5]; rfl)) ?_; (with_reducible refine (impl_LeastWords.calls k t955 t956 t966 t969 _ A10.out).mono ?_); rintro e w28 ⟨v967, rfl, ho0, hb⟩; refine ⟨_, rfl, ?_⟩; have n0_ := Aside0.mk (Kd.R_lower ho0 (below_size (bB HB))); replace BK957 := bbx hb BK957; have n2_ := bsx hb HB; clear HB; have HO968 := n0_; have HB := n2_; clear n0_ n2_; (try clear hb); (try clear hb2); (try clear hk); (try clear hi); (try clear ho0); have hcz29_0 := cz0 BK957; have hcz29_1 := cz1 BK957; have hfz29_0 := blk_frozen BK957.out 0; have hfz29_1 := blk_frozen BK957.out 1) | ((with_reducible refine gate_callee (f := 11) rfl ?_); refine goesL_ (some 107) rfl rfl Tryz.func11 (by kernel_rfl) rfl #[.agg #[.int .i64 t955, .int .i64 t956]] rfl (by (try simp only [m_1, m_2, m_3]); first | done | rfl | (simp only [m_4, m_5]; rfl)) ?_; (with_reducible refine (spec_LeastWords.calls k t955 t956 t970 t973 _ A11.out).mono ?_); rintro e w30 ⟨v971, rfl, ho0, hb⟩; refine ⟨_, rfl, ?_⟩; have n0_ := Aside0.mk (Kd.R_elder' (by (with_reducible repeat (first | apply r_a | apply r_d | apply r_e)); exact HO968.out) (Kd.R_base ho0) hb); have n1_ := Aside0.mk (Kd.R_lower (Kd.R_new' ho0 (Kd.R_lt (by (with_reducible repeat (first | apply r_a | apply r_d | apply r_e)); exact HO968.out))) (below_size (bB HB))); replace BK957 := bbx hb BK957; have n3_ := bsx hb HB; clear HO968; clear HB; have HO968 := n0_; have HO972 := n1_; have HB := n3_; clear n0_ n1_ n3_; (try clear hb); (try clear hb2); (try clear hk); (try clear hi); (try clear ho0); have hcz31_0 := cz0 BK957; have hcz31_1 := cz1 BK957; have hfz31_0 := blk_frozen BK957.out 0; have hfz31_1 := blk_frozen BK957.out 1) | ((with_reducible refine gate_callee (f := 12) rfl ?_); refine goesL_ (some 112) rfl rfl Tryz.func12 (by kernel_rfl) rfl #[.agg #[.int .i64 t955, .int .i64 t956]] rfl (by (try simp only [m_1, m_2, m_3]); first | done | rfl | (simp only [m_4, m_5]; rfl)) ?_; (with_reducible refine (impl_OpeningText.calls k t955 t956 t974 t975 _ A12.out).mono ?_); rintro e w32 ⟨rfl, hb⟩; refine ⟨_, rfl, ?_⟩; have n0_ := Aside0.mk (Kd.R_below (by (with_reducible repeat (first | apply r_a | apply r_d | apply r_e)); exact HO968.out) hb); have n1_ := Aside0.mk (Kd.R_below (by (with_reducible repeat (first | apply r_a | apply r_d | apply r_e)); exact HO972.out) hb); replace BK957 := bbx hb BK957; replace HB := bsx hb HB; clear HO968; clear HO972; have HO968 := n0_; have HO972 := n1_; clear n0_ n1_; (try clear hb); (try clear hb2); (try clear hk); (try clear hi); have hcz33_0 := cz0 BK957; have hcz33_1 := cz1 BK957; have hfz33_0 := blk_frozen BK957.out 0; have hfz33_1 := blk_frozen BK957.out 1) | ((with_reducible refine gate_callee (f := 13) rfl ?_); refine goesL_ (some 117) rfl rfl Tryz.func13 (by kernel_rfl) rfl #[.agg #[.int .i64 t955, .int .i64 t956]] rfl (by (try simp only [m_1, m_2, m_3]); first | done | rfl | (simp only [m_4, m_5]; rfl)) ?_; (with_reducible refine (spec_OpeningText.calls k t955 t956 t976 t977 _ A13.out).mono ?_); rintro e w34 ⟨rfl, hb⟩; refine ⟨_, rfl, ?_⟩; have n0_ := Aside0.mk (Kd.R_below (by (with_reducible repeat (first | apply r_a | apply r_d | apply r_e)); exact HO968.out) hb); have n1_ := Aside0.mk (Kd.R_below (by (with_reducible repeat (first | apply r_a | apply r_d | apply r_e)); exact HO972.out) hb); replace BK957 := bbx hb BK957; replace HB := bsx hb HB; clear HO968; clear HO972; have HO968 := n0_; have HO972 := n1_; clear n0_ n1_; (try clear hb); (try clear hb2); (try clear hk); (try clear hi); have hcz35_0 := cz0 BK957; have hcz35_1 := cz1 BK957; have hfz35_0 := blk_frozen BK957.out 0; have hfz35_1 := blk_frozen BK957.out 1) | ((with_reducible refine gate_callee (f := 14) rfl ?_); refine goesL_ (some 122) rfl rfl Tryz.func14 (by kernel_rfl) rfl #[.agg #[.int .i64 t955, .int .i64 t956]] rfl (by (try simp only [m_1, m_2, m_3]); first | done | rfl | (simp only [m_4, m_5]; rfl)) ?_; (with_reducible refine (impl_CountRings.calls k t955 t956 t978 t979 _ A14.out).mono ?_); rintro e w36 ⟨rfl, hb⟩; refine ⟨_, rfl, ?_⟩; have n0_ := Aside0.mk (Kd.R_below (by (with_reducible repeat (first | apply r_a | apply r_d | apply r_e)); exact HO968.out) hb); have n1_ := Aside0.mk (Kd.R_below (by (with_reducible repeat (first | apply r_a | apply r_d | apply r_e)); exact HO972.out) hb); replace BK957 := bbx hb BK957; replace HB := bsx hb HB; clear HO968; clear HO972; have HO968 := n0_; have HO972 := n1_; clear n0_ n1_; (try clear hb); (try clear hb2); (try clear hk); (try clear hi); have hcz37_0 := cz0 BK957; have hcz37_1 := cz1 BK957; have hfz37_0 := blk_frozen BK957.out 0; have hfz37_1 := blk_frozen BK957.out 1) | ((with_reducible refine gate_callee (f := 15) rfl ?_); refine goesL_ (some 127) rfl rfl Tryz.func15 (by kernel_rfl) rfl #[.agg #[.int .i64 t955, .int .i64 t956]] rfl (by (try simp only [m_1, m_2, m_3]); first | done | rfl | (simp only [m_4, m_5]; rfl)) ?_; (with_reducible refine (spec_CountRings.calls k t955 t956 t980 t981 _ A15.out).mono ?_); rintro e w38 ⟨rfl, hb⟩; refine ⟨_, rfl, ?_⟩; have n0_ := Aside0.mk (Kd.R_below (by (with_reducible repeat (first | apply r_a | apply r_d | apply r_e)); exact HO968.out) hb); have n1_ := Aside0.mk (Kd.R_below (by (with_reducible repeat (first | apply r_a | apply r_d | apply r_e)); exact HO972.out) hb); replace BK957 := bbx hb BK957; replace HB := bsx hb HB; clear HO968; clear HO972; have HO968 := n0_; have HO972 := n1_; clear n0_ n1_; (try clear hb); (try clear hb2); (try clear hk); (try clear hi)))
  (try simp only [Act.put, s_1, s_2, s_3])
  go_cut [200] from 1 to 0 (fun v200 wc => ∃ (kq : Nat) (x200_15 : Bool), v200 = .bool x200_15 ∧ Aside0 (laws_FnRingsOpen.j0 kq l1 t958 t959 t962 t966 t974 x200_15 t955 t956 = some r) ∧ Aside0 (kq ≤ k) ∧ Aside0 (Kd.R Kd.string 9 wc w.heap.size (fun _ => True) v967 t966) ∧ Aside0 (wc.heap[gb957]? = some (.cells #[.int .i64 t955, .int .i64 t956] 23 (0, 0))) ∧ Aside0 (Below w.heap.size w wc))
  case first => as_aux_lemma =>
    have H := HC16.out
    clear HC16
    by_cases c39 : (t959 != t961) = true
    · rw [if_pos c39] at H
      have c39b0 : (t959 != t961) = true := c39
      (try (have c39b1 : decide (t959 = t961) = false := by simpa using c39))
      (try (have c39b2 : (t959 == t961) = false := by simpa using c39))
      (try (have c39b3 : ¬ (t959 = t961) := by simpa using c39))
      clear c39
      (first | rw [c39b0] | (simp only [i64_w, i32_w]; rw [c39b0]) | skip)
      rw [HRT.out] at H
      exact absurd H (by generalize k = q_; cases q_ <;> simp [laws_FnRingsOpen.j0])
    rw [if_neg c39] at H
    have c39b0 : (t959 != t961) = false := by simpa using c39
    (try (have c39b1 : decide (t959 = t961) = true := by simpa using c39))
    (try (have c39b2 : (t959 == t961) = true := by simpa using c39))
    clear c39
    (first | rw [c39b0] | (simp only [i64_w, i32_w]; rw [c39b0]) | skip)
    by_cases c40 : t958.toList = t960.toList
    rotate_left
    · rw [if_neg c40] at H
      have c40b0 : (t958.toList == t960.toList) = false := beq_eq_false_iff_ne.mpr c40
      have c40b1 : (t958.toList != t960.toList) = true := bne_iff_ne.mpr c40
      rw [HRT.out] at H
      exact absurd H (by generalize k = q_; cases q_ <;> simp [laws_FnRingsOpen.j0])
    rw [if_pos c40] at H
    have c40b0 : (t958.toList == t960.toList) = true := beq_iff_eq.mpr c40
    have c40b1 : (t958.toList != t960.toList) = false := bne_eq_false_iff_eq.mpr c40
    clear c40
    by_cases c41 : (t963 != t965) = true
    · rw [if_pos c41] at H
      have c41b0 : (t963 != t965) = true := c41
      (try (have c41b1 : decide (t963 = t965) = false := by simpa using c41))
      (try (have c41b2 : (t963 == t965) = false := by simpa using c41))
      (try (have c41b3 : ¬ (t963 = t965) := by simpa using c41))
      clear c41
      rw [HRT.out] at H
      exact absurd H (by generalize k = q_; cases q_ <;> simp [laws_FnRingsOpen.j0])
    rw [if_neg c41] at H
    have c41b0 : (t963 != t965) = false := by simpa using c41
    (try (have c41b1 : decide (t963 = t965) = true := by simpa using c41))
    (try (have c41b2 : (t963 == t965) = true := by simpa using c41))
    clear c41
    by_cases c42 : t962.toList = t964.toList
    rotate_left
    · rw [if_neg c42] at H
      have c42b0 : (t962.toList == t964.toList) = false := beq_eq_false_iff_ne.mpr c42
      have c42b1 : (t962.toList != t964.toList) = true := bne_iff_ne.mpr c42
      rw [HRT.out] at H
      exact absurd H (by generalize k = q_; cases q_ <;> simp [laws_FnRingsOpen.j0])
    rw [if_pos c42] at H
    have c42b0 : (t962.toList == t964.toList) = true := beq_iff_eq.mpr c42
    have c42b1 : (t962.toList != t964.toList) = false := bne_eq_false_iff_eq.mpr c42
    clear c42
    by_cases c43 : (t969 != t973) = true
    · rw [if_pos c43] at H
      have c43b0 : (t969 != t973) = true := c43
      (try (have c43b1 : decide (t969 = t973) = false := by simpa using c43))
      (try (have c43b2 : (t969 == t973) = false := by simpa using c43))
      (try (have c43b3 : ¬ (t969 = t973) := by simpa using c43))
      clear c43
      rw [HRT.out] at H
      exact absurd H (by generalize k = q_; cases q_ <;> simp [laws_FnRingsOpen.j0])
    rw [if_neg c43] at H
    have c43b0 : (t969 != t973) = false := by simpa using c43
    (try (have c43b1 : decide (t969 = t973) = true := by simpa using c43))
    (try (have c43b2 : (t969 == t973) = true := by simpa using c43))
    clear c43
    replace H := Option.bind_eq_some_iff.mp H
    obtain ⟨t982, A440, H⟩ := H
    try dsimp only at H
    have A44 := Aside0.mk A440
    clear A440
    by_cases c45 : t982 = true
    rotate_left
    · replace c45 := Bool.eq_false_iff.mpr c45
      subst c45
      rw [if_neg (show ¬ (false = true) by decide)] at H
      rw [HRT.out] at H
      exact absurd H (by generalize k = q_; cases q_ <;> simp [laws_FnRingsOpen.j0])
    subst c45
    rw [if_pos rfl] at H
    by_cases c46 : (t975 != t977) = true
    · rw [if_pos c46] at H
      have c46b0 : (t975 != t977) = true := c46
      (try (have c46b1 : decide (t975 = t977) = false := by simpa using c46))
      (try (have c46b2 : (t975 == t977) = false := by simpa using c46))
      (try (have c46b3 : ¬ (t975 = t977) := by simpa using c46))
      clear c46
      rw [HRT.out] at H
      exact absurd H (by generalize k = q_; cases q_ <;> simp [laws_FnRingsOpen.j0])
    rw [if_neg c46] at H
    have c46b0 : (t975 != t977) = false := by simpa using c46
    (try (have c46b1 : decide (t975 = t977) = true := by simpa using c46))
    (try (have c46b2 : (t975 == t977) = true := by simpa using c46))
    clear c46
    by_cases c47 : t974.toList = t976.toList
    rotate_left
    · rw [if_neg c47] at H
      have c47b0 : (t974.toList == t976.toList) = false := beq_eq_false_iff_ne.mpr c47
      have c47b1 : (t974.toList != t976.toList) = true := bne_iff_ne.mpr c47
      rw [HRT.out] at H
      exact absurd H (by generalize k = q_; cases q_ <;> simp [laws_FnRingsOpen.j0])
    rw [if_pos c47] at H
    have c47b0 : (t974.toList == t976.toList) = true := beq_iff_eq.mpr c47
    have c47b1 : (t974.toList != t976.toList) = false := bne_eq_false_iff_eq.mpr c47
    clear c47
    by_cases c48 : (t979 != t981) = true
    · rw [if_pos c48] at H
      have c48b0 : (t979 != t981) = true := c48
      (try (have c48b1 : decide (t979 = t981) = false := by simpa using c48))
      (try (have c48b2 : (t979 == t981) = false := by simpa using c48))
      (try (have c48b3 : ¬ (t979 = t981) := by simpa using c48))
      clear c48
      rw [HRT.out] at H
      exact absurd H (by generalize k = q_; cases q_ <;> simp [laws_FnRingsOpen.j0])
    rw [if_neg c48] at H
    have c48b0 : (t979 != t981) = false := by simpa using c48
    (try (have c48b1 : decide (t979 = t981) = true := by simpa using c48))
    (try (have c48b2 : (t979 == t981) = true := by simpa using c48))
    clear c48
    by_cases c49 : t978 = t980
    rotate_left
    · rw [if_neg c49] at H
      have c49b0 : (t978 == t980) = false := beq_eq_false_iff_ne.mpr c49
      have c49b1 : (t978 != t980) = true := bne_iff_ne.mpr c49
      rw [HRT.out] at H
      exact absurd H (by generalize k = q_; cases q_ <;> simp [laws_FnRingsOpen.j0])
    rw [if_pos c49] at H
    have c49b0 : (t978 == t980) = true := beq_iff_eq.mpr c49
    have c49b1 : (t978 != t980) = false := bne_eq_false_iff_eq.mpr c49
    clear c49
    by_cases c50 : (t963 != t959) = true
    · rw [if_pos c50] at H
      have c50b0 : (t963 != t959) = true := c50
      (try (have c50b1 : decide (t963 = t959) = false := by simpa using c50))
      (try (have c50b2 : (t963 == t959) = false := by simpa using c50))
      (try (have c50b3 : ¬ (t963 = t959) := by simpa using c50))
      clear c50
      rw [HRT.out] at H
      exact absurd H (by generalize k = q_; cases q_ <;> simp [laws_FnRingsOpen.j0])
    rw [if_neg c50] at H
    have c50b0 : (t963 != t959) = false := by simpa using c50
    (try (have c50b1 : decide (t963 = t959) = true := by simpa using c50))
    (try (have c50b2 : (t963 == t959) = true := by simpa using c50))
    clear c50
    by_cases c51 : (t969 != t959) = true
    · rw [if_pos c51] at H
      have c51b0 : (t969 != t959) = true := c51
      (try (have c51b1 : decide (t969 = t959) = false := by simpa using c51))
      (try (have c51b2 : (t969 == t959) = false := by simpa using c51))
      (try (have c51b3 : ¬ (t969 = t959) := by simpa using c51))
      clear c51
      rw [HRT.out] at H
      exact absurd H (by generalize k = q_; cases q_ <;> simp [laws_FnRingsOpen.j0])
    rw [if_neg c51] at H
    have c51b0 : (t969 != t959) = false := by simpa using c51
    (try (have c51b1 : decide (t969 = t959) = true := by simpa using c51))
    (try (have c51b2 : (t969 == t959) = true := by simpa using c51))
    clear c51
    by_cases c52 : (t975 != t959) = true
    · rw [if_pos c52] at H
      have c52b0 : (t975 != t959) = true := c52
      (try (have c52b1 : decide (t975 = t959) = false := by simpa using c52))
      (try (have c52b2 : (t975 == t959) = false := by simpa using c52))
      (try (have c52b3 : ¬ (t975 = t959) := by simpa using c52))
      clear c52
      rw [HRT.out] at H
      exact absurd H (by generalize k = q_; cases q_ <;> simp [laws_FnRingsOpen.j0])
    rw [if_neg c52] at H
    have c52b0 : (t975 != t959) = false := by simpa using c52
    (try (have c52b1 : decide (t975 = t959) = true := by simpa using c52))
    (try (have c52b2 : (t975 == t959) = true := by simpa using c52))
    clear c52
    by_cases c53 : t979 = true
    · subst c53
      rw [if_pos rfl] at H
      have H' := Aside0.mk H
      clear H
      obtain ⟨Ao54, co54, eo54⟩ := Kd.R_slice HO968.out
      subst eo54
      obtain ⟨Ao55, co55, eo55⟩ := Kd.R_slice HO972.out
      subst eo55
      go_wp2_with (first | (go_at_call 16; (with_reducible refine (laws_eTexts.calls k _ _ t966 _ _ t970 true _ ?side1 ?side2 ?side3 ?side4 A44.out).mono ?_); (case side1 => repeat (first | exact (Kd.R_reads' HO968.out).2.2 | (with_reducible refine Kd.C_alloc ?_ _) | (with_reducible refine Kd.C_drewN ?_ _) | (with_reducible refine Kd.C_drew ?_))); (case side2 => exact (Kd.R_reads' HO968.out).2.1); (case side3 => repeat (first | exact (Kd.R_reads' HO972.out).2.2 | (with_reducible refine Kd.C_alloc ?_ _) | (with_reducible refine Kd.C_drewN ?_ _) | (with_reducible refine Kd.C_drew ?_))); (case side4 => exact (Kd.R_reads' HO972.out).2.1); rintro e w' ⟨rfl, ⟨nd, rfl⟩⟩))
      go_meet
      case rel => exact ⟨_, (!t959), (by first | rfl | (simp; done) | (simp [*]; done)), H', ⟨by first | omega | exact Nat.le_refl _⟩, ⟨by (with_reducible repeat (first | apply r_a | apply r_d | apply r_e)); exact Kd.R_mono HO968.out (fun _ hk => trivial)⟩, ⟨bK BK957⟩, ⟨bB HB⟩⟩
    replace c53 := Bool.eq_false_iff.mpr c53
    subst c53
    rw [if_neg (show ¬ (false = true) by decide)] at H
    have H' := Aside0.mk H
    clear H
    obtain ⟨Ao56, co56, eo56⟩ := Kd.R_slice HO968.out
    subst eo56
    obtain ⟨Ao57, co57, eo57⟩ := Kd.R_slice HO972.out
    subst eo57
    go_wp2_with (first | (go_at_call 16; (with_reducible refine (laws_eTexts.calls k _ _ t966 _ _ t970 true _ ?side1 ?side2 ?side3 ?side4 A44.out).mono ?_); (case side1 => repeat (first | exact (Kd.R_reads' HO968.out).2.2 | (with_reducible refine Kd.C_alloc ?_ _) | (with_reducible refine Kd.C_drewN ?_ _) | (with_reducible refine Kd.C_drew ?_))); (case side2 => exact (Kd.R_reads' HO968.out).2.1); (case side3 => repeat (first | exact (Kd.R_reads' HO972.out).2.2 | (with_reducible refine Kd.C_alloc ?_ _) | (with_reducible refine Kd.C_drewN ?_ _) | (with_reducible refine Kd.C_drew ?_))); (case side4 => exact (Kd.R_reads' HO972.out).2.1); rintro e w' ⟨rfl, ⟨nd, rfl⟩⟩))
    go_meet
    case rel => exact ⟨_, (false), (by first | rfl | (simp; done) | (simp [*]; done)), H', ⟨by first | omega | exact Nat.le_refl _⟩, ⟨by (with_reducible repeat (first | apply r_a | apply r_d | apply r_e)); exact Kd.R_mono HO968.out (fun _ hk => trivial)⟩, ⟨bK BK957⟩, ⟨bB HB⟩⟩
  clear HC16
  try clear c1
  try clear c4
  try clear hcz19_0
  try clear hcz19_1
  try clear hcz21_0
  try clear hcz21_1
  try clear hcz23_0
  try clear hcz23_1
  try clear hcz25_0
  try clear hcz25_1
  try clear hcz27_0
  try clear hcz27_1
  try clear hcz29_0
  try clear hcz29_1
  try clear hcz31_0
  try clear hcz31_1
  try clear hcz33_0
  try clear hcz33_1
  try clear hcz35_0
  try clear hcz35_1
  try clear hcz37_0
  try clear hcz37_1
  try clear hfz19_0
  try clear hfz19_1
  try clear hfz21_0
  try clear hfz21_1
  try clear hfz23_0
  try clear hfz23_1
  try clear hfz25_0
  try clear hfz25_1
  try clear hfz27_0
  try clear hfz27_1
  try clear hfz29_0
  try clear hfz29_1
  try clear hfz31_0
  try clear hfz31_1
  try clear hfz33_0
  try clear hfz33_1
  try clear hfz35_0
  try clear hfz35_1
  try clear hfz37_0
  try clear hfz37_1
  obtain ⟨kq, x200_15, rfl, HA, HJ15, HO_14, BK957, HB⟩ := hcut
  rcases kq with _ | kj15
  · exact absurd HA.out (by simp [laws_FnRingsOpen.j0])
  have H := HA.out
  clear HA
  simp only [laws_FnRingsOpen.j0] at H
  by_cases c58 : x200_15 = true
  · subst c58
    rw [if_pos rfl] at H
    rw [HRT.out] at H
    exact absurd H (by simp)
  replace c58 := Bool.eq_false_iff.mpr c58
  subst c58
  rw [if_neg (show ¬ (false = true) by decide)] at H
  have HC59 := Aside0.mk H
  clear H
  go_upto_if 201 with (fail)
  go_cut [] from 1 to 0 (fun wc => ∃ (kq : Nat), Aside0 (laws_FnRingsOpen.j4 kq l1 = some r) ∧ Aside0 (kq ≤ kj15) ∧ Aside0 (wc.heap[gb957]? = some (.cells #[.int .i64 t955, .int .i64 t956] 23 (0, 0))) ∧ Aside0 (Below w.heap.size w wc))
  case first => as_aux_lemma =>
    have H := HC59.out
    clear HC59
    by_cases c60 : t959 = true
    rotate_left
    · replace c60 := Bool.eq_false_iff.mpr c60
      subst c60
      rw [if_neg (show ¬ (false = true) by decide)] at H
      have H' := Aside0.mk H
      clear H
      go_wp2
      go_meet
      case rel => exact ⟨_, H', ⟨by have := HJ15.out; first | omega | exact Nat.le_refl _⟩, ⟨bK BK957⟩, ⟨bB HB⟩⟩
    subst c60
    rw [if_pos rfl] at H
    replace H := Option.bind_eq_some_iff.mp H
    obtain ⟨⟨t983, t984⟩, A610, H⟩ := H
    try dsimp only at H
    have A61 := Aside0.mk A610
    clear A610
    replace H := Option.bind_eq_some_iff.mp H
    obtain ⟨⟨t985, t986⟩, A620, H⟩ := H
    try dsimp only at H
    have A62 := Aside0.mk A620
    clear A620
    replace H := Option.bind_eq_some_iff.mp H
    obtain ⟨⟨t987, t988⟩, A630, H⟩ := H
    try dsimp only at H
    have A63 := Aside0.mk A630
    clear A630
    replace H := Option.bind_eq_some_iff.mp H
    obtain ⟨⟨t989, t990⟩, A640, H⟩ := H
    try dsimp only at H
    have A64 := Aside0.mk A640
    clear A640
    replace H := Option.bind_eq_some_iff.mp H
    obtain ⟨⟨t991, t992⟩, A650, H⟩ := H
    try dsimp only at H
    have A65 := Aside0.mk A650
    clear A650
    have H' := Aside0.mk H
    clear H
    have hcz66_0 := cz0 BK957
    have hcz66_1 := cz1 BK957
    have hfz66_0 := blk_frozen BK957.out 0
    have hfz66_1 := blk_frozen BK957.out 1
    go_wp2_with (first | ((with_reducible refine gate_callee (f := 17) rfl ?_); refine goesL_ (some 204) rfl rfl Tryz.func17 (by kernel_rfl) rfl #[.agg #[.int .i64 t955, .int .i64 t956]] rfl (by (try simp only [m_1, m_2, m_3]); first | done | rfl | (simp only [m_4, m_5]; rfl)) ?_; (with_reducible refine (impl_CountCodes.calls kj15 t955 t956 t983 t984 _ A61.out).mono ?_); rintro e w67 ⟨rfl, hb⟩; refine ⟨_, rfl, ?_⟩; have n0_ := Aside0.mk (Kd.R_below (by (with_reducible repeat (first | apply r_a | apply r_d | apply r_e)); exact HO_14.out) hb); replace BK957 := bbx hb BK957; replace HB := bsx hb HB; clear HO_14; have HO_14 := n0_; clear n0_; (try clear hb); (try clear hb2); (try clear hk); (try clear hi); have hcz68_0 := cz0 BK957; have hcz68_1 := cz1 BK957; have hfz68_0 := blk_frozen BK957.out 0; have hfz68_1 := blk_frozen BK957.out 1) | ((with_reducible refine gate_callee (f := 18) rfl ?_); refine goesL_ (some 210) rfl rfl Tryz.func18 (by kernel_rfl) rfl #[.agg #[.int .i64 t955, .int .i64 t956], .string t974] rfl (by (try simp only [m_1, m_2, m_3]); first | done | rfl | (simp only [m_4, m_5]; rfl)) ?_; (with_reducible refine (impl_CountOpened.calls kj15 t955 t956 t974 t985 t986 _ A62.out).mono ?_); rintro e w69 ⟨rfl, hb⟩; refine ⟨_, rfl, ?_⟩; have n0_ := Aside0.mk (Kd.R_below (by (with_reducible repeat (first | apply r_a | apply r_d | apply r_e)); exact HO_14.out) hb); replace BK957 := bbx hb BK957; replace HB := bsx hb HB; clear HO_14; have HO_14 := n0_; clear n0_; (try clear hb); (try clear hb2); (try clear hk); (try clear hi); have hcz70_0 := cz0 BK957; have hcz70_1 := cz1 BK957; have hfz70_0 := blk_frozen BK957.out 0; have hfz70_1 := blk_frozen BK957.out 1) | ((with_reducible refine gate_callee (f := 19) rfl ?_); refine goesL_ (some 216) rfl rfl Tryz.func19 (by kernel_rfl) rfl #[.agg #[.int .i64 t955, .int .i64 t956], .string t974] rfl (by (try simp only [m_1, m_2, m_3]); first | done | rfl | (simp only [m_4, m_5]; rfl)) ?_; (with_reducible refine (impl_FirstMissed.calls kj15 t955 t956 t974 t987 t988 _ (strings_Index.gl_below HG.out (bB HB)) A63.out).mono ?_); rintro e w71 ⟨rfl, hb⟩; refine ⟨_, rfl, ?_⟩; have n0_ := Aside0.mk (Kd.R_below (by (with_reducible repeat (first | apply r_a | apply r_d | apply r_e)); exact HO_14.out) hb); replace BK957 := bbx hb BK957; replace HB := bsx hb HB; clear HO_14; have HO_14 := n0_; clear n0_; (try clear hb); (try clear hb2); (try clear hk); (try clear hi); have hcz72_0 := cz0 BK957; have hcz72_1 := cz1 BK957; have hfz72_0 := blk_frozen BK957.out 0; have hfz72_1 := blk_frozen BK957.out 1) | ((with_reducible refine gate_callee (f := 20) rfl ?_); refine goesL_ (some 222) rfl rfl Tryz.func20 (by kernel_rfl) rfl #[.agg #[.int .i64 t955, .int .i64 t956], .string t958] rfl (by (try simp only [m_1, m_2, m_3]); first | done | rfl | (simp only [m_4, m_5]; rfl)) ?_; (with_reducible refine (impl_IsRing.calls kj15 t955 t956 t958 t989 t990 _ A64.out).mono ?_); rintro e w73 ⟨rfl, hb⟩; refine ⟨_, rfl, ?_⟩; have n0_ := Aside0.mk (Kd.R_below (by (with_reducible repeat (first | apply r_a | apply r_d | apply r_e)); exact HO_14.out) hb); replace BK957 := bbx hb BK957; replace HB := bsx hb HB; clear HO_14; have HO_14 := n0_; clear n0_; (try clear hb); (try clear hb2); (try clear hk); (try clear hi); have hcz74_0 := cz0 BK957; have hcz74_1 := cz1 BK957; have hfz74_0 := blk_frozen BK957.out 0; have hfz74_1 := blk_frozen BK957.out 1) | ((with_reducible refine gate_callee (f := 20) rfl ?_); refine goesL_ (some 228) rfl rfl Tryz.func20 (by kernel_rfl) rfl #[.agg #[.int .i64 t955, .int .i64 t956], .string t962] rfl (by (try simp only [m_1, m_2, m_3]); first | done | rfl | (simp only [m_4, m_5]; rfl)) ?_; (with_reducible refine (impl_IsRing.calls kj15 t955 t956 t962 t991 t992 _ A65.out).mono ?_); rintro e w75 ⟨rfl, hb⟩; refine ⟨_, rfl, ?_⟩; have n0_ := Aside0.mk (Kd.R_below (by (with_reducible repeat (first | apply r_a | apply r_d | apply r_e)); exact HO_14.out) hb); replace BK957 := bbx hb BK957; replace HB := bsx hb HB; clear HO_14; have HO_14 := n0_; clear n0_; (try clear hb); (try clear hb2); (try clear hk); (try clear hi); obtain ⟨Ao76, co76, eo76⟩ := Kd.R_slice HO_14.out; subst eo76))
    go_loopg [36, 233] kj15 (fun kq v36 v233 w' => ∃ (x36_2 : ByteArray) (x233_2 : Int), v36 = .string x36_2 ∧ v233 = .int .i64 x233_2 ∧ Aside0 (laws_FnRingsOpen.l0 kq l1 t958 t962 t966 t974 t983 t984 t985 t986 t988 t989 t990 t991 t992 x36_2 t966 (t966.length : Int) x233_2 t955 t956 = some r) ∧ Aside0 (kq ≤ kj15) ∧ Aside0 (Kd.R Kd.string 9 w' w.heap.size (fun _ => True) (.slice Ao76 t966.length co76) t966) ∧ Aside0 (Kd.R Kd.string 9 w' w.heap.size (fun _ => True) (.slice Ao76 t966.length co76) t966) ∧ Aside0 (w'.heap[gb957]? = some (.cells #[.int .i64 t955, .int .i64 t956] 23 (0, 0))) ∧ Aside0 (Below w.heap.size w w'))
    case atStart => refine ⟨((⟨#[]⟩ : ByteArray)), (0), (by first | rfl | (simp; done) | (simp [*]; done)), (by first | rfl | (simp; done) | (simp [*]; done)), H', ⟨Nat.le_refl _⟩, ⟨?_⟩, ⟨?_⟩, ⟨?_⟩, ⟨bB HB⟩⟩ <;> (with_reducible repeat (first | refine g_d ?_ _ | refine g_e ?_ | refine g_a ?_ _ | apply r_a | apply r_d | apply r_e)) <;> first | exact BK957.out | exact HO_14.out
    clear H'
    try clear c58
    try clear c60
    try clear hcz66_0
    try clear hcz66_1
    try clear hcz68_0
    try clear hcz68_1
    try clear hcz70_0
    try clear hcz70_1
    try clear hcz72_0
    try clear hcz72_1
    try clear hcz74_0
    try clear hcz74_1
    try clear hfz66_0
    try clear hfz66_1
    try clear hfz68_0
    try clear hfz68_1
    try clear hfz70_0
    try clear hfz70_1
    try clear hfz72_0
    try clear hfz72_1
    try clear hfz74_0
    try clear hfz74_1
    obtain ⟨x36_2, x233_2, rfl, rfl, HA, HK2, HO_14, HO_231, BK957, HB⟩ := hrel
    rcases gk with _ | k2
    · exact absurd HA.out (by simp [laws_FnRingsOpen.l0])
    have H := HA.out
    clear HA
    simp only [laws_FnRingsOpen.l0] at H
    by_cases c77 : x233_2 < (t966.length : Int)
    · rw [if_pos c77] at H
      have c77b0 : decide (x233_2 < (t966.length : Int)) = true := decide_eq_true c77
      clear c77
      (first | rw [c77b0] | (simp only [i64_w, i32_w]; rw [c77b0]) | skip)
      by_cases c78 : 0 ≤ x233_2
      · rw [if_pos c78] at H
        have c78b0 : decide (0 ≤ x233_2) = true := decide_eq_true c78
        clear c78
        by_cases c79 : x233_2 < (t966.length : Int)
        · rw [if_pos c79] at H
          have c79b0 : decide (x233_2 < (t966.length : Int)) = true := decide_eq_true c79
          clear c79
          by_cases c80 : x36_2.size + (rdOf ByteArray.empty t966 x233_2).size ≤ 9223372036854775807
          · rw [if_pos c80] at H
            have c80b0 := eq_true c80
            have c80b1 : decide (x36_2.size + (rdOf ByteArray.empty t966 x233_2).size ≤ 9223372036854775807) = true := decide_eq_true c80
            try have c80b2 : (9223372036854775807 < x36_2.size + (rdOf ByteArray.empty t966 x233_2).size) = False := eq_false (Nat.not_lt.2 c80)
            by_cases c81 : ((rdOf ByteArray.empty t966 x233_2).size : Int) = 0
            · rw [if_pos c81] at H
              exact absurd H (by simp)
            · rw [if_neg c81] at H
              have c81b0 : (((rdOf ByteArray.empty t966 x233_2).size : Int) == 0) = false := beq_eq_false_iff_ne.mpr c81
              have c81b1 : (((rdOf ByteArray.empty t966 x233_2).size : Int) != 0) = true := bne_iff_ne.mpr c81
              by_cases c82 : (Int.tmod t955 ((rdOf ByteArray.empty t966 x233_2).size : Int)) = 0
              · rw [if_pos c82] at H
                have c82b0 : ((Int.tmod t955 ((rdOf ByteArray.empty t966 x233_2).size : Int)) == 0) = true := beq_iff_eq.mpr c82
                have c82b1 : ((Int.tmod t955 ((rdOf ByteArray.empty t966 x233_2).size : Int)) != 0) = false := bne_eq_false_iff_eq.mpr c82
                clear c82
                have H' := Aside0.mk H
                clear H
                have p993 : 0 ≤ (x233_2 : Int) := of_decide_eq_true (by first | (with_reducible assumption) | assumption)
                have q993 : x233_2 < (t966.length : Int) := of_decide_eq_true (by first | (with_reducible assumption) | assumption)
                obtain ⟨ad993, e993, hx993_0⟩ := Kd.at_string (Kd.R_reads' HO_231.out).2.2 x233_2 p993 q993
                cases e993
                replace p993 := eq_true p993
                replace q993 := eq_true q993
                have hcz83_0 := cz0 BK957
                have hcz83_1 := cz1 BK957
                have hfz83_0 := blk_frozen BK957.out 0
                have hfz83_1 := blk_frozen BK957.out 1
                go_wp2
                go_loopg [39] k2 (fun kq v39 w' => ∃ (x39_3 : Int), v39 = .int .i64 x39_3 ∧ Aside0 (laws_FnRingsOpen.l1 kq l1 t958 t962 t966 t974 t983 t984 t985 t986 t988 t989 t990 t991 t992 (x36_2 ++ (rdOf ByteArray.empty t966 x233_2)) (rdOf ByteArray.empty t966 x233_2) x39_3 t966 (t966.length : Int) x233_2 t955 t956 = some r) ∧ Aside0 (kq ≤ k2) ∧ Aside0 (Kd.R Kd.string 9 w' w.heap.size (fun _ => True) (.slice (some ad993) t966.length co76) t966) ∧ Aside0 (Kd.R Kd.string 9 w' w.heap.size (fun _ => True) (.slice (some ad993) t966.length co76) t966) ∧ Aside0 (w'.heap[gb957]? = some (.cells #[.int .i64 t955, .int .i64 t956] 23 (0, 0))) ∧ Aside0 (Below w.heap.size w w'))
                case atStart => refine ⟨(1), (by first | rfl | (simp; done) | (simp [*]; done)), H', ⟨Nat.le_refl _⟩, ⟨?_⟩, ⟨?_⟩, ⟨?_⟩, ⟨bB HB⟩⟩ <;> (with_reducible repeat (first | refine g_d ?_ _ | refine g_e ?_ | refine g_a ?_ _ | apply r_a | apply r_d | apply r_e)) <;> first | exact BK957.out | exact HO_14.out | exact HO_231.out
                case round =>
                  clear H'
                  try clear c77
                  try clear c77b0
                  try clear c78
                  try clear c78b0
                  try clear c79
                  try clear c79b0
                  try clear c80
                  try clear c80b0
                  try clear c80b1
                  try clear c80b2
                  try clear c81
                  try clear c81b0
                  try clear c81b1
                  try clear c82
                  try clear c82b0
                  try clear c82b1
                  try clear hcz83_0
                  try clear hcz83_1
                  try clear hfz83_0
                  try clear hfz83_1
                  try clear hx993_0
                  try clear p993
                  try clear q993
                  obtain ⟨x39_3, rfl, HA, HK3, HO_14, HO_231, BK957, HB⟩ := hrel
                  cases gk with
                  | zero => exact absurd HA.out (by simp [laws_FnRingsOpen.l1])
                  | succ k3 =>
                    have H := HA.out
                    clear HA
                    simp only [laws_FnRingsOpen.l1] at H
                    by_cases c84 : x39_3 < ((rdOf ByteArray.empty t966 x233_2).size : Int)
                    · rw [if_pos c84] at H
                      have c84b0 : decide (x39_3 < ((rdOf ByteArray.empty t966 x233_2).size : Int)) = true := decide_eq_true c84
                      clear c84
                      by_cases c85 : 0 ≤ x39_3
                      · rw [if_pos c85] at H
                        have c85b0 := eq_true c85
                        have c85b1 : decide (0 ≤ x39_3) = true := decide_eq_true c85
                        clear c85
                        by_cases c86 : x39_3 ≤ ((rdOf ByteArray.empty t966 x233_2).size : Int)
                        · rw [if_pos c86] at H
                          have c86b0 := eq_true c86
                          have c86b1 : decide (x39_3 ≤ ((rdOf ByteArray.empty t966 x233_2).size : Int)) = true := decide_eq_true c86
                          clear c86
                          have c87b0 := eq_true (of_decide_eq_true (by first | (with_reducible assumption) | assumption) : 0 ≤ x39_3)
                          have c88b0 := eq_true (of_decide_eq_true (by first | (with_reducible assumption) | assumption) : x39_3 ≤ ((rdOf ByteArray.empty t966 x233_2).size : Int))
                          by_cases c89 : ((rdOf ByteArray.empty t966 x233_2).extract (x39_3 : Int).toNat (rdOf ByteArray.empty t966 x233_2).size).size + ((rdOf ByteArray.empty t966 x233_2).extract 0 (x39_3 : Int).toNat).size ≤ 9223372036854775807
                          · rw [if_pos c89] at H
                            have c89b0 := eq_true c89
                            have c89b1 : decide (((rdOf ByteArray.empty t966 x233_2).extract (x39_3 : Int).toNat (rdOf ByteArray.empty t966 x233_2).size).size + ((rdOf ByteArray.empty t966 x233_2).extract 0 (x39_3 : Int).toNat).size ≤ 9223372036854775807) = true := decide_eq_true c89
                            try have c89b2 : (9223372036854775807 < ((rdOf ByteArray.empty t966 x233_2).extract (x39_3 : Int).toNat (rdOf ByteArray.empty t966 x233_2).size).size + ((rdOf ByteArray.empty t966 x233_2).extract 0 (x39_3 : Int).toNat).size) = False := eq_false (Nat.not_lt.2 c89)
                            try have c89b8 : (9223372036854775807 < (rdOf ByteArray.empty t966 x233_2).size) = False := eq_false (by have h_ := c89; rw [ByteArray.size_extract, ByteArray.size_extract] at h_; have q_ : x39_3 ≤ ((rdOf ByteArray.empty t966 x233_2).size : Int) := (by first | exact of_decide_eq_true (by assumption) | omega); omega)
                            by_cases c90 : ((Op.bytesLess (rdOf ByteArray.empty t966 x233_2).toList ((((rdOf ByteArray.empty t966 x233_2).extract (x39_3 : Int).toNat (rdOf ByteArray.empty t966 x233_2).size) ++ ((rdOf ByteArray.empty t966 x233_2).extract 0 (x39_3 : Int).toNat)).toList)) = true)
                            · rw [if_pos c90] at H
                              have c90b0 : (Op.bytesLess (rdOf ByteArray.empty t966 x233_2).toList ((((rdOf ByteArray.empty t966 x233_2).extract (x39_3 : Int).toNat (rdOf ByteArray.empty t966 x233_2).size) ++ ((rdOf ByteArray.empty t966 x233_2).extract 0 (x39_3 : Int).toNat)).toList)) = true := c90
                              clear c90
                              have H' := Aside0.mk H
                              clear H
                              try go_wp2
                              have n0_ := Aside0.mk (r_e HO_14.out)
                              have n1_ := Aside0.mk (r_e HO_231.out)
                              have n2_ := Aside0.mk (g_e BK957.out)
                              have n3_ := Aside0.mk (b_e HB.out)
                              clear HO_14
                              clear HO_231
                              clear BK957
                              clear HB
                              have HO_14 := n0_
                              have HO_231 := n1_
                              have BK957 := n2_
                              have HB := n3_
                              clear n0_ n1_ n2_ n3_
                              refine start_ (n := 9) (S := fun w' => True) (ds := []) (bs_ 9 0) (by kernel_rfl) rfl rfl trivial (fun hHeld => ?_); refine with_tabW laws_FnRingsOpen.tab32 laws_FnRingsOpen.bits32 (fun HT_ HW_ => ?_)
                              generalize wr.drew = w91 at HO_14 HO_231 BK957 HB hHeld ⊢
                              refine pua 0 252 (bs_ 9 1) HT_ ?_
                              refine pua 1 253 (bs_ 9 3) HT_ ?_
                              refine pua 2 254 (bs_ 9 7) HT_ ?_
                              refine pua 3 255 (bs_ 9 15) HT_ ?_
                              refine pua 4 256 (bs_ 9 31) HT_ ?_
                              refine pua 5 257 (bs_ 9 63) HT_ ?_
                              refine pua 6 258 (bs_ 9 127) HT_ ?_
                              refine pua 7 259 (bs_ 9 255) HT_ ?_
                              refine pua 8 260 (bs_ 9 511) HT_ ?_
                              refine done_ (done_of HT_.out (by kernel_rfl)) ?_
                              try go_wp2
                              go_roundg k3
                              case measure => have := HJ15.out; have := HK2.out; have := HK3.out; omega
                              case rel => refine ⟨(wrap64 (x39_3 + 1)), (by first | rfl | (simp; done) | (simp [*]; done)), H', ⟨by have := HJ15.out; have := HK2.out; have := HK3.out; omega⟩, ⟨?_⟩, ⟨?_⟩, ⟨?_⟩, ⟨bB HB⟩⟩ <;> (with_reducible repeat (first | refine g_d ?_ _ | refine g_e ?_ | refine g_a ?_ _ | apply r_a | apply r_d | apply r_e)) <;> first | exact BK957.out | exact HO_14.out | exact HO_231.out
                            · rw [if_neg c90] at H
                              have c90b0 : (Op.bytesLess (rdOf ByteArray.empty t966 x233_2).toList ((((rdOf ByteArray.empty t966 x233_2).extract (x39_3 : Int).toNat (rdOf ByteArray.empty t966 x233_2).size) ++ ((rdOf ByteArray.empty t966 x233_2).extract 0 (x39_3 : Int).toNat)).toList)) = false := by simpa using c90
                              clear c90
                              rw [HRT.out] at H
                              exact absurd H (by simp)
                          · rw [if_neg c89] at H
                            exact absurd H (by simp)
                        · rw [if_neg c86] at H
                          exact absurd H (by simp)
                      · rw [if_neg c85] at H
                        exact absurd H (by simp)
                    · rw [if_neg c84] at H
                      have c84b0 : decide (x39_3 < ((rdOf ByteArray.empty t966 x233_2).size : Int)) = false := decide_eq_false c84
                      clear c84
                      have H' := Aside0.mk H
                      clear H
                      go_wp2
                      go_roundg k3
                      case measure => have := HJ15.out; have := HK2.out; have := HK3.out; omega
                      case rel => refine ⟨((x36_2 ++ (rdOf ByteArray.empty t966 x233_2))), (wrap64 (x233_2 + 1)), (by first | rfl | (simp; done) | (simp [*]; done)), (by first | rfl | (simp; done) | (simp [*]; done)), H', ⟨by have := HJ15.out; have := HK2.out; have := HK3.out; omega⟩, ⟨?_⟩, ⟨?_⟩, ⟨?_⟩, ⟨bB HB⟩⟩ <;> (with_reducible repeat (first | refine g_d ?_ _ | refine g_e ?_ | refine g_a ?_ _ | apply r_a | apply r_d | apply r_e)) <;> first | exact BK957.out | exact HO_14.out | exact HO_231.out
              · rw [if_neg c82] at H
                have c82b0 : ((Int.tmod t955 ((rdOf ByteArray.empty t966 x233_2).size : Int)) == 0) = false := beq_eq_false_iff_ne.mpr c82
                have c82b1 : ((Int.tmod t955 ((rdOf ByteArray.empty t966 x233_2).size : Int)) != 0) = true := bne_iff_ne.mpr c82
                rw [HRT.out] at H
                exact absurd H (by simp)
          · rw [if_neg c80] at H
            exact absurd H (by simp)
        · rw [if_neg c79] at H
          exact absurd H (by simp)
      · rw [if_neg c78] at H
        exact absurd H (by simp)
    rw [if_neg c77] at H
    have c77b0 : decide (x233_2 < (t966.length : Int)) = false := decide_eq_false c77
    clear c77
    (first | rw [c77b0] | (simp only [i64_w, i32_w]; rw [c77b0]) | skip)
    have H' := Aside0.mk H
    clear H
    go_wp2
    go_loopg [40, 41] k2 (fun kq v40 v41 w' => ∃ (x40_3 : Int) (x41_3 : Int), v40 = .int .i64 x40_3 ∧ v41 = .int .i64 x41_3 ∧ Aside0 (laws_FnRingsOpen.l2 kq l1 t958 t962 t966 t974 t983 t984 t985 t986 t988 t989 t990 t991 t992 x36_2 x40_3 x41_3 t955 t956 = some r) ∧ Aside0 (kq ≤ k2) ∧ Aside0 (Kd.R Kd.string 9 w' w.heap.size (fun _ => True) (.slice Ao76 t966.length co76) t966) ∧ Aside0 (w'.heap[gb957]? = some (.cells #[.int .i64 t955, .int .i64 t956] 23 (0, 0))) ∧ Aside0 (Below w.heap.size w w'))
    case atStart => refine ⟨(0), (1), (by first | rfl | (simp; done) | (simp [*]; done)), (by first | rfl | (simp; done) | (simp [*]; done)), H', ⟨Nat.le_refl _⟩, ⟨?_⟩, ⟨?_⟩, ⟨bB HB⟩⟩ <;> (with_reducible repeat (first | refine g_d ?_ _ | refine g_e ?_ | refine g_a ?_ _ | apply r_a | apply r_d | apply r_e)) <;> first | exact BK957.out | exact HO_14.out
    clear H'
    try clear c77
    try clear c77b0
    obtain ⟨x40_3, x41_3, rfl, rfl, HA, HK3, HO_14, BK957, HB⟩ := hrel
    rcases gk with _ | k3
    · exact absurd HA.out (by simp [laws_FnRingsOpen.l2])
    have H := HA.out
    clear HA
    simp only [laws_FnRingsOpen.l2] at H
    by_cases c92 : x41_3 ≤ t955
    · rw [if_pos c92] at H
      have c92b0 : decide (x41_3 ≤ t955) = true := decide_eq_true c92
      clear c92
      by_cases c93 : x41_3 = 0
      · rw [if_pos c93] at H
        exact absurd H (by simp)
      · rw [if_neg c93] at H
        have c93b0 : (x41_3 == 0) = false := beq_eq_false_iff_ne.mpr c93
        have c93b1 : (x41_3 != 0) = true := bne_iff_ne.mpr c93
        by_cases c94 : (Int.tmod t955 x41_3) = 0
        · rw [if_pos c94] at H
          have c94b0 : ((Int.tmod t955 x41_3) == 0) = true := beq_iff_eq.mpr c94
          have c94b1 : ((Int.tmod t955 x41_3) != 0) = false := bne_eq_false_iff_eq.mpr c94
          clear c94
          replace H := Option.bind_eq_some_iff.mp H
          obtain ⟨⟨t995, t996⟩, A950, H⟩ := H
          try dsimp only at H
          have A95 := Aside0.mk A950
          clear A950
          by_cases c96 : t996 = true
          · subst c96
            rw [if_pos rfl] at H
            have H' := Aside0.mk H
            clear H
            have hcz97_0 := cz0 BK957
            have hcz97_1 := cz1 BK957
            have hfz97_0 := blk_frozen BK957.out 0
            have hfz97_1 := blk_frozen BK957.out 1
            go_wp2_with (first | ((with_reducible refine gate_callee (f := 21) rfl ?_); refine goesL_ (some 276) rfl rfl Tryz.func21 (by kernel_rfl) rfl #[.agg #[.int .i64 t955, .int .i64 t956], .int .i64 x41_3] rfl (by (try simp only [m_1, m_2, m_3]); first | done | rfl | (simp only [m_4, m_5]; rfl)) ?_; (with_reducible refine (impl_CountLeastWords.calls k3 t955 t956 x41_3 t995 true _ A95.out).mono ?_); rintro e w98 ⟨rfl, hb⟩; refine ⟨_, rfl, ?_⟩; have n0_ := Aside0.mk (Kd.R_below (by (with_reducible repeat (first | apply r_a | apply r_d | apply r_e)); exact HO_14.out) hb); replace BK957 := bbx hb BK957; replace HB := bsx hb HB; clear HO_14; have HO_14 := n0_; clear n0_; (try clear hb); (try clear hb2); (try clear hk); (try clear hi)))
            go_roundg k3
            case measure => have := HJ15.out; have := HK2.out; have := HK3.out; omega
            case rel => refine ⟨(wrap64 (x40_3 + t995)), (wrap64 (x41_3 + 1)), (by first | rfl | (simp; done) | (simp [*]; done)), (by first | rfl | (simp; done) | (simp [*]; done)), H', ⟨by have := HJ15.out; have := HK2.out; have := HK3.out; omega⟩, ⟨?_⟩, ⟨?_⟩, ⟨bB HB⟩⟩ <;> (with_reducible repeat (first | refine g_d ?_ _ | refine g_e ?_ | refine g_a ?_ _ | apply r_a | apply r_d | apply r_e)) <;> first | exact BK957.out | exact HO_14.out
          · replace c96 := Bool.eq_false_iff.mpr c96
            subst c96
            rw [if_neg (show ¬ (false = true) by decide)] at H
            rw [HRT.out] at H
            exact absurd H (by simp)
        · rw [if_neg c94] at H
          have c94b0 : ((Int.tmod t955 x41_3) == 0) = false := beq_eq_false_iff_ne.mpr c94
          have c94b1 : ((Int.tmod t955 x41_3) != 0) = true := bne_iff_ne.mpr c94
          have H' := Aside0.mk H
          clear H
          have hcz99_0 := cz0 BK957
          have hcz99_1 := cz1 BK957
          have hfz99_0 := blk_frozen BK957.out 0
          have hfz99_1 := blk_frozen BK957.out 1
          go_wp2
          go_roundg k3
          case measure => have := HJ15.out; have := HK2.out; have := HK3.out; omega
          case rel => refine ⟨(x40_3), (wrap64 (x41_3 + 1)), (by first | rfl | (simp; done) | (simp [*]; done)), (by first | rfl | (simp; done) | (simp [*]; done)), H', ⟨by have := HJ15.out; have := HK2.out; have := HK3.out; omega⟩, ⟨?_⟩, ⟨?_⟩, ⟨bB HB⟩⟩ <;> (with_reducible repeat (first | refine g_d ?_ _ | refine g_e ?_ | refine g_a ?_ _ | apply r_a | apply r_d | apply r_e)) <;> first | exact BK957.out | exact HO_14.out
    rw [if_neg c92] at H
    have c92b0 : decide (x41_3 ≤ t955) = false := decide_eq_false c92
    clear c92
    by_cases c100 : t984 = true
    rotate_left
    · replace c100 := Bool.eq_false_iff.mpr c100
      subst c100
      rw [if_neg (show ¬ (false = true) by decide)] at H
      rw [HRT.out] at H
      exact absurd H (by simp)
    subst c100
    rw [if_pos rfl] at H
    by_cases c101 : (t958.size : Int) = t983
    rotate_left
    · rw [if_neg c101] at H
      have c101b0 : ((t958.size : Int) == t983) = false := beq_eq_false_iff_ne.mpr c101
      have c101b1 : ((t958.size : Int) != t983) = true := bne_iff_ne.mpr c101
      rw [HRT.out] at H
      exact absurd H (by simp)
    rw [if_pos c101] at H
    have c101b0 : ((t958.size : Int) == t983) = true := beq_iff_eq.mpr c101
    have c101b1 : ((t958.size : Int) != t983) = false := bne_eq_false_iff_eq.mpr c101
    clear c101
    by_cases c102 : x36_2.toList = t958.toList
    rotate_left
    · rw [if_neg c102] at H
      have c102b0 : (x36_2.toList == t958.toList) = false := beq_eq_false_iff_ne.mpr c102
      have c102b1 : (x36_2.toList != t958.toList) = true := bne_iff_ne.mpr c102
      rw [HRT.out] at H
      exact absurd H (by simp)
    rw [if_pos c102] at H
    have c102b0 : (x36_2.toList == t958.toList) = true := beq_iff_eq.mpr c102
    have c102b1 : (x36_2.toList != t958.toList) = false := bne_eq_false_iff_eq.mpr c102
    clear c102
    replace H := Option.bind_eq_some_iff.mp H
    obtain ⟨t994, A1030, H⟩ := H
    try dsimp only at H
    have A103 := Aside0.mk A1030
    clear A1030
    by_cases c104 : t994 = true
    rotate_left
    · replace c104 := Bool.eq_false_iff.mpr c104
      subst c104
      rw [if_neg (show ¬ (false = true) by decide)] at H
      rw [HRT.out] at H
      exact absurd H (by simp)
    subst c104
    rw [if_pos rfl] at H
    by_cases c105 : x40_3 = (t966.length : Int)
    rotate_left
    · rw [if_neg c105] at H
      have c105b0 : (x40_3 == (t966.length : Int)) = false := beq_eq_false_iff_ne.mpr c105
      have c105b1 : (x40_3 != (t966.length : Int)) = true := bne_iff_ne.mpr c105
      rw [HRT.out] at H
      exact absurd H (by simp)
    rw [if_pos c105] at H
    have c105b0 : (x40_3 == (t966.length : Int)) = true := beq_iff_eq.mpr c105
    have c105b1 : (x40_3 != (t966.length : Int)) = false := bne_eq_false_iff_eq.mpr c105
    clear c105
    by_cases c106 : (t974.size : Int) = (wrap64 ((wrap64 (t983 + t955)) - 1))
    rotate_left
    · rw [if_neg c106] at H
      have c106b0 : ((t974.size : Int) == (wrap64 ((wrap64 (t983 + t955)) - 1))) = false := beq_eq_false_iff_ne.mpr c106
      have c106b1 : ((t974.size : Int) != (wrap64 ((wrap64 (t983 + t955)) - 1))) = true := bne_iff_ne.mpr c106
      rw [HRT.out] at H
      exact absurd H (by simp)
    rw [if_pos c106] at H
    have c106b0 : ((t974.size : Int) == (wrap64 ((wrap64 (t983 + t955)) - 1))) = true := beq_iff_eq.mpr c106
    have c106b1 : ((t974.size : Int) != (wrap64 ((wrap64 (t983 + t955)) - 1))) = false := bne_eq_false_iff_eq.mpr c106
    clear c106
    by_cases c107 : t986 = true
    rotate_left
    · replace c107 := Bool.eq_false_iff.mpr c107
      subst c107
      rw [if_neg (show ¬ (false = true) by decide)] at H
      rw [HRT.out] at H
      exact absurd H (by simp)
    subst c107
    rw [if_pos rfl] at H
    by_cases c108 : t985 = t983
    rotate_left
    · rw [if_neg c108] at H
      have c108b0 : (t985 == t983) = false := beq_eq_false_iff_ne.mpr c108
      have c108b1 : (t985 != t983) = true := bne_iff_ne.mpr c108
      rw [HRT.out] at H
      exact absurd H (by simp)
    rw [if_pos c108] at H
    have c108b0 : (t985 == t983) = true := beq_iff_eq.mpr c108
    have c108b1 : (t985 != t983) = false := bne_eq_false_iff_eq.mpr c108
    clear c108
    by_cases c109 : t988 = true
    · subst c109
      rw [if_pos rfl] at H
      rw [HRT.out] at H
      exact absurd H (by simp)
    replace c109 := Bool.eq_false_iff.mpr c109
    subst c109
    rw [if_neg (show ¬ (false = true) by decide)] at H
    by_cases c110 : t990 = true
    rotate_left
    · replace c110 := Bool.eq_false_iff.mpr c110
      subst c110
      rw [if_neg (show ¬ (false = true) by decide)] at H
      rw [HRT.out] at H
      exact absurd H (by simp)
    subst c110
    rw [if_pos rfl] at H
    by_cases c111 : t989 = true
    rotate_left
    · replace c111 := Bool.eq_false_iff.mpr c111
      subst c111
      rw [if_neg (show ¬ (false = true) by decide)] at H
      rw [HRT.out] at H
      exact absurd H (by simp)
    subst c111
    rw [if_pos rfl] at H
    by_cases c112 : t992 = true
    rotate_left
    · replace c112 := Bool.eq_false_iff.mpr c112
      subst c112
      rw [if_neg (show ¬ (false = true) by decide)] at H
      rw [HRT.out] at H
      exact absurd H (by simp)
    subst c112
    rw [if_pos rfl] at H
    by_cases c113 : t991 = true
    rotate_left
    · replace c113 := Bool.eq_false_iff.mpr c113
      subst c113
      rw [if_neg (show ¬ (false = true) by decide)] at H
      rw [HRT.out] at H
      exact absurd H (by simp)
    subst c113
    rw [if_pos rfl] at H
    by_cases c114 : ((Op.bytesLess t958.toList t962.toList) = true)
    rotate_left
    · rw [if_neg c114] at H
      have c114b0 : (Op.bytesLess t958.toList t962.toList) = false := by simpa using c114
      clear c114
      rw [HRT.out] at H
      exact absurd H (by simp)
    rw [if_pos c114] at H
    have c114b0 : (Op.bytesLess t958.toList t962.toList) = true := c114
    clear c114
    have H' := Aside0.mk H
    clear H
    have hcz115_0 := cz0 BK957
    have hcz115_1 := cz1 BK957
    have hfz115_0 := blk_frozen BK957.out 0
    have hfz115_1 := blk_frozen BK957.out 1
    go_wp2_with (first | (go_at_call 22; (with_reducible refine (laws_eSorted.calls k3 _ _ t966 true _ ?side1 ?side2 A103.out).mono ?_); (case side1 => repeat (first | exact (Kd.R_reads' HO_14.out).2.2 | (with_reducible refine Kd.C_alloc ?_ _) | (with_reducible refine Kd.C_drewN ?_ _) | (with_reducible refine Kd.C_drew ?_))); (case side2 => exact (Kd.R_reads' HO_14.out).2.1); rintro e w' ⟨rfl, ⟨nd, rfl⟩⟩))
    go_meet
    case rel => exact ⟨_, H', ⟨by have := HJ15.out; have := HK2.out; have := HK3.out; first | omega | exact Nat.le_refl _⟩, ⟨bK BK957⟩, ⟨bB HB⟩⟩
  clear HC59
  obtain ⟨kq, HA, HJ58, BK957, HB⟩ := hcut
  rcases kq with _ | kj58
  · exact absurd HA.out (by simp [laws_FnRingsOpen.j4])
  have H := HA.out
  clear HA
  simp only [laws_FnRingsOpen.j4] at H
  replace H := Option.bind_eq_some_iff.mp H
  obtain ⟨⟨t997, t998, t999⟩, A1160, H⟩ := H
  try dsimp only at H
  have A116 := Aside0.mk A1160
  clear A1160
  replace H := Option.bind_eq_some_iff.mp H
  obtain ⟨⟨t1001, t1002⟩, A1170, H⟩ := H
  try dsimp only at H
  have A117 := Aside0.mk A1170
  clear A1170
  replace H := Option.bind_eq_some_iff.mp H
  obtain ⟨⟨t1003, t1004⟩, A1180, H⟩ := H
  try dsimp only at H
  have A118 := Aside0.mk A1180
  clear A1180
  replace H := Option.bind_eq_some_iff.mp H
  obtain ⟨⟨t1005, t1006, t1007⟩, A1190, H⟩ := H
  try dsimp only at H
  have A119 := Aside0.mk A1190
  clear A1190
  replace H := Option.bind_eq_some_iff.mp H
  obtain ⟨⟨t1009, t1010⟩, A1200, H⟩ := H
  try dsimp only at H
  have A120 := Aside0.mk A1200
  clear A1200
  replace H := Option.bind_eq_some_iff.mp H
  obtain ⟨⟨t1011, t1012⟩, A1210, H⟩ := H
  try dsimp only at H
  have A121 := Aside0.mk A1210
  clear A1210
  replace H := Option.bind_eq_some_iff.mp H
  obtain ⟨⟨t1013, t1014⟩, A1220, H⟩ := H
  try dsimp only at H
  have A122 := Aside0.mk A1220
  clear A1220
  replace H := Option.bind_eq_some_iff.mp H
  obtain ⟨⟨t1015, t1016⟩, A1230, H⟩ := H
  try dsimp only at H
  have A123 := Aside0.mk A1230
  clear A1230
  replace H := Option.bind_eq_some_iff.mp H
  obtain ⟨⟨t1017, t1018, t1019, t1020⟩, A1240, H⟩ := H
  try dsimp only at H
  have A124 := Aside0.mk A1240
  clear A1240
  replace H := Option.bind_eq_some_iff.mp H
  obtain ⟨⟨t1022, t1023⟩, A1250, H⟩ := H
  try dsimp only at H
  have A125 := Aside0.mk A1250
  clear A1250
  replace H := Option.bind_eq_some_iff.mp H
  obtain ⟨⟨t1024, t1025⟩, A1260, H⟩ := H
  try dsimp only at H
  have A126 := Aside0.mk A1260
  clear A1260
  have HC127 := Aside0.mk H
  clear H
  go_upto_region 57 with (first | ((with_reducible refine gate_callee (f := 47) rfl ?_); refine goesL_ (some 353) rfl rfl Tryz.func47 (by kernel_rfl) rfl #[.slice A1 l1.length c1] rfl (by (try simp only [m_1, m_2, m_3]); first | done | rfl | (simp only [m_4, m_5]; rfl)) ?_; (with_reducible refine (spec_DrawCountLeastWords.calls _ _ l1 t997 t998 t999 _ ?side1 ?side2 A116.out).mono ?_); (case side1 => repeat (first | exact (Kd.C_below HR1.out HB.out) | (with_reducible refine Kd.C_alloc ?_ _) | (with_reducible refine Kd.C_drewN ?_ _) | (with_reducible refine Kd.C_drew ?_))); (case side2 => exact HC1.out); rintro e w128 ⟨rfl, hb⟩; refine ⟨_, rfl, ?_⟩; replace BK957 := bbx hb BK957; replace HB := bsx hb HB; skip; (try clear hb); (try clear hb2); (try clear hk); (try clear hi)) | ((with_reducible refine gate_dst (N := 44) rfl ?_); (try (refine gate_guard (by rfl) ?_; dsimp only)); refine box_event ?hg (N := 44) ?hd (cs := #[.int .i64 0, .int .i64 0]) (t := 23) ?hr ?_; (case hd => rfl); (case hg => rfl); (case hr => first | (go_simp; done) | (go_simp; rfl)); intro gb1000 hg w129 hbox hb; have n0_ := bbx hb BK957; have n1_ := bsx hb HB; have n2_ := Aside0.mk (hbox); have n3_ := gwx hg HB; have n4_ := gwx hg HB; have n5_ := nlx hg BK957; have n6_ := ngx hg BK957; clear BK957; clear HB; have BK957 := n0_; have HB := n1_; have BK1000 := n2_; have GW1000 := n3_; have GE1000 := n4_; have NB957_1000 := n5_; have NB1000_957 := n6_; clear n0_ n1_ n2_ n3_ n4_ n5_ n6_; clear hb hbox hg; have hnb130 := eq_false NB1000_957.out; have hnc130 := eq_false NB957_1000.out; have hcz131_0 := cz0 BK1000; have hcz131_1 := cz1 BK1000; have hfz131_0 := blk_frozen BK1000.out 0; have hfz131_1 := blk_frozen BK1000.out 1) | ((with_reducible refine gate_callee (f := 21) rfl ?_); refine goesL_ (some 359) rfl rfl Tryz.func21 (by kernel_rfl) rfl #[.agg #[.int .i64 t997, .int .i64 t998], .int .i64 t999] rfl (by (try simp only [m_1, m_2, m_3]); first | done | rfl | (simp only [m_4, m_5]; rfl)) ?_; (with_reducible refine (impl_CountLeastWords.calls kj58 t997 t998 t999 t1001 t1002 _ A117.out).mono ?_); rintro e w132 ⟨rfl, hb⟩; refine ⟨_, rfl, ?_⟩; have n0_ := Aside0.mk (blk_below (g := gb957) (o := .cells #[.int .i64 t955, .int .i64 t956] 23 (0, 0)) (bF) hb); have n1_ := Aside0.mk (blk_below (g := gb1000) (o := .cells #[.int .i64 t997, .int .i64 t998] 23 (0, 0)) (by (with_reducible repeat (first | refine g_d ?_ _ | refine g_e ?_ | refine g_a ?_ _)); refine blk_put (cs := #[.int .i64 t997, .int .i64 0]) ?_ 1 _ rfl; (with_reducible repeat (first | refine g_d ?_ _ | refine g_e ?_ | refine g_a ?_ _)); refine blk_put (cs := #[.int .i64 0, .int .i64 0]) ?_ 0 _ rfl; (with_reducible repeat (first | refine g_d ?_ _ | refine g_e ?_ | refine g_a ?_ _)); exact BK1000.out) hb); replace HB := bsx hb HB; clear BK957; clear BK1000; have BK957 := n0_; have BK1000 := n1_; clear n0_ n1_; (try clear hb); (try clear hb2); (try clear hk); (try clear hi); have hcz133_0 := cz0 BK1000; have hcz133_1 := cz1 BK1000; have hfz133_0 := blk_frozen BK1000.out 0; have hfz133_1 := blk_frozen BK1000.out 1) | ((with_reducible refine gate_callee (f := 23) rfl ?_); refine goesL_ (some 365) rfl rfl Tryz.func23 (by kernel_rfl) rfl #[.agg #[.int .i64 t997, .int .i64 t998], .int .i64 t999] rfl (by (try simp only [m_1, m_2, m_3]); first | done | rfl | (simp only [m_4, m_5]; rfl)) ?_; (with_reducible refine (spec_CountLeastWords.calls kj58 t997 t998 t999 t1003 t1004 _ A118.out).mono ?_); rintro e w134 ⟨rfl, hb⟩; refine ⟨_, rfl, ?_⟩; replace BK957 := bbx hb BK957; replace BK1000 := bbx hb BK1000; replace HB := bsx hb HB; skip; (try clear hb); (try clear hb2); (try clear hk); (try clear hi)) | ((with_reducible refine gate_callee (f := 48) rfl ?_); refine goesL_ (some 370) rfl rfl Tryz.func48 (by kernel_rfl) rfl #[.slice A1 l1.length c1] rfl (by (try simp only [m_1, m_2, m_3]); first | done | rfl | (simp only [m_4, m_5]; rfl)) ?_; (with_reducible refine (spec_DrawCountOpened.calls kj58 _ _ l1 t1005 t1006 t1007 _ ?side1 ?side2 A119.out).mono ?_); (case side1 => repeat (first | exact (Kd.C_below HR1.out HB.out) | (with_reducible refine Kd.C_alloc ?_ _) | (with_reducible refine Kd.C_drewN ?_ _) | (with_reducible refine Kd.C_drew ?_))); (case side2 => exact HC1.out); rintro e w135 ⟨rfl, hb⟩; refine ⟨_, rfl, ?_⟩; replace BK957 := bbx hb BK957; replace BK1000 := bbx hb BK1000; replace HB := bsx hb HB; skip; (try clear hb); (try clear hb2); (try clear hk); (try clear hi)) | ((with_reducible refine gate_dst (N := 50) rfl ?_); (try (refine gate_guard (by rfl) ?_; dsimp only)); refine box_event ?hg (N := 50) ?hd (cs := #[.int .i64 0, .int .i64 0]) (t := 23) ?hr ?_; (case hd => rfl); (case hg => rfl); (case hr => first | (go_simp; done) | (go_simp; rfl)); intro gb1008 hg w136 hbox hb; have n0_ := bbx hb BK957; have n1_ := bbx hb BK1000; have n2_ := bsx hb HB; have n3_ := Aside0.mk (hbox); have n4_ := gwx hg HB; have n5_ := gwx hg HB; have n6_ := nlx hg BK957; have n7_ := ngx hg BK957; have n8_ := nlx hg BK1000; have n9_ := ngx hg BK1000; clear BK957; clear BK1000; clear HB; have BK957 := n0_; have BK1000 := n1_; have HB := n2_; have BK1008 := n3_; have GW1008 := n4_; have GE1008 := n5_; have NB957_1008 := n6_; have NB1008_957 := n7_; have NB1000_1008 := n8_; have NB1008_1000 := n9_; clear n0_ n1_ n2_ n3_ n4_ n5_ n6_ n7_ n8_ n9_; clear hb hbox hg; have hnb137 := eq_false NB1008_957.out; have hnc137 := eq_false NB957_1008.out; have hnb138 := eq_false NB1008_1000.out; have hnc138 := eq_false NB1000_1008.out; have hcz139_0 := cz0 BK1008; have hcz139_1 := cz1 BK1008; have hfz139_0 := blk_frozen BK1008.out 0; have hfz139_1 := blk_frozen BK1008.out 1) | ((with_reducible refine gate_callee (f := 18) rfl ?_); refine goesL_ (some 376) rfl rfl Tryz.func18 (by kernel_rfl) rfl #[.agg #[.int .i64 t1005, .int .i64 t1006], .string t1007] rfl (by (try simp only [m_1, m_2, m_3]); first | done | rfl | (simp only [m_4, m_5]; rfl)) ?_; (with_reducible refine (impl_CountOpened.calls kj58 t1005 t1006 t1007 t1009 t1010 _ A120.out).mono ?_); rintro e w140 ⟨rfl, hb⟩; refine ⟨_, rfl, ?_⟩; have n0_ := Aside0.mk (blk_below (g := gb957) (o := .cells #[.int .i64 t955, .int .i64 t956] 23 (0, 0)) (bF) hb); have n1_ := Aside0.mk (blk_below (g := gb1000) (o := .cells #[.int .i64 t997, .int .i64 t998] 23 (0, 0)) (bF) hb); have n2_ := Aside0.mk (blk_below (g := gb1008) (o := .cells #[.int .i64 t1005, .int .i64 t1006] 23 (0, 0)) (by (with_reducible repeat (first | refine g_d ?_ _ | refine g_e ?_ | refine g_a ?_ _)); refine blk_put (cs := #[.int .i64 t1005, .int .i64 0]) ?_ 1 _ rfl; (with_reducible repeat (first | refine g_d ?_ _ | refine g_e ?_ | refine g_a ?_ _)); refine blk_put (cs := #[.int .i64 0, .int .i64 0]) ?_ 0 _ rfl; (with_reducible repeat (first | refine g_d ?_ _ | refine g_e ?_ | refine g_a ?_ _)); exact BK1008.out) hb); replace HB := bsx hb HB; clear BK957; clear BK1000; clear BK1008; have BK957 := n0_; have BK1000 := n1_; have BK1008 := n2_; clear n0_ n1_ n2_; (try clear hb); (try clear hb2); (try clear hk); (try clear hi); have hcz141_0 := cz0 BK1008; have hcz141_1 := cz1 BK1008; have hfz141_0 := blk_frozen BK1008.out 0; have hfz141_1 := blk_frozen BK1008.out 1) | ((with_reducible refine gate_callee (f := 24) rfl ?_); refine goesL_ (some 382) rfl rfl Tryz.func24 (by kernel_rfl) rfl #[.agg #[.int .i64 t1005, .int .i64 t1006], .string t1007] rfl (by (try simp only [m_1, m_2, m_3]); first | done | rfl | (simp only [m_4, m_5]; rfl)) ?_; (with_reducible refine (spec_CountOpened.calls kj58 t1005 t1006 t1007 t1011 t1012 _ A121.out).mono ?_); rintro e w142 ⟨rfl, hb⟩; refine ⟨_, rfl, ?_⟩; replace BK957 := bbx hb BK957; replace BK1000 := bbx hb BK1000; replace BK1008 := bbx hb BK1008; replace HB := bsx hb HB; skip; (try clear hb); (try clear hb2); (try clear hk); (try clear hi); have hcz143_0 := cz0 BK1008; have hcz143_1 := cz1 BK1008; have hfz143_0 := blk_frozen BK1008.out 0; have hfz143_1 := blk_frozen BK1008.out 1) | ((with_reducible refine gate_callee (f := 19) rfl ?_); refine goesL_ (some 388) rfl rfl Tryz.func19 (by kernel_rfl) rfl #[.agg #[.int .i64 t1005, .int .i64 t1006], .string t1007] rfl (by (try simp only [m_1, m_2, m_3]); first | done | rfl | (simp only [m_4, m_5]; rfl)) ?_; (with_reducible refine (impl_FirstMissed.calls kj58 t1005 t1006 t1007 t1013 t1014 _ (strings_Index.gl_below HG.out (bB HB)) A122.out).mono ?_); rintro e w144 ⟨rfl, hb⟩; refine ⟨_, rfl, ?_⟩; replace BK957 := bbx hb BK957; replace BK1000 := bbx hb BK1000; replace BK1008 := bbx hb BK1008; replace HB := bsx hb HB; skip; (try clear hb); (try clear hb2); (try clear hk); (try clear hi); have hcz145_0 := cz0 BK1008; have hcz145_1 := cz1 BK1008; have hfz145_0 := blk_frozen BK1008.out 0; have hfz145_1 := blk_frozen BK1008.out 1) | ((with_reducible refine gate_callee (f := 25) rfl ?_); refine goesL_ (some 394) rfl rfl Tryz.func25 (by kernel_rfl) rfl #[.agg #[.int .i64 t1005, .int .i64 t1006], .string t1007] rfl (by (try simp only [m_1, m_2, m_3]); first | done | rfl | (simp only [m_4, m_5]; rfl)) ?_; (with_reducible refine (spec_FirstMissed.calls kj58 t1005 t1006 t1007 t1015 t1016 _ A123.out).mono ?_); rintro e w146 ⟨rfl, hb⟩; refine ⟨_, rfl, ?_⟩; replace BK957 := bbx hb BK957; replace BK1000 := bbx hb BK1000; replace BK1008 := bbx hb BK1008; replace HB := bsx hb HB; skip; (try clear hb); (try clear hb2); (try clear hk); (try clear hi)) | ((with_reducible refine gate_callee (f := 49) rfl ?_); refine goesL_ (some 399) rfl rfl Tryz.func49 (by kernel_rfl) rfl #[.slice A1 l1.length c1] rfl (by (try simp only [m_1, m_2, m_3]); first | done | rfl | (simp only [m_4, m_5]; rfl)) ?_; (with_reducible refine (spec_DrawStepsToOpen.calls kj58 _ _ l1 t1017 t1018 t1019 t1020 _ ?side1 ?side2 A124.out).mono ?_); (case side1 => repeat (first | exact (Kd.C_below HR1.out HB.out) | (with_reducible refine Kd.C_alloc ?_ _) | (with_reducible refine Kd.C_drewN ?_ _) | (with_reducible refine Kd.C_drew ?_))); (case side2 => exact HC1.out); rintro e w147 ⟨rfl, hb⟩; refine ⟨_, rfl, ?_⟩; replace BK957 := bbx hb BK957; replace BK1000 := bbx hb BK1000; replace BK1008 := bbx hb BK1008; replace HB := bsx hb HB; skip; (try clear hb); (try clear hb2); (try clear hk); (try clear hi)) | ((with_reducible refine gate_dst (N := 60) rfl ?_); (try (refine gate_guard (by rfl) ?_; dsimp only)); refine box_event ?hg (N := 60) ?hd (cs := #[.int .i64 0, .int .i64 0]) (t := 23) ?hr ?_; (case hd => rfl); (case hg => rfl); (case hr => first | (go_simp; done) | (go_simp; rfl)); intro gb1021 hg w148 hbox hb; have n0_ := bbx hb BK957; have n1_ := bbx hb BK1000; have n2_ := bbx hb BK1008; have n3_ := bsx hb HB; have n4_ := Aside0.mk (hbox); have n5_ := gwx hg HB; have n6_ := gwx hg HB; have n7_ := nlx hg BK957; have n8_ := ngx hg BK957; have n9_ := nlx hg BK1000; have n10_ := ngx hg BK1000; have n11_ := nlx hg BK1008; have n12_ := ngx hg BK1008; clear BK957; clear BK1000; clear BK1008; clear HB; have BK957 := n0_; have BK1000 := n1_; have BK1008 := n2_; have HB := n3_; have BK1021 := n4_; have GW1021 := n5_; have GE1021 := n6_; have NB957_1021 := n7_; have NB1021_957 := n8_; have NB1000_1021 := n9_; have NB1021_1000 := n10_; have NB1008_1021 := n11_; have NB1021_1008 := n12_; clear n0_ n1_ n2_ n3_ n4_ n5_ n6_ n7_ n8_ n9_ n10_ n11_ n12_; clear hb hbox hg; have hnb149 := eq_false NB1021_957.out; have hnc149 := eq_false NB957_1021.out; have hnb150 := eq_false NB1021_1000.out; have hnc150 := eq_false NB1000_1021.out; have hnb151 := eq_false NB1021_1008.out; have hnc151 := eq_false NB1008_1021.out; have hcz152_0 := cz0 BK1021; have hcz152_1 := cz1 BK1021; have hfz152_0 := blk_frozen BK1021.out 0; have hfz152_1 := blk_frozen BK1021.out 1) | ((with_reducible refine gate_callee (f := 26) rfl ?_); refine goesL_ (some 407) rfl rfl Tryz.func26 (by kernel_rfl) rfl #[.agg #[.int .i64 t1017, .int .i64 t1018], .string t1019, .string t1020] rfl (by (try simp only [m_1, m_2, m_3]); first | done | rfl | (simp only [m_4, m_5]; rfl)) ?_; (with_reducible refine (impl_StepsToOpen.calls kj58 t1017 t1018 t1019 t1020 t1022 t1023 _ (strings_Index.gl_below HG.out (bB HB)) A125.out).mono ?_); rintro e w153 ⟨rfl, hb⟩; refine ⟨_, rfl, ?_⟩; have n0_ := Aside0.mk (blk_below (g := gb957) (o := .cells #[.int .i64 t955, .int .i64 t956] 23 (0, 0)) (bF) hb); have n1_ := Aside0.mk (blk_below (g := gb1000) (o := .cells #[.int .i64 t997, .int .i64 t998] 23 (0, 0)) (bF) hb); have n2_ := Aside0.mk (blk_below (g := gb1008) (o := .cells #[.int .i64 t1005, .int .i64 t1006] 23 (0, 0)) (bF) hb); have n3_ := Aside0.mk (blk_below (g := gb1021) (o := .cells #[.int .i64 t1017, .int .i64 t1018] 23 (0, 0)) (by (with_reducible repeat (first | refine g_d ?_ _ | refine g_e ?_ | refine g_a ?_ _)); refine blk_put (cs := #[.int .i64 t1017, .int .i64 0]) ?_ 1 _ rfl; (with_reducible repeat (first | refine g_d ?_ _ | refine g_e ?_ | refine g_a ?_ _)); refine blk_put (cs := #[.int .i64 0, .int .i64 0]) ?_ 0 _ rfl; (with_reducible repeat (first | refine g_d ?_ _ | refine g_e ?_ | refine g_a ?_ _)); exact BK1021.out) hb); replace HB := bsx hb HB; clear BK957; clear BK1000; clear BK1008; clear BK1021; have BK957 := n0_; have BK1000 := n1_; have BK1008 := n2_; have BK1021 := n3_; clear n0_ n1_ n2_ n3_; (try clear hb); (try clear hb2); (try clear hk); (try clear hi); have hcz154_0 := cz0 BK1021; have hcz154_1 := cz1 BK1021; have hfz154_0 := blk_frozen BK1021.out 0; have hfz154_1 := blk_frozen BK1021.out 1) | ((with_reducible refine gate_callee (f := 27) rfl ?_); refine goesL_ (some 414) rfl rfl Tryz.func27 (by kernel_rfl) rfl #[.agg #[.int .i64 t1017, .int .i64 t1018], .string t1019, .string t1020] rfl (by (try simp only [m_1, m_2, m_3]); first | done | rfl | (simp only [m_4, m_5]; rfl)) ?_; (with_reducible refine (spec_StepsToOpen.calls kj58 t1017 t1018 t1019 t1020 t1024 t1025 _ A126.out).mono ?_); rintro e w155 ⟨rfl, hb⟩; refine ⟨_, rfl, ?_⟩; replace BK957 := bbx hb BK957; replace BK1000 := bbx hb BK1000; replace BK1008 := bbx hb BK1008; replace BK1021 := bbx hb BK1021; replace HB := bsx hb HB; skip; (try clear hb); (try clear hb2); (try clear hk); (try clear hi)))
  (try simp only [Act.put, s_1, s_2, s_3])
  go_cut [461] from 1 to 0 (fun v461 wc => ∃ (kq : Nat) (x461_126 : Bool), v461 = .bool x461_126 ∧ Aside0 (laws_FnRingsOpen.j5 kq t1007 t1009 t1010 t1013 t1014 t1019 t1020 t1022 t1023 x461_126 t1005 t1006 t1017 t1018 = some r) ∧ Aside0 (kq ≤ kj58) ∧ Aside0 (wc.heap[gb957]? = some (.cells #[.int .i64 t955, .int .i64 t956] 23 (0, 0))) ∧ Aside0 (wc.heap[gb1000]? = some (.cells #[.int .i64 t997, .int .i64 t998] 23 (0, 0))) ∧ Aside0 (wc.heap[gb1008]? = some (.cells #[.int .i64 t1005, .int .i64 t1006] 23 (0, 0))) ∧ Aside0 (wc.heap[gb1021]? = some (.cells #[.int .i64 t1017, .int .i64 t1018] 23 (0, 0))) ∧ Aside0 (Below w.heap.size w wc))
  case first => as_aux_lemma =>
    have H := HC127.out
    clear HC127
    by_cases c156 : (t1002 != t1004) = true
    · rw [if_pos c156] at H
      have c156b0 : (t1002 != t1004) = true := c156
      (try (have c156b1 : decide (t1002 = t1004) = false := by simpa using c156))
      (try (have c156b2 : (t1002 == t1004) = false := by simpa using c156))
      (try (have c156b3 : ¬ (t1002 = t1004) := by simpa using c156))
      clear c156
      (first | rw [c156b0] | (simp only [i64_w, i32_w]; rw [c156b0]) | skip)
      rw [HRT.out] at H
      exact absurd H (by generalize kj58 = q_; cases q_ <;> simp [laws_FnRingsOpen.j5])
    rw [if_neg c156] at H
    have c156b0 : (t1002 != t1004) = false := by simpa using c156
    (try (have c156b1 : decide (t1002 = t1004) = true := by simpa using c156))
    (try (have c156b2 : (t1002 == t1004) = true := by simpa using c156))
    clear c156
    (first | rw [c156b0] | (simp only [i64_w, i32_w]; rw [c156b0]) | skip)
    by_cases c157 : t1001 = t1003
    rotate_left
    · rw [if_neg c157] at H
      have c157b0 : (t1001 == t1003) = false := beq_eq_false_iff_ne.mpr c157
      have c157b1 : (t1001 != t1003) = true := bne_iff_ne.mpr c157
      rw [HRT.out] at H
      exact absurd H (by generalize kj58 = q_; cases q_ <;> simp [laws_FnRingsOpen.j5])
    rw [if_pos c157] at H
    have c157b0 : (t1001 == t1003) = true := beq_iff_eq.mpr c157
    have c157b1 : (t1001 != t1003) = false := bne_eq_false_iff_eq.mpr c157
    clear c157
    by_cases c158 : (t1010 != t1012) = true
    · rw [if_pos c158] at H
      have c158b0 : (t1010 != t1012) = true := c158
      (try (have c158b1 : decide (t1010 = t1012) = false := by simpa using c158))
      (try (have c158b2 : (t1010 == t1012) = false := by simpa using c158))
      (try (have c158b3 : ¬ (t1010 = t1012) := by simpa using c158))
      clear c158
      rw [HRT.out] at H
      exact absurd H (by generalize kj58 = q_; cases q_ <;> simp [laws_FnRingsOpen.j5])
    rw [if_neg c158] at H
    have c158b0 : (t1010 != t1012) = false := by simpa using c158
    (try (have c158b1 : decide (t1010 = t1012) = true := by simpa using c158))
    (try (have c158b2 : (t1010 == t1012) = true := by simpa using c158))
    clear c158
    by_cases c159 : t1009 = t1011
    rotate_left
    · rw [if_neg c159] at H
      have c159b0 : (t1009 == t1011) = false := beq_eq_false_iff_ne.mpr c159
      have c159b1 : (t1009 != t1011) = true := bne_iff_ne.mpr c159
      rw [HRT.out] at H
      exact absurd H (by generalize kj58 = q_; cases q_ <;> simp [laws_FnRingsOpen.j5])
    rw [if_pos c159] at H
    have c159b0 : (t1009 == t1011) = true := beq_iff_eq.mpr c159
    have c159b1 : (t1009 != t1011) = false := bne_eq_false_iff_eq.mpr c159
    clear c159
    by_cases c160 : (t1014 != t1016) = true
    · rw [if_pos c160] at H
      have c160b0 : (t1014 != t1016) = true := c160
      (try (have c160b1 : decide (t1014 = t1016) = false := by simpa using c160))
      (try (have c160b2 : (t1014 == t1016) = false := by simpa using c160))
      (try (have c160b3 : ¬ (t1014 = t1016) := by simpa using c160))
      clear c160
      rw [HRT.out] at H
      exact absurd H (by generalize kj58 = q_; cases q_ <;> simp [laws_FnRingsOpen.j5])
    rw [if_neg c160] at H
    have c160b0 : (t1014 != t1016) = false := by simpa using c160
    (try (have c160b1 : decide (t1014 = t1016) = true := by simpa using c160))
    (try (have c160b2 : (t1014 == t1016) = true := by simpa using c160))
    clear c160
    by_cases c161 : t1013.toList = t1015.toList
    rotate_left
    · rw [if_neg c161] at H
      have c161b0 : (t1013.toList == t1015.toList) = false := beq_eq_false_iff_ne.mpr c161
      have c161b1 : (t1013.toList != t1015.toList) = true := bne_iff_ne.mpr c161
      rw [HRT.out] at H
      exact absurd H (by generalize kj58 = q_; cases q_ <;> simp [laws_FnRingsOpen.j5])
    rw [if_pos c161] at H
    have c161b0 : (t1013.toList == t1015.toList) = true := beq_iff_eq.mpr c161
    have c161b1 : (t1013.toList != t1015.toList) = false := bne_eq_false_iff_eq.mpr c161
    clear c161
    by_cases c162 : (t1023 != t1025) = true
    · rw [if_pos c162] at H
      have c162b0 : (t1023 != t1025) = true := c162
      (try (have c162b1 : decide (t1023 = t1025) = false := by simpa using c162))
      (try (have c162b2 : (t1023 == t1025) = false := by simpa using c162))
      (try (have c162b3 : ¬ (t1023 = t1025) := by simpa using c162))
      clear c162
      rw [HRT.out] at H
      exact absurd H (by generalize kj58 = q_; cases q_ <;> simp [laws_FnRingsOpen.j5])
    rw [if_neg c162] at H
    have c162b0 : (t1023 != t1025) = false := by simpa using c162
    (try (have c162b1 : decide (t1023 = t1025) = true := by simpa using c162))
    (try (have c162b2 : (t1023 == t1025) = true := by simpa using c162))
    clear c162
    by_cases c163 : t1022 = t1024
    rotate_left
    · rw [if_neg c163] at H
      have c163b0 : (t1022 == t1024) = false := beq_eq_false_iff_ne.mpr c163
      have c163b1 : (t1022 != t1024) = true := bne_iff_ne.mpr c163
      rw [HRT.out] at H
      exact absurd H (by generalize kj58 = q_; cases q_ <;> simp [laws_FnRingsOpen.j5])
    rw [if_pos c163] at H
    have c163b0 : (t1022 == t1024) = true := beq_iff_eq.mpr c163
    have c163b1 : (t1022 != t1024) = false := bne_eq_false_iff_eq.mpr c163
    clear c163
    by_cases c164 : t1014 = true
    · subst c164
      rw [if_pos rfl] at H
      have H' := Aside0.mk H
      clear H
      go_wp2
      go_meet
      case rel => refine ⟨_, (!t1010), (by first | rfl | (simp; done) | (simp [*]; done)), H', ⟨by have := HJ15.out; have := HJ58.out; first | omega | exact Nat.le_refl _⟩, ⟨?_⟩, ⟨?_⟩, ⟨?_⟩, ⟨?_⟩, ⟨bB HB⟩⟩ <;> (with_reducible repeat (first | refine g_d ?_ _ | refine g_e ?_ | refine g_a ?_ _)) <;> first | exact BK957.out | exact BK1000.out | exact BK1008.out | exact BK1021.out
    replace c164 := Bool.eq_false_iff.mpr c164
    subst c164
    rw [if_neg (show ¬ (false = true) by decide)] at H
    have H' := Aside0.mk H
    clear H
    go_wp2
    go_meet
    case rel => refine ⟨_, (false), (by first | rfl | (simp; done) | (simp [*]; done)), H', ⟨by have := HJ15.out; have := HJ58.out; first | omega | exact Nat.le_refl _⟩, ⟨?_⟩, ⟨?_⟩, ⟨?_⟩, ⟨?_⟩, ⟨bB HB⟩⟩ <;> (with_reducible repeat (first | refine g_d ?_ _ | refine g_e ?_ | refine g_a ?_ _)) <;> first | exact BK957.out | exact BK1000.out | exact BK1008.out | exact BK1021.out
  clear HC127
  try clear c1
  try clear hcz131_0
  try clear hcz131_1
  try clear hcz133_0
  try clear hcz133_1
  try clear hcz139_0
  try clear hcz139_1
  try clear hcz141_0
  try clear hcz141_1
  try clear hcz143_0
  try clear hcz143_1
  try clear hcz145_0
  try clear hcz145_1
  try clear hcz152_0
  try clear hcz152_1
  try clear hcz154_0
  try clear hcz154_1
  try clear hfz131_0
  try clear hfz131_1
  try clear hfz133_0
  try clear hfz133_1
  try clear hfz139_0
  try clear hfz139_1
  try clear hfz141_0
  try clear hfz141_1
  try clear hfz143_0
  try clear hfz143_1
  try clear hfz145_0
  try clear hfz145_1
  try clear hfz152_0
  try clear hfz152_1
  try clear hfz154_0
  try clear hfz154_1
  obtain ⟨kq, x461_126, rfl, HA, HJ126, BK957, BK1000, BK1008, BK1021, HB⟩ := hcut
  rcases kq with _ | kj126
  · exact absurd HA.out (by simp [laws_FnRingsOpen.j5])
  have H := HA.out
  clear HA
  simp only [laws_FnRingsOpen.j5] at H
  by_cases c165 : x461_126 = true
  · subst c165
    rw [if_pos rfl] at H
    rw [HRT.out] at H
    exact absurd H (by simp)
  replace c165 := Bool.eq_false_iff.mpr c165
  subst c165
  rw [if_neg (show ¬ (false = true) by decide)] at H
  have HC166 := Aside0.mk H
  clear H
  go_upto_if 462 with (fail)
  go_cut [] from 1 to 0 (fun wc => ∃ (kq : Nat), Aside0 (laws_FnRingsOpen.j6 kq t1007 t1013 t1014 t1019 t1020 t1022 t1023 t1005 t1006 t1017 t1018 = some r) ∧ Aside0 (kq ≤ kj126) ∧ Aside0 (wc.heap[gb957]? = some (.cells #[.int .i64 t955, .int .i64 t956] 23 (0, 0))) ∧ Aside0 (wc.heap[gb1000]? = some (.cells #[.int .i64 t997, .int .i64 t998] 23 (0, 0))) ∧ Aside0 (wc.heap[gb1008]? = some (.cells #[.int .i64 t1005, .int .i64 t1006] 23 (0, 0))) ∧ Aside0 (wc.heap[gb1021]? = some (.cells #[.int .i64 t1017, .int .i64 t1018] 23 (0, 0))) ∧ Aside0 (Below w.heap.size w wc))
  case first => as_aux_lemma =>
    have H := HC166.out
    clear HC166
    by_cases c167 : t1010 = true
    rotate_left
    · replace c167 := Bool.eq_false_iff.mpr c167
      subst c167
      rw [if_neg (show ¬ (false = true) by decide)] at H
      have H' := Aside0.mk H
      clear H
      go_wp2
      go_meet
      case rel => refine ⟨_, H', ⟨by have := HJ15.out; have := HJ58.out; have := HJ126.out; first | omega | exact Nat.le_refl _⟩, ⟨?_⟩, ⟨?_⟩, ⟨?_⟩, ⟨?_⟩, ⟨bB HB⟩⟩ <;> (with_reducible repeat (first | refine g_d ?_ _ | refine g_e ?_ | refine g_a ?_ _)) <;> first | exact BK957.out | exact BK1000.out | exact BK1008.out | exact BK1021.out
    subst c167
    rw [if_pos rfl] at H
    replace H := Option.bind_eq_some_iff.mp H
    obtain ⟨⟨t1026, t1027⟩, A1680, H⟩ := H
    try dsimp only at H
    have A168 := Aside0.mk A1680
    clear A1680
    by_cases c169 : t1027 = true
    rotate_left
    · replace c169 := Bool.eq_false_iff.mpr c169
      subst c169
      rw [if_neg (show ¬ (false = true) by decide)] at H
      rw [HRT.out] at H
      exact absurd H (by simp)
    subst c169
    rw [if_pos rfl] at H
    by_cases c170 : t1009 < 0
    · rw [if_pos c170] at H
      have c170b0 : decide (t1009 < 0) = true := decide_eq_true c170
      clear c170
      (first | rw [c170b0] | (simp only [i64_w, i32_w]; rw [c170b0]) | skip)
      rw [HRT.out] at H
      exact absurd H (by simp)
    rw [if_neg c170] at H
    have c170b0 : decide (t1009 < 0) = false := decide_eq_false c170
    clear c170
    (first | rw [c170b0] | (simp only [i64_w, i32_w]; rw [c170b0]) | skip)
    by_cases c171 : t1009 > t1026
    · rw [if_pos c171] at H
      have c171b0 : decide (t1026 < t1009) = true := decide_eq_true c171
      clear c171
      rw [HRT.out] at H
      exact absurd H (by simp)
    rw [if_neg c171] at H
    have c171b0 : decide (t1026 < t1009) = false := decide_eq_false c171
    clear c171
    by_cases c172 : ((t1009 == t1026) == t1014) = true
    · rw [if_pos c172] at H
      have c172b0 : ((t1009 == t1026) == t1014) = true := c172
      (try (have c172b1 : decide ((t1009 == t1026) = t1014) = true := by simpa using c172))
      (try (have c172b2 : ((t1009 == t1026) == t1014) = true := by simpa using c172))
      clear c172
      rw [HRT.out] at H
      exact absurd H (by simp)
    rw [if_neg c172] at H
    have c172b0 : ((t1009 == t1026) == t1014) = false := by simpa using c172
    (try (have c172b1 : decide ((t1009 == t1026) = t1014) = false := by simpa using c172))
    (try (have c172b2 : ((t1009 == t1026) == t1014) = false := by simpa using c172))
    (try (have c172b3 : ¬ ((t1009 == t1026) = t1014) := by simpa using c172))
    clear c172
    have H' := Aside0.mk H
    clear H
    have hnb173 := eq_false NB1008_957.out
    have hnc173 := eq_false NB957_1008.out
    have hnb174 := eq_false NB1008_1000.out
    have hnc174 := eq_false NB1000_1008.out
    have hnb175 := eq_false NB1008_1021.out
    have hnc175 := eq_false NB1021_1008.out
    have hcz176_0 := cz0 BK1008
    have hcz176_1 := cz1 BK1008
    have hfz176_0 := blk_frozen BK1008.out 0
    have hfz176_1 := blk_frozen BK1008.out 1
    go_wp2_with (first | ((with_reducible refine gate_callee (f := 17) rfl ?_); refine goesL_ (some 465) rfl rfl Tryz.func17 (by kernel_rfl) rfl #[.agg #[.int .i64 t1005, .int .i64 t1006]] rfl (by (try simp only [m_1, m_2, m_3]); first | done | rfl | (simp only [m_4, m_5]; rfl)) ?_; (with_reducible refine (impl_CountCodes.calls kj126 t1005 t1006 t1026 true _ A168.out).mono ?_); rintro e w177 ⟨rfl, hb⟩; refine ⟨_, rfl, ?_⟩; replace BK957 := bbx hb BK957; replace BK1000 := bbx hb BK1000; replace BK1008 := bbx hb BK1008; replace BK1021 := bbx hb BK1021; replace HB := bsx hb HB; skip; (try clear hb); (try clear hb2); (try clear hk); (try clear hi)))
    go_meet
    case rel => refine ⟨_, H', ⟨by have := HJ15.out; have := HJ58.out; have := HJ126.out; first | omega | exact Nat.le_refl _⟩, ⟨?_⟩, ⟨?_⟩, ⟨?_⟩, ⟨?_⟩, ⟨bB HB⟩⟩ <;> (with_reducible repeat (first | refine g_d ?_ _ | refine g_e ?_ | refine g_a ?_ _)) <;> first | exact BK957.out | exact BK1000.out | exact BK1008.out | exact BK1021.out
  clear HC166
  try clear c165
  obtain ⟨kq, HA, HJ165, BK957, BK1000, BK1008, BK1021, HB⟩ := hcut
  rcases kq with _ | kj165
  · exact absurd HA.out (by simp [laws_FnRingsOpen.j6])
  have H := HA.out
  clear HA
  simp only [laws_FnRingsOpen.j6] at H
  have HC178 := Aside0.mk H
  clear H
  go_upto_if 486 with (fail)
  go_cut [] from 1 to 0 (fun wc => ∃ (kq : Nat), Aside0 (laws_FnRingsOpen.j7 kq t1019 t1020 t1022 t1023 t1017 t1018 = some r) ∧ Aside0 (kq ≤ kj165) ∧ Aside0 (wc.heap[gb957]? = some (.cells #[.int .i64 t955, .int .i64 t956] 23 (0, 0))) ∧ Aside0 (wc.heap[gb1000]? = some (.cells #[.int .i64 t997, .int .i64 t998] 23 (0, 0))) ∧ Aside0 (wc.heap[gb1008]? = some (.cells #[.int .i64 t1005, .int .i64 t1006] 23 (0, 0))) ∧ Aside0 (wc.heap[gb1021]? = some (.cells #[.int .i64 t1017, .int .i64 t1018] 23 (0, 0))) ∧ Aside0 (Below w.heap.size w wc))
  case first => as_aux_lemma =>
    have H := HC178.out
    clear HC178
    by_cases c179 : t1014 = true
    rotate_left
    · replace c179 := Bool.eq_false_iff.mpr c179
      subst c179
      rw [if_neg (show ¬ (false = true) by decide)] at H
      have H' := Aside0.mk H
      clear H
      go_wp2
      go_meet
      case rel => refine ⟨_, H', ⟨by have := HJ15.out; have := HJ58.out; have := HJ126.out; have := HJ165.out; first | omega | exact Nat.le_refl _⟩, ⟨?_⟩, ⟨?_⟩, ⟨?_⟩, ⟨?_⟩, ⟨bB HB⟩⟩ <;> (with_reducible repeat (first | refine g_d ?_ _ | refine g_e ?_ | refine g_a ?_ _)) <;> first | exact BK957.out | exact BK1000.out | exact BK1008.out | exact BK1021.out
    subst c179
    rw [if_pos rfl] at H
    replace H := Option.bind_eq_some_iff.mp H
    obtain ⟨⟨t1028, t1029⟩, A1800, H⟩ := H
    try dsimp only at H
    have A180 := Aside0.mk A1800
    clear A1800
    by_cases c181 : t1029 = true
    · subst c181
      rw [if_pos rfl] at H
      rw [HRT.out] at H
      exact absurd H (by simp)
    replace c181 := Bool.eq_false_iff.mpr c181
    subst c181
    rw [if_neg (show ¬ (false = true) by decide)] at H
    have H' := Aside0.mk H
    clear H
    have hnb182 := eq_false NB1008_957.out
    have hnc182 := eq_false NB957_1008.out
    have hnb183 := eq_false NB1008_1000.out
    have hnc183 := eq_false NB1000_1008.out
    have hnb184 := eq_false NB1008_1021.out
    have hnc184 := eq_false NB1021_1008.out
    have hcz185_0 := cz0 BK1008
    have hcz185_1 := cz1 BK1008
    have hfz185_0 := blk_frozen BK1008.out 0
    have hfz185_1 := blk_frozen BK1008.out 1
    go_wp2_with (first | ((with_reducible refine gate_callee (f := 26) rfl ?_); refine goesL_ (some 491) rfl rfl Tryz.func26 (by kernel_rfl) rfl #[.agg #[.int .i64 t1005, .int .i64 t1006], .string t1007, .string t1013] rfl (by (try simp only [m_1, m_2, m_3]); first | done | rfl | (simp only [m_4, m_5]; rfl)) ?_; (with_reducible refine (impl_StepsToOpen.calls kj165 t1005 t1006 t1007 t1013 t1028 false _ (strings_Index.gl_below HG.out (bB HB)) A180.out).mono ?_); rintro e w186 ⟨rfl, hb⟩; refine ⟨_, rfl, ?_⟩; replace BK957 := bbx hb BK957; replace BK1000 := bbx hb BK1000; replace BK1008 := bbx hb BK1008; replace BK1021 := bbx hb BK1021; replace HB := bsx hb HB; skip; (try clear hb); (try clear hb2); (try clear hk); (try clear hi)))
    go_meet
    case rel => refine ⟨_, H', ⟨by have := HJ15.out; have := HJ58.out; have := HJ126.out; have := HJ165.out; first | omega | exact Nat.le_refl _⟩, ⟨?_⟩, ⟨?_⟩, ⟨?_⟩, ⟨?_⟩, ⟨bB HB⟩⟩ <;> (with_reducible repeat (first | refine g_d ?_ _ | refine g_e ?_ | refine g_a ?_ _)) <;> first | exact BK957.out | exact BK1000.out | exact BK1008.out | exact BK1021.out
  clear HC178
  obtain ⟨kq, HA, HJ177, BK957, BK1000, BK1008, BK1021, HB⟩ := hcut
  rcases kq with _ | kj177
  · exact absurd HA.out (by simp [laws_FnRingsOpen.j7])
  have H := HA.out
  clear HA
  simp only [laws_FnRingsOpen.j7] at H
  by_cases c187 : t1023 = true
  rotate_left
  · replace c187 := Bool.eq_false_iff.mpr c187
    subst c187
    rw [if_neg (show ¬ (false = true) by decide)] at H
    obtain rfl := Option.some.inj H
    go_wp2
    go_ret
    exact ⟨by first | rfl | (simp [errW_none, errW_some] <;> rfl) | (simp [*, errW_none, errW_some] <;> rfl), bB HB⟩

  subst c187
  rw [if_pos rfl] at H
  by_cases c188 : 0 ≤ t1022
  rotate_left
  · rw [if_neg c188] at H
    exact absurd H (by simp)
  rw [if_pos c188] at H
  have c188b0 := eq_true c188
  have c188b1 : decide (0 ≤ t1022) = true := decide_eq_true c188
  clear c188
  by_cases c189 : t1022 ≤ (t1019.size : Int)
  rotate_left
  · rw [if_neg c189] at H
    exact absurd H (by simp)
  rw [if_pos c189] at H
  have c189b0 := eq_true c189
  have c189b1 : decide (t1022 ≤ (t1019.size : Int)) = true := decide_eq_true c189
  clear c189
  replace H := Option.bind_eq_some_iff.mp H
  obtain ⟨⟨t1030, t1031⟩, A1900, H⟩ := H
  try dsimp only at H
  have A190 := Aside0.mk A1900
  clear A1900
  obtain ⟨ji191, hji191⟩ : ∃ j_ : Int, (wrap64 (t1022 - 1)) = j_ := ⟨_, rfl⟩
  replace H : (if 0 ≤ (ji191) then (if (ji191) ≤ (t1019.size : Int) then ((impl_CountOpened.f kj177 t1017 t1018 (t1019.extract 0 ((ji191) : Int).toNat)).bind fun bt1032 => (if t1022 < t1017 then (some false) else (if t1022 > (t1019.size : Int) then (some false) else (if 0 ≤ (wrap64 (t1022 - t1017)) then (if (wrap64 (t1022 - t1017)) ≤ t1022 then (if (t1019.extract ((wrap64 (t1022 - t1017)) : Int).toNat (t1022 : Int).toNat).toList = t1020.toList then (if t1031 = true then (if bt1032.2 = true then (if t1030 = (wrap64 (bt1032.1 + 1)) then (some true) else (some false)) else (some false)) else (some false)) else (some false)) else (none)) else (none))))) else (none)) else (none)) = some r := by first | (rw [hji191] at H; exact H) | (simp only [hji191] at H ⊢; exact H)
  (try rw [hji191] at A190)
  have hji191w : (IntKind.i64.wrap (t1022 - 1)) = ji191 := (i64_w _).trans hji191
  by_cases c192 : 0 ≤ (ji191)
  rotate_left
  · rw [if_neg c192] at H
    exact absurd H (by simp)
  rw [if_pos c192] at H
  have c192b0 := eq_true c192
  have c192b1 : decide (0 ≤ (ji191)) = true := decide_eq_true c192
  clear c192
  by_cases c193 : (ji191) ≤ (t1019.size : Int)
  rotate_left
  · rw [if_neg c193] at H
    exact absurd H (by simp)
  rw [if_pos c193] at H
  have c193b0 := eq_true c193
  have c193b1 : decide ((ji191) ≤ (t1019.size : Int)) = true := decide_eq_true c193
  clear c193
  replace H := Option.bind_eq_some_iff.mp H
  obtain ⟨⟨t1032, t1033⟩, A1940, H⟩ := H
  try dsimp only at H
  have A194 := Aside0.mk A1940
  clear A1940
  by_cases c195 : t1022 < t1017
  · rw [if_pos c195] at H
    have c195b0 : decide (t1022 < t1017) = true := decide_eq_true c195
    clear c195
    rw [HRT.out] at H
    exact absurd H (by simp)
  rw [if_neg c195] at H
  have c195b0 : decide (t1022 < t1017) = false := decide_eq_false c195
  clear c195
  by_cases c196 : t1022 > (t1019.size : Int)
  · rw [if_pos c196] at H
    have c196b0 : decide ((t1019.size : Int) < t1022) = true := decide_eq_true c196
    clear c196
    rw [HRT.out] at H
    exact absurd H (by simp)
  rw [if_neg c196] at H
  have c196b0 : decide ((t1019.size : Int) < t1022) = false := decide_eq_false c196
  clear c196
  obtain ⟨ji197, hji197⟩ : ∃ j_ : Int, (wrap64 (t1022 - t1017)) = j_ := ⟨_, rfl⟩
  replace H : (if 0 ≤ (ji197) then (if (ji197) ≤ t1022 then (if (t1019.extract ((ji197) : Int).toNat (t1022 : Int).toNat).toList = t1020.toList then (if t1031 = true then (if t1033 = true then (if t1030 = (wrap64 (t1032 + 1)) then (some true) else (some false)) else (some false)) else (some false)) else (some false)) else (none)) else (none)) = some r := by first | (rw [hji197] at H; exact H) | (simp only [hji197] at H ⊢; exact H)
  (try rw [hji197] at A190)
  (try rw [hji197] at A194)
  have hji197w : (IntKind.i64.wrap (t1022 - t1017)) = ji197 := (i64_w _).trans hji197
  by_cases c198 : 0 ≤ (ji197)
  rotate_left
  · rw [if_neg c198] at H
    exact absurd H (by simp)
  rw [if_pos c198] at H
  have c198b0 := eq_true c198
  have c198b1 : decide (0 ≤ (ji197)) = true := decide_eq_true c198
  clear c198
  by_cases c199 : (ji197) ≤ t1022
  rotate_left
  · rw [if_neg c199] at H
    exact absurd H (by simp)
  rw [if_pos c199] at H
  have c199b0 := eq_true c199
  have c199b1 : decide ((ji197) ≤ t1022) = true := decide_eq_true c199
  clear c199
  have c200b0 := eq_true (of_decide_eq_true (by first | (with_reducible assumption) | assumption) : t1022 ≤ (t1019.size : Int))
  by_cases c201 : (t1019.extract ((ji197) : Int).toNat (t1022 : Int).toNat).toList = t1020.toList
  rotate_left
  · rw [if_neg c201] at H
    have c201b0 : ((t1019.extract ((ji197) : Int).toNat (t1022 : Int).toNat).toList == t1020.toList) = false := beq_eq_false_iff_ne.mpr c201
    have c201b1 : ((t1019.extract ((ji197) : Int).toNat (t1022 : Int).toNat).toList != t1020.toList) = true := bne_iff_ne.mpr c201
    rw [HRT.out] at H
    exact absurd H (by simp)
  rw [if_pos c201] at H
  have c201b0 : ((t1019.extract ((ji197) : Int).toNat (t1022 : Int).toNat).toList == t1020.toList) = true := beq_iff_eq.mpr c201
  have c201b1 : ((t1019.extract ((ji197) : Int).toNat (t1022 : Int).toNat).toList != t1020.toList) = false := bne_eq_false_iff_eq.mpr c201
  clear c201
  by_cases c202 : t1031 = true
  rotate_left
  · replace c202 := Bool.eq_false_iff.mpr c202
    subst c202
    rw [if_neg (show ¬ (false = true) by decide)] at H
    rw [HRT.out] at H
    exact absurd H (by simp)
  subst c202
  rw [if_pos rfl] at H
  by_cases c203 : t1033 = true
  rotate_left
  · replace c203 := Bool.eq_false_iff.mpr c203
    subst c203
    rw [if_neg (show ¬ (false = true) by decide)] at H
    rw [HRT.out] at H
    exact absurd H (by simp)
  subst c203
  rw [if_pos rfl] at H
  by_cases c204 : t1030 = (wrap64 (t1032 + 1))
  rotate_left
  · rw [if_neg c204] at H
    have c204b0 : (t1030 == (wrap64 (t1032 + 1))) = false := beq_eq_false_iff_ne.mpr c204
    have c204b1 : (t1030 != (wrap64 (t1032 + 1))) = true := bne_iff_ne.mpr c204
    rw [HRT.out] at H
    exact absurd H (by simp)
  rw [if_pos c204] at H
  have c204b0 : (t1030 == (wrap64 (t1032 + 1))) = true := beq_iff_eq.mpr c204
  have c204b1 : (t1030 != (wrap64 (t1032 + 1))) = false := bne_eq_false_iff_eq.mpr c204
  clear c204
  obtain rfl := Option.some.inj H
  try go_wp2
  have n0_ := Aside0.mk (g_e BK957.out)
  have n1_ := Aside0.mk (g_e BK1000.out)
  have n2_ := Aside0.mk (g_e BK1008.out)
  have n3_ := Aside0.mk (g_e BK1021.out)
  have n4_ := Aside0.mk (b_e HB.out)
  clear BK957
  clear BK1000
  clear BK1008
  clear BK1021
  clear HB
  have BK957 := n0_
  have BK1000 := n1_
  have BK1008 := n2_
  have BK1021 := n3_
  have HB := n4_
  clear n0_ n1_ n2_ n3_ n4_
  refine start_ (n := 10) (S := fun w' => w'.cell? ⟨gb1021, 0, none⟩ = some (.int .i64 t1017) ∧ w'.cell? ⟨gb1021, 1, none⟩ = some (.int .i64 t1018)) (ds := []) (bs_ 10 0) (by kernel_rfl) rfl rfl ⟨(blk_cell BK1021.out 0).trans rfl, (blk_cell BK1021.out 1).trans rfl⟩ (fun hHeld => ?_); refine with_tabW laws_FnRingsOpen.tab68 laws_FnRingsOpen.bits68 (fun HT_ HW_ => ?_)
  generalize wc.drew = w205 at BK957 BK1000 BK1008 BK1021 HB hHeld ⊢
  refine pua 1 498 (bs_ 10 2) HT_ ?_
  refine pua 2 499 (bs_ 10 6) HT_ ?_
  refine pua 3 500 (bs_ 10 14) HT_ ?_
  refine tk_ 0 497 (bs_ 10 15) rfl rfl HT_ HW_ (by kernel_rfl) (fun _ _ _ h => h) (by rfl) hHeld (by rintro w' ⟨s0, s1⟩; go_simp; with_reducible rfl) (by simp only [Act.put, s_1, s_2, s_3, i64_w, i32_w]; rfl) ?_
  refine one_ (i := 4) (N := some 501) (bs_ 10 31) rfl rfl (one_of HT_.out (by kernel_rfl)) (by decide) (fun K hK => ?_)
  refine goes_ Tryz.func18 (by kernel_rfl) rfl #[.agg #[.int .i64 t1017, .int .i64 t1018], .string (t1019.extract 0 (t1022 : Int).toNat)] (by rfl) rfl rfl (by (try simp only [m_1, m_2, m_3]); first | done | rfl | (simp only [m_4, m_5]; rfl)) ?_
  with_reducible refine (impl_CountOpened.calls kj177 t1017 t1018 (t1019.extract 0 (t1022 : Int).toNat) t1030 true _ A190.out).mono ?_
  rintro e w206 ⟨rfl, hb⟩
  refine ⟨_, rfl, ?_⟩
  have n0_ := bbx hb BK957
  have n1_ := bbx hb BK1000
  have n2_ := bbx hb BK1008
  have n3_ := bbx hb BK1021
  have n4_ := bsx hb HB
  clear BK957
  clear BK1000
  clear BK1008
  clear BK1021
  clear HB
  have BK957 := n0_
  have BK1000 := n1_
  have BK1008 := n2_
  have BK1021 := n3_
  have HB := n4_
  clear n0_ n1_ n2_ n3_ n4_
  (try clear hb)
  (try clear hb2)
  (try clear hk)
  (try clear hi)
  refine hK.out _ _ ⟨(blk_cell BK1021.out 0).trans rfl, (blk_cell BK1021.out 1).trans rfl⟩ (fun hHeld => ?_)
  clear hK K
  refine norm_ (a' := ?_) ?_ ?_
  rotate_left
  · show Act.put _ (some 501) _ = _
    simp only [Act.put, s_1, s_2, s_3, i64_w, i32_w]
    rfl
  refine pua 5 496 (bs_ 10 63) HT_ ?_
  refine pua 6 502 (bs_ 10 127) HT_ ?_
  refine pua 7 503 (bs_ 10 255) HT_ ?_
  refine pua 8 71 (bs_ 10 511) HT_ ?_
  refine pua 9 72 (bs_ 10 1023) HT_ ?_
  refine done_ (done_of HT_.out (by kernel_rfl)) ?_
  try go_wp2
  have n0_ := Aside0.mk (g_e BK957.out)
  have n1_ := Aside0.mk (g_e BK1000.out)
  have n2_ := Aside0.mk (g_e BK1008.out)
  have n3_ := Aside0.mk (g_e BK1021.out)
  have n4_ := Aside0.mk (b_e HB.out)
  clear BK957
  clear BK1000
  clear BK1008
  clear BK1021
  clear HB
  have BK957 := n0_
  have BK1000 := n1_
  have BK1008 := n2_
  have BK1021 := n3_
  have HB := n4_
  clear n0_ n1_ n2_ n3_ n4_
  refine start_ (n := 11) (S := fun w' => w'.cell? ⟨gb1021, 0, none⟩ = some (.int .i64 t1017) ∧ w'.cell? ⟨gb1021, 1, none⟩ = some (.int .i64 t1018)) (ds := []) (bs_ 11 0) (by kernel_rfl) rfl rfl ⟨(blk_cell BK1021.out 0).trans rfl, (blk_cell BK1021.out 1).trans rfl⟩ (fun hHeld => ?_); refine with_tabW laws_FnRingsOpen.tab69 laws_FnRingsOpen.bits69 (fun HT_ HW_ => ?_)
  generalize w206.drew = w207 at BK957 BK1000 BK1008 BK1021 HB hHeld ⊢
  refine pua 1 506 (bs_ 11 2) HT_ ?_
  refine pua 2 507 (bs_ 11 6) HT_ ?_
  refine pua 3 508 (bs_ 11 14) HT_ ?_
  refine pua 4 509 (bs_ 11 30) HT_ ?_
  refine tk_ 0 505 (bs_ 11 31) rfl rfl HT_ HW_ (by kernel_rfl) (fun _ _ _ h => h) (by rfl) hHeld (by rintro w' ⟨s0, s1⟩; go_simp; with_reducible rfl) (by simp only [Act.put, s_1, s_2, s_3, i64_w, i32_w]; rfl) ?_
  refine one_ (i := 5) (N := some 510) (bs_ 11 63) rfl rfl (one_of HT_.out (by kernel_rfl)) (by decide) (fun K hK => ?_)
  refine goes_ Tryz.func18 (by kernel_rfl) rfl #[.agg #[.int .i64 t1017, .int .i64 t1018], .string (t1019.extract 0 ((ji191) : Int).toNat)] (by rfl) rfl rfl (by (try simp only [m_1, m_2, m_3]); first | done | (simp only [hji191]; rfl) | rfl | (simp only [m_4, m_5]; rfl)) ?_
  with_reducible refine (impl_CountOpened.calls kj177 t1017 t1018 (t1019.extract 0 ((ji191) : Int).toNat) t1032 true _ A194.out).mono ?_
  rintro e w208 ⟨rfl, hb⟩
  refine ⟨_, rfl, ?_⟩
  have n0_ := bbx hb BK957
  have n1_ := bbx hb BK1000
  have n2_ := bbx hb BK1008
  have n3_ := bbx hb BK1021
  have n4_ := bsx hb HB
  clear BK957
  clear BK1000
  clear BK1008
  clear BK1021
  clear HB
  have BK957 := n0_
  have BK1000 := n1_
  have BK1008 := n2_
  have BK1021 := n3_
  have HB := n4_
  clear n0_ n1_ n2_ n3_ n4_
  (try clear hb)
  (try clear hb2)
  (try clear hk)
  (try clear hi)
  refine hK.out _ _ ⟨(blk_cell BK1021.out 0).trans rfl, (blk_cell BK1021.out 1).trans rfl⟩ (fun hHeld => ?_)
  clear hK K
  refine norm_ (a' := ?_) ?_ ?_
  rotate_left
  · show Act.put _ (some 510) _ = _
    simp only [Act.put, s_1, s_2, s_3, i64_w, i32_w]
    rfl
  refine pua 6 504 (bs_ 11 127) HT_ ?_
  refine pua 7 511 (bs_ 11 255) HT_ ?_
  refine pua 8 512 (bs_ 11 511) HT_ ?_
  refine pua 9 73 (bs_ 11 1023) HT_ ?_
  refine pua 10 74 (bs_ 11 2047) HT_ ?_
  refine done_ (done_of HT_.out (by kernel_rfl)) ?_
  have hnb209 := eq_false NB1021_957.out
  have hnc209 := eq_false NB957_1021.out
  have hnb210 := eq_false NB1021_1000.out
  have hnc210 := eq_false NB1000_1021.out
  have hnb211 := eq_false NB1021_1008.out
  have hnc211 := eq_false NB1008_1021.out
  have hcz212_0 := cz0 BK1021
  have hcz212_1 := cz1 BK1021
  have hfz212_0 := blk_frozen BK1021.out 0
  have hfz212_1 := blk_frozen BK1021.out 1
  try go_wp2
  go_ret
  exact ⟨by first | rfl | (simp [errW_none, errW_some] <;> rfl) | (simp only [← hji191, ← hji197]; first | rfl | (simp [errW_none, errW_some] <;> rfl)) | (simp [*, errW_none, errW_some] <;> rfl), bB HB⟩
/-- THE ONE PURE STATEMENT of laws_FnRingsOpen: yours. -/
def laws_FnRingsOpen.Pure : Prop := ∀ (l0 : List Int) (l1 : List Int), l0.length ≤ maxLen → l0.length * 1 ≤ 140737488351232 → (∀ x ∈ l0, (Lit.int .u8 x).wf = true) → l1.length ≤ maxLen → l1.length * 1 ≤ 140737488351232 → (∀ x ∈ l1, (Lit.int .u8 x).wf = true) → ∃ k, laws_FnRingsOpen.f k l0 l1 = some true
theorem laws_FnRingsOpen.walk (P : laws_FnRingsOpen.Pure) (a0 : Option Addr) (len0 cap0 : Nat) (z0 : List Int) (a1 : Option Addr) (len1 cap1 : Nat) (z1 : List Int) (w : World) (hG : strings_Index.Gl w) (w0 : (a0 = none ∧ len0 = 0 ∧ cap0 = 0 ∧ z0 = []) ∨ ∃ x, a0 = some x ∧ len0 ≤ cap0 ∧ cap0 ≤ maxLen ∧ z0.length = cap0 ∧ (∀ i, i < z0.length → w.cell? (x.add i) = some (.int .u8 (z0.getD i 0))) ∧ ∀ n ∈ z0, (Lit.int .u8 n).wf = true) (y0 : len0 * 1 ≤ 140737488351232) (w1 : (a1 = none ∧ len1 = 0 ∧ cap1 = 0 ∧ z1 = []) ∨ ∃ x, a1 = some x ∧ len1 ≤ cap1 ∧ cap1 ≤ maxLen ∧ z1.length = cap1 ∧ (∀ i, i < z1.length → w.cell? (x.add i) = some (.int .u8 (z1.getD i 0))) ∧ ∀ n ∈ z1, (Lit.int .u8 n).wf = true) (y1 : len1 * 1 ≤ 140737488351232) :
    Calls Tryz.prog 5 #[.slice a0 len0 cap0, .slice a1 len1 cap1] w fun e w' => e = .returned (.bool true) ∧ Below w.heap.size w w' := by
  obtain ⟨l0, rfl, hr0, hm0, hw0, hc0⟩ := ReadsInt.ofRowC w0
  obtain ⟨l1, rfl, hr1, hm1, hw1, hc1⟩ := ReadsInt.ofRowC w1
  obtain ⟨k, h⟩ := P l0 l1 hm0 y0 hw0 hm1 y1 hw1
  refine (laws_FnRingsOpen.calls k _ _ l0 _ _ l1 true w (Kd.C_of_reads (d := (0 : Int)) (h1 := fun _ => rfl) hr0) hc0 (Kd.C_of_reads (d := (0 : Int)) (h1 := fun _ => rfl) hr1) hc1 hG h).mono ?_
  rintro e w' ⟨rfl, hd⟩
  exact ⟨rfl, hd⟩

end Go.Proofs.YtmpcefcgboljkaaGreat.P
