-- Texts of this session's own program (wip/dr.py), which runs the kit's printer.
import Derived.Test.YtmpcefcgboljkaaGreatPx0
import Derived.Test.YtmpcefcgboljkaaGreatPx1
import Derived.Test.YtmpcefcgboljkaaGreatPx22
import Derived.Test.YtmpcefcgboljkaaGreatPx66
import Derived.Test.YtmpcefcgboljkaaGreatPx103
import Derived.Test.YtmpcefcgboljkaaGreatPx110
import Derived.Test.YtmpcefcgboljkaaGreatPx113
import Derived.Test.YtmpcefcgboljkaaGreatPx125
namespace Go.Proofs.YtmpcefcgboljkaaGreat.P
open Go.RowKit Go.Proofs.YtmpcefcgboljkaaGreatW.PrintWords Go.Proofs.YtmpcefcgboljkaaGreatW.PrintLast Go.Proofs.YtmpcefcgboljkaaGreatW.PrintMore
attribute [local go_sem] q_leq q_gtr q_geq max2_int min2_int max_two min_two max_three min_three max_four min_four   -- for this text's walks alone
set_option linter.unusedVariables false
set_option linter.unusedSimpArgs false

/-! ### laws_FnRingsMeet: function 4 -/
mutual
def laws_FnRingsMeet.j0 : Nat → List Int → ByteArray → List ByteArray → Bool → ByteArray → Bool → Int → Int → Option (Bool)
  | 0, _, _, _, _, _, _, _, _ => none
  | k + 1, x1, x6, x11, x12, x15, x155, x801000, x801001 => if x155 = true then (some false) else (if x12 = true then ((impl_LeastRing.f k x801000 x801001).bind fun bt818 => ((impl_GreatestRing.f k x801000 x801001).bind fun bt820 => ((impl_BackRing.f k x801000 x801001 x15).bind fun bt822 => ((impl_IsRing.f k x801000 x801001 x15).bind fun bt824 => ((impl_CountCodes.f k x801000 x801001).bind fun bt826 => ((impl_CountRings.f k x801000 x801001).bind fun bt828 => (if bt818.2 = true then (if (Op.bytesLess x6.toList bt818.1.toList) = true then (laws_FnRingsMeet.j1 k x1 x6 x11 true x801000 x801001) else (if bt820.2 = true then (if (Op.bytesLess bt820.1.toList x6.toList) = true then (laws_FnRingsMeet.j1 k x1 x6 x11 true x801000 x801001) else (if bt822.2 = true then (if bt822.1.toList = x6.toList then (if bt824.2 = true then (if bt824.1 = true then (if bt826.2 = true then (if (x11.length : Int) = bt826.1 then (if (x6.size : Int) = bt826.1 then (if bt828.2 = true then (laws_FnRingsMeet.j1 k x1 x6 x11 (decide (bt828.1 < 1)) x801000 x801001) else (laws_FnRingsMeet.j1 k x1 x6 x11 false x801000 x801001)) else (laws_FnRingsMeet.j1 k x1 x6 x11 true x801000 x801001)) else (laws_FnRingsMeet.j1 k x1 x6 x11 true x801000 x801001)) else (laws_FnRingsMeet.j1 k x1 x6 x11 true x801000 x801001)) else (laws_FnRingsMeet.j1 k x1 x6 x11 true x801000 x801001)) else (laws_FnRingsMeet.j1 k x1 x6 x11 true x801000 x801001)) else (laws_FnRingsMeet.j1 k x1 x6 x11 true x801000 x801001)) else (laws_FnRingsMeet.j1 k x1 x6 x11 true x801000 x801001))) else (laws_FnRingsMeet.j1 k x1 x6 x11 true x801000 x801001))) else (laws_FnRingsMeet.j1 k x1 x6 x11 true x801000 x801001)))))))) else (laws_FnRingsMeet.j5 k x1))
def laws_FnRingsMeet.j5 : Nat → List Int → Option (Bool)
  | 0, _ => none
  | k + 1, x1 => (spec_DrawTurnedRing.f k x1).bind fun bt836 => ((impl_TurnedRing.f k bt836.1 bt836.2.1 bt836.2.2.1 bt836.2.2.2).bind fun bt841 => ((spec_TurnedRing.f k bt836.1 bt836.2.1 bt836.2.2.1 bt836.2.2.2).bind fun bt843 => ((impl_RaisedRing.f k bt836.1 bt836.2.1 bt836.2.2.1 bt836.2.2.2).bind fun bt845 => ((spec_RaisedRing.f k bt836.1 bt836.2.1 bt836.2.2.1 bt836.2.2.2).bind fun bt847 => ((spec_DrawPlaceInRing.f k x1).bind fun bt849 => ((impl_PlaceInRing.f k bt849.1 bt849.2.1 bt849.2.2).bind fun bt853 => ((spec_PlaceInRing.f k bt849.1 bt849.2.1 bt849.2.2).bind fun bt855 => ((spec_DrawCodeAtPlace.f x1).bind fun bt857 => ((impl_CodeAtPlace.f k bt857.1 bt857.2.1 bt857.2.2).bind fun bt861 => ((spec_CodeAtPlace.f k bt857.1 bt857.2.1 bt857.2.2).bind fun bt863 => (if (bt841.2 != bt843.2) = true then (laws_FnRingsMeet.j6 k bt836.2.2.1 bt836.2.2.2 bt841.1 bt841.2 bt845.1 bt845.2 bt849.2.2 bt853.1 bt853.2 bt857.2.2 bt861.1 bt861.2 true bt836.1 bt836.2.1 bt849.1 bt849.2.1 bt857.1 bt857.2.1) else (if bt841.1.toList = bt843.1.toList then (if (bt845.2 != bt847.2) = true then (laws_FnRingsMeet.j6 k bt836.2.2.1 bt836.2.2.2 bt841.1 bt841.2 bt845.1 bt845.2 bt849.2.2 bt853.1 bt853.2 bt857.2.2 bt861.1 bt861.2 true bt836.1 bt836.2.1 bt849.1 bt849.2.1 bt857.1 bt857.2.1) else (if bt845.1.toList = bt847.1.toList then (if (bt853.2 != bt855.2) = true then (laws_FnRingsMeet.j6 k bt836.2.2.1 bt836.2.2.2 bt841.1 bt841.2 bt845.1 bt845.2 bt849.2.2 bt853.1 bt853.2 bt857.2.2 bt861.1 bt861.2 true bt836.1 bt836.2.1 bt849.1 bt849.2.1 bt857.1 bt857.2.1) else (if bt853.1 = bt855.1 then (if (bt861.2 != bt863.2) = true then (laws_FnRingsMeet.j6 k bt836.2.2.1 bt836.2.2.2 bt841.1 bt841.2 bt845.1 bt845.2 bt849.2.2 bt853.1 bt853.2 bt857.2.2 bt861.1 bt861.2 true bt836.1 bt836.2.1 bt849.1 bt849.2.1 bt857.1 bt857.2.1) else (laws_FnRingsMeet.j6 k bt836.2.2.1 bt836.2.2.2 bt841.1 bt841.2 bt845.1 bt845.2 bt849.2.2 bt853.1 bt853.2 bt857.2.2 bt861.1 bt861.2 (bt861.1.toList != bt863.1.toList) bt836.1 bt836.2.1 bt849.1 bt849.2.1 bt857.1 bt857.2.1)) else (laws_FnRingsMeet.j6 k bt836.2.2.1 bt836.2.2.2 bt841.1 bt841.2 bt845.1 bt845.2 bt849.2.2 bt853.1 bt853.2 bt857.2.2 bt861.1 bt861.2 true bt836.1 bt836.2.1 bt849.1 bt849.2.1 bt857.1 bt857.2.1))) else (laws_FnRingsMeet.j6 k bt836.2.2.1 bt836.2.2.2 bt841.1 bt841.2 bt845.1 bt845.2 bt849.2.2 bt853.1 bt853.2 bt857.2.2 bt861.1 bt861.2 true bt836.1 bt836.2.1 bt849.1 bt849.2.1 bt857.1 bt857.2.1))) else (laws_FnRingsMeet.j6 k bt836.2.2.1 bt836.2.2.2 bt841.1 bt841.2 bt845.1 bt845.2 bt849.2.2 bt853.1 bt853.2 bt857.2.2 bt861.1 bt861.2 true bt836.1 bt836.2.1 bt849.1 bt849.2.1 bt857.1 bt857.2.1)))))))))))))
def laws_FnRingsMeet.j6 : Nat → ByteArray → Int → ByteArray → Bool → ByteArray → Bool → ByteArray → Int → Bool → Int → ByteArray → Bool → Bool → Int → Int → Int → Int → Int → Int → Option (Bool)
  | 0, _, _, _, _, _, _, _, _, _, _, _, _, _, _, _, _, _, _, _ => none
  | k + 1, x36, x37, x38, x39, x42, x43, x47, x48, x49, x53, x54, x55, x386, x841000, x841001, x853000, x853001, x861000, x861001 => if x386 = true then (some false) else (if x39 = true then ((impl_IsRing.f k x841000 x841001 x38).bind fun bt865 => (if (x36.size : Int) = 0 then (none) else ((impl_TurnedRing.f k x841000 x841001 x38 (Int.tmod (wrap64 ((x36.size : Int) - x37)) (x36.size : Int))).bind fun bt867 => (if bt865.2 = true then (if bt865.1 = true then (if bt867.2 = true then (if bt867.1.toList = x36.toList then (laws_FnRingsMeet.j7 k x36 x37 x42 x43 x47 x48 x49 x53 x54 x55 x841000 x841001 x853000 x853001 x861000 x861001) else (some false)) else (some false)) else (some false)) else (some false))))) else (laws_FnRingsMeet.j7 k x36 x37 x42 x43 x47 x48 x49 x53 x54 x55 x841000 x841001 x853000 x853001 x861000 x861001))
def laws_FnRingsMeet.j7 : Nat → ByteArray → Int → ByteArray → Bool → ByteArray → Int → Bool → Int → ByteArray → Bool → Int → Int → Int → Int → Int → Int → Option (Bool)
  | 0, _, _, _, _, _, _, _, _, _, _, _, _, _, _, _, _ => none
  | k + 1, x36, x37, x42, x43, x47, x48, x49, x53, x54, x55, x841000, x841001, x853000, x853001, x861000, x861001 => if x43 = true then ((impl_IsRing.f k x841000 x841001 x42).bind fun bt869 => (if x841001 = 0 then (none) else ((impl_RaisedRing.f k x841000 x841001 x42 (Int.tmod (wrap64 (x841001 - x37)) x841001)).bind fun bt871 => (if bt869.2 = true then (if bt869.1 = true then (if bt871.2 = true then (if bt871.1.toList = x36.toList then (laws_FnRingsMeet.j8 k x47 x48 x49 x53 x54 x55 x853000 x853001 x861000 x861001) else (some false)) else (some false)) else (some false)) else (some false))))) else (laws_FnRingsMeet.j8 k x47 x48 x49 x53 x54 x55 x853000 x853001 x861000 x861001)
def laws_FnRingsMeet.j8 : Nat → ByteArray → Int → Bool → Int → ByteArray → Bool → Int → Int → Int → Int → Option (Bool)
  | 0, _, _, _, _, _, _, _, _, _, _ => none
  | k + 1, x47, x48, x49, x53, x54, x55, x853000, x853001, x861000, x861001 => if x49 = true then ((impl_CodeAtPlace.f k x853000 x853001 x48).bind fun bt873 => (if bt873.2 = true then (laws_FnRingsMeet.j9 k x53 x54 x55 (bt873.1.toList != x47.toList) x861000 x861001) else (laws_FnRingsMeet.j9 k x53 x54 x55 true x861000 x861001))) else (if x55 = true then ((impl_PlaceInRing.f k x861000 x861001 x54).bind fun bt877 => (if bt877.2 = true then (some (bt877.1 == x53)) else (some false))) else (some true))
def laws_FnRingsMeet.j9 : Nat → Int → ByteArray → Bool → Bool → Int → Int → Option (Bool)
  | 0, _, _, _, _, _, _ => none
  | k + 1, x53, x54, x55, x470, x861000, x861001 => if x470 = true then (some false) else (if x55 = true then ((impl_PlaceInRing.f k x861000 x861001 x54).bind fun bt875 => (if bt875.2 = true then (some (bt875.1 == x53)) else (some false))) else (some true))
def laws_FnRingsMeet.j1 : Nat → List Int → ByteArray → List ByteArray → Bool → Int → Int → Option (Bool)
  | 0, _, _, _, _, _, _ => none
  | k + 1, x1, x6, x11, x244, x801000, x801001 => if x244 = true then (some false) else (laws_FnRingsMeet.l0 k x1 x6 x11 x11 (x11.length : Int) 0 x801000 x801001)
def laws_FnRingsMeet.l0 : Nat → List Int → ByteArray → List ByteArray → List ByteArray → Int → Int → Int → Int → Option (Bool)
  | 0, _, _, _, _, _, _, _, _ => none
  | k + 1, x1, x6, x11, x245, x246, x247, x801000, x801001 => if x247 < x246 then (if 0 ≤ x247 then (if x247 < (x245.length : Int) then (if ((rdOf ByteArray.empty x245 x247).size : Int) = x801000 then (if 0 < ((rdOf ByteArray.empty x245 x247).size : Int) then (if x247 < (x6.size : Int) then (laws_FnRingsMeet.j3 k x1 x6 x11 x247 (rdOf ByteArray.empty x245 x247) x245 x246 x247 ((bt (rdOf ByteArray.empty x245 x247) 0) != (bt x6 x247)) x801000 x801001) else (none)) else (none)) else (laws_FnRingsMeet.j3 k x1 x6 x11 x247 (rdOf ByteArray.empty x245 x247) x245 x246 x247 true x801000 x801001)) else (none)) else (none)) else (laws_FnRingsMeet.j5 k x1)
def laws_FnRingsMeet.j3 : Nat → List Int → ByteArray → List ByteArray → Int → ByteArray → List ByteArray → Int → Int → Bool → Int → Int → Option (Bool)
  | 0, _, _, _, _, _, _, _, _, _, _, _ => none
  | k + 1, x1, x6, x11, x31, x32, x245, x246, x247, x264, x801000, x801001 => if x264 = true then (some false) else (if x31 < 8 then (if 0 ≤ (wrap64 (x31 + 1)) then (if (wrap64 (x31 + 1)) ≤ (x11.length : Int) then ((some (x11.drop ((wrap64 (x31 + 1)) : Int).toNat : List ByteArray)).bind fun y831 => (laws_FnRingsMeet.l1 k x1 x6 x11 x32 x245 x246 x247 y831 (y831.length : Int) 0 x801000 x801001)) else (none)) else (none)) else (laws_FnRingsMeet.l0 k x1 x6 x11 x245 x246 (wrap64 (x247 + 1)) x801000 x801001))
def laws_FnRingsMeet.l1 : Nat → List Int → ByteArray → List ByteArray → ByteArray → List ByteArray → Int → Int → List ByteArray → Int → Int → Int → Int → Option (Bool)
  | 0, _, _, _, _, _, _, _, _, _, _, _, _ => none
  | k + 1, x1, x6, x11, x32, x245, x246, x247, x270, x271, x272, x801000, x801001 => if x272 < x271 then (if 0 ≤ x272 then (if x272 < (x270.length : Int) then (if (rdOf ByteArray.empty x270 x272).toList = x32.toList then (some false) else (laws_FnRingsMeet.l1 k x1 x6 x11 x32 x245 x246 x247 x270 x271 (wrap64 (x272 + 1)) x801000 x801001)) else (none)) else (none)) else (laws_FnRingsMeet.l0 k x1 x6 x11 x245 x246 (wrap64 (x247 + 1)) x801000 x801001)
end
def laws_FnRingsMeet.f (k : Nat) (l0 : List Int) (l1 : List Int) : Option (Bool) := (laws_big.f l0 l1).bind fun t796 => (if t796 = true then (some true) else ((spec_DrawIsRing.f k l0).bind fun bt797 => ((impl_IsRing.f k bt797.1 bt797.2.1 bt797.2.2).bind fun bt801 => ((spec_IsRing.f k bt797.1 bt797.2.1 bt797.2.2).bind fun bt803 => ((impl_CodesOfRing.f k bt797.1 bt797.2.1 bt797.2.2).bind fun bt805 => ((spec_CodesOfRing.f k bt797.1 bt797.2.1 bt797.2.2).bind fun bt809 => ((impl_BackRing.f k bt797.1 bt797.2.1 bt797.2.2).bind fun bt813 => ((spec_BackRing.f k bt797.1 bt797.2.1 bt797.2.2).bind fun bt815 => (if (bt801.2 != bt803.2) = true then (laws_FnRingsMeet.j0 k l1 bt797.2.2 bt805.1 bt805.2 bt813.1 true bt797.1 bt797.2.1) else (if (bt801.1 != bt803.1) = true then (laws_FnRingsMeet.j0 k l1 bt797.2.2 bt805.1 bt805.2 bt813.1 true bt797.1 bt797.2.1) else (if (bt805.2 != bt809.2) = true then (laws_FnRingsMeet.j0 k l1 bt797.2.2 bt805.1 bt805.2 bt813.1 true bt797.1 bt797.2.1) else ((laws_eTexts.f k bt805.1 bt809.1).bind fun t817 => (if t817 = true then (if (bt813.2 != bt815.2) = true then (laws_FnRingsMeet.j0 k l1 bt797.2.2 bt805.1 bt805.2 bt813.1 true bt797.1 bt797.2.1) else (if bt813.1.toList = bt815.1.toList then (if bt801.2 = true then (if (bt805.2 != bt801.1) = true then (laws_FnRingsMeet.j0 k l1 bt797.2.2 bt805.1 bt805.2 bt813.1 true bt797.1 bt797.2.1) else (laws_FnRingsMeet.j0 k l1 bt797.2.2 bt805.1 bt805.2 bt813.1 (bt813.2 != bt805.2) bt797.1 bt797.2.1)) else (if (bt805.2 != false) = true then (laws_FnRingsMeet.j0 k l1 bt797.2.2 bt805.1 bt805.2 bt813.1 true bt797.1 bt797.2.1) else (laws_FnRingsMeet.j0 k l1 bt797.2.2 bt805.1 bt805.2 bt813.1 (bt813.2 != bt805.2) bt797.1 bt797.2.1))) else (laws_FnRingsMeet.j0 k l1 bt797.2.2 bt805.1 bt805.2 bt813.1 true bt797.1 bt797.2.1))) else (laws_FnRingsMeet.j0 k l1 bt797.2.2 bt805.1 bt805.2 bt813.1 true bt797.1 bt797.2.1))))))))))))))
theorem laws_FnRingsMeet.mono_l : ∀ k, (∀ y0 y1 y2 y3 y4 y5 y6 y7, LeO (laws_FnRingsMeet.j0 k y0 y1 y2 y3 y4 y5 y6 y7) (laws_FnRingsMeet.j0 (k + 1) y0 y1 y2 y3 y4 y5 y6 y7)) ∧ (∀ y0, LeO (laws_FnRingsMeet.j5 k y0) (laws_FnRingsMeet.j5 (k + 1) y0)) ∧ (∀ y0 y1 y2 y3 y4 y5 y6 y7 y8 y9 y10 y11 y12 y13 y14 y15 y16 y17 y18, LeO (laws_FnRingsMeet.j6 k y0 y1 y2 y3 y4 y5 y6 y7 y8 y9 y10 y11 y12 y13 y14 y15 y16 y17 y18) (laws_FnRingsMeet.j6 (k + 1) y0 y1 y2 y3 y4 y5 y6 y7 y8 y9 y10 y11 y12 y13 y14 y15 y16 y17 y18)) ∧ (∀ y0 y1 y2 y3 y4 y5 y6 y7 y8 y9 y10 y11 y12 y13 y14 y15, LeO (laws_FnRingsMeet.j7 k y0 y1 y2 y3 y4 y5 y6 y7 y8 y9 y10 y11 y12 y13 y14 y15) (laws_FnRingsMeet.j7 (k + 1) y0 y1 y2 y3 y4 y5 y6 y7 y8 y9 y10 y11 y12 y13 y14 y15)) ∧ (∀ y0 y1 y2 y3 y4 y5 y6 y7 y8 y9, LeO (laws_FnRingsMeet.j8 k y0 y1 y2 y3 y4 y5 y6 y7 y8 y9) (laws_FnRingsMeet.j8 (k + 1) y0 y1 y2 y3 y4 y5 y6 y7 y8 y9)) ∧ (∀ y0 y1 y2 y3 y4 y5, LeO (laws_FnRingsMeet.j9 k y0 y1 y2 y3 y4 y5) (laws_FnRingsMeet.j9 (k + 1) y0 y1 y2 y3 y4 y5)) ∧ (∀ y0 y1 y2 y3 y4 y5, LeO (laws_FnRingsMeet.j1 k y0 y1 y2 y3 y4 y5) (laws_FnRingsMeet.j1 (k + 1) y0 y1 y2 y3 y4 y5)) ∧ (∀ y0 y1 y2 y3 y4 y5 y6 y7, LeO (laws_FnRingsMeet.l0 k y0 y1 y2 y3 y4 y5 y6 y7) (laws_FnRingsMeet.l0 (k + 1) y0 y1 y2 y3 y4 y5 y6 y7)) ∧ (∀ y0 y1 y2 y3 y4 y5 y6 y7 y8 y9 y10, LeO (laws_FnRingsMeet.j3 k y0 y1 y2 y3 y4 y5 y6 y7 y8 y9 y10) (laws_FnRingsMeet.j3 (k + 1) y0 y1 y2 y3 y4 y5 y6 y7 y8 y9 y10)) ∧ (∀ y0 y1 y2 y3 y4 y5 y6 y7 y8 y9 y10 y11, LeO (laws_FnRingsMeet.l1 k y0 y1 y2 y3 y4 y5 y6 y7 y8 y9 y10 y11) (laws_FnRingsMeet.l1 (k + 1) y0 y1 y2 y3 y4 y5 y6 y7 y8 y9 y10 y11))
  | 0 => ⟨fun _ _ _ _ _ _ _ _ r h => by simp [laws_FnRingsMeet.j0] at h, fun _ r h => by simp [laws_FnRingsMeet.j5] at h, fun _ _ _ _ _ _ _ _ _ _ _ _ _ _ _ _ _ _ _ r h => by simp [laws_FnRingsMeet.j6] at h, fun _ _ _ _ _ _ _ _ _ _ _ _ _ _ _ _ r h => by simp [laws_FnRingsMeet.j7] at h, fun _ _ _ _ _ _ _ _ _ _ r h => by simp [laws_FnRingsMeet.j8] at h, fun _ _ _ _ _ _ r h => by simp [laws_FnRingsMeet.j9] at h, fun _ _ _ _ _ _ r h => by simp [laws_FnRingsMeet.j1] at h, fun _ _ _ _ _ _ _ _ r h => by simp [laws_FnRingsMeet.l0] at h, fun _ _ _ _ _ _ _ _ _ _ _ r h => by simp [laws_FnRingsMeet.j3] at h, fun _ _ _ _ _ _ _ _ _ _ _ _ r h => by simp [laws_FnRingsMeet.l1] at h⟩
  | k + 1 => by
    obtain ⟨ih0, ih1, ih2, ih3, ih4, ih5, ih6, ih7, ih8, ih9⟩ := laws_FnRingsMeet.mono_l k
    refine ⟨?_, ?_, ?_, ?_, ?_, ?_, ?_, ?_, ?_, ?_⟩
    · intro y0 y1 y2 y3 y4 y5 y6 y7
      unfold laws_FnRingsMeet.j0
      repeat' first
      | (with_reducible exact ih0 _ _ _ _ _ _ _ _)
      | (with_reducible exact ih1 _)
      | (with_reducible exact ih2 _ _ _ _ _ _ _ _ _ _ _ _ _ _ _ _ _ _ _)
      | (with_reducible exact ih3 _ _ _ _ _ _ _ _ _ _ _ _ _ _ _ _)
      | (with_reducible exact ih4 _ _ _ _ _ _ _ _ _ _)
      | (with_reducible exact ih5 _ _ _ _ _ _)
      | (with_reducible exact ih6 _ _ _ _ _ _)
      | (with_reducible exact ih7 _ _ _ _ _ _ _ _)
      | (with_reducible exact ih8 _ _ _ _ _ _ _ _ _ _ _)
      | (with_reducible exact ih9 _ _ _ _ _ _ _ _ _ _ _ _)
      | (with_reducible exact impl_BackRing.mono _ _ _ _)
      | (with_reducible exact impl_CodeAtPlace.mono _ _ _ _)
      | (with_reducible exact impl_CodesOfRing.mono _ _ _ _)
      | (with_reducible exact impl_CountCodes.mono _ _ _)
      | (with_reducible exact impl_CountRings.mono _ _ _)
      | (with_reducible exact impl_GreatestRing.mono _ _ _)
      | (with_reducible exact impl_IsRing.mono _ _ _ _)
      | (with_reducible exact impl_LeastRing.mono _ _ _)
      | (with_reducible exact impl_PlaceInRing.mono _ _ _ _)
      | (with_reducible exact impl_RaisedRing.mono _ _ _ _ _)
      | (with_reducible exact impl_TurnedRing.mono _ _ _ _ _)
      | (with_reducible exact laws_eTexts.mono _ _ _)
      | (with_reducible exact spec_BackRing.mono _ _ _ _)
      | (with_reducible exact spec_CodeAtPlace.mono _ _ _ _)
      | (with_reducible exact spec_CodesOfRing.mono _ _ _ _)
      | (with_reducible exact spec_DrawIsRing.mono _ _)
      | (with_reducible exact spec_DrawPlaceInRing.mono _ _)
      | (with_reducible exact spec_DrawTurnedRing.mono _ _)
      | (with_reducible exact spec_IsRing.mono _ _ _ _)
      | (with_reducible exact spec_PlaceInRing.mono _ _ _ _)
      | (with_reducible exact spec_RaisedRing.mono _ _ _ _ _)
      | (with_reducible exact spec_TurnedRing.mono _ _ _ _ _)
      | (with_reducible exact LeO.refl _)
      | (with_reducible exact LeO.none _)
      | (with_reducible refine LeO.ite ?_ ?_)
      | (with_reducible refine LeO.bind ?_ (fun _ => ?_))
      | exact ih0 _ _ _ _ _ _ _ _
      | exact ih1 _
      | exact ih2 _ _ _ _ _ _ _ _ _ _ _ _ _ _ _ _ _ _ _
      | exact ih3 _ _ _ _ _ _ _ _ _ _ _ _ _ _ _ _
      | exact ih4 _ _ _ _ _ _ _ _ _ _
      | exact ih5 _ _ _ _ _ _
      | exact ih6 _ _ _ _ _ _
      | exact ih7 _ _ _ _ _ _ _ _
      | exact ih8 _ _ _ _ _ _ _ _ _ _ _
      | exact ih9 _ _ _ _ _ _ _ _ _ _ _ _
      | exact impl_BackRing.mono _ _ _ _
      | exact impl_CodeAtPlace.mono _ _ _ _
      | exact impl_CodesOfRing.mono _ _ _ _
      | exact impl_CountCodes.mono _ _ _
      | exact impl_CountRings.mono _ _ _
      | exact impl_GreatestRing.mono _ _ _
      | exact impl_IsRing.mono _ _ _ _
      | exact impl_LeastRing.mono _ _ _
      | exact impl_PlaceInRing.mono _ _ _ _
      | exact impl_RaisedRing.mono _ _ _ _ _
      | exact impl_TurnedRing.mono _ _ _ _ _
      | exact laws_eTexts.mono _ _ _
      | exact spec_BackRing.mono _ _ _ _
      | exact spec_CodeAtPlace.mono _ _ _ _
      | exact spec_CodesOfRing.mono _ _ _ _
      | exact spec_DrawIsRing.mono _ _
      | exact spec_DrawPlaceInRing.mono _ _
      | exact spec_DrawTurnedRing.mono _ _
      | exact spec_IsRing.mono _ _ _ _
      | exact spec_PlaceInRing.mono _ _ _ _
      | exact spec_RaisedRing.mono _ _ _ _ _
      | exact spec_TurnedRing.mono _ _ _ _ _
      | exact LeO.none _
      | refine LeO.ite ?_ ?_
      | refine LeO.bind ?_ (fun _ => ?_)
    · intro y0
      unfold laws_FnRingsMeet.j5
      repeat' first
      | (with_reducible exact ih0 _ _ _ _ _ _ _ _)
      | (with_reducible exact ih1 _)
      | (with_reducible exact ih2 _ _ _ _ _ _ _ _ _ _ _ _ _ _ _ _ _ _ _)
      | (with_reducible exact ih3 _ _ _ _ _ _ _ _ _ _ _ _ _ _ _ _)
      | (with_reducible exact ih4 _ _ _ _ _ _ _ _ _ _)
      | (with_reducible exact ih5 _ _ _ _ _ _)
      | (with_reducible exact ih6 _ _ _ _ _ _)
      | (with_reducible exact ih7 _ _ _ _ _ _ _ _)
      | (with_reducible exact ih8 _ _ _ _ _ _ _ _ _ _ _)
      | (with_reducible exact ih9 _ _ _ _ _ _ _ _ _ _ _ _)
      | (with_reducible exact impl_BackRing.mono _ _ _ _)
      | (with_reducible exact impl_CodeAtPlace.mono _ _ _ _)
      | (with_reducible exact impl_CodesOfRing.mono _ _ _ _)
      | (with_reducible exact impl_CountCodes.mono _ _ _)
      | (with_reducible exact impl_CountRings.mono _ _ _)
      | (with_reducible exact impl_GreatestRing.mono _ _ _)
      | (with_reducible exact impl_IsRing.mono _ _ _ _)
      | (with_reducible exact impl_LeastRing.mono _ _ _)
      | (with_reducible exact impl_PlaceInRing.mono _ _ _ _)
      | (with_reducible exact impl_RaisedRing.mono _ _ _ _ _)
      | (with_reducible exact impl_TurnedRing.mono _ _ _ _ _)
      | (with_reducible exact laws_eTexts.mono _ _ _)
      | (with_reducible exact spec_BackRing.mono _ _ _ _)
      | (with_reducible exact spec_CodeAtPlace.mono _ _ _ _)
      | (with_reducible exact spec_CodesOfRing.mono _ _ _ _)
      | (with_reducible exact spec_DrawIsRing.mono _ _)
      | (with_reducible exact spec_DrawPlaceInRing.mono _ _)
      | (with_reducible exact spec_DrawTurnedRing.mono _ _)
      | (with_reducible exact spec_IsRing.mono _ _ _ _)
      | (with_reducible exact spec_PlaceInRing.mono _ _ _ _)
      | (with_reducible exact spec_RaisedRing.mono _ _ _ _ _)
      | (with_reducible exact spec_TurnedRing.mono _ _ _ _ _)
      | (with_reducible exact LeO.refl _)
      | (with_reducible exact LeO.none _)
      | (with_reducible refine LeO.ite ?_ ?_)
      | (with_reducible refine LeO.bind ?_ (fun _ => ?_))
      | exact ih0 _ _ _ _ _ _ _ _
      | exact ih1 _
      | exact ih2 _ _ _ _ _ _ _ _ _ _ _ _ _ _ _ _ _ _ _
      | exact ih3 _ _ _ _ _ _ _ _ _ _ _ _ _ _ _ _
      | exact ih4 _ _ _ _ _ _ _ _ _ _
      | exact ih5 _ _ _ _ _ _
      | exact ih6 _ _ _ _ _ _
      | exact ih7 _ _ _ _ _ _ _ _
      | exact ih8 _ _ _ _ _ _ _ _ _ _ _
      | exact ih9 _ _ _ _ _ _ _ _ _ _ _ _
      | exact impl_BackRing.mono _ _ _ _
      | exact impl_CodeAtPlace.mono _ _ _ _
      | exact impl_CodesOfRing.mono _ _ _ _
      | exact impl_CountCodes.mono _ _ _
      | exact impl_CountRings.mono _ _ _
      | exact impl_GreatestRing.mono _ _ _
      | exact impl_IsRing.mono _ _ _ _
      | exact impl_LeastRing.mono _ _ _
      | exact impl_PlaceInRing.mono _ _ _ _
      | exact impl_RaisedRing.mono _ _ _ _ _
      | exact impl_TurnedRing.mono _ _ _ _ _
      | exact laws_eTexts.mono _ _ _
      | exact spec_BackRing.mono _ _ _ _
      | exact spec_CodeAtPlace.mono _ _ _ _
      | exact spec_CodesOfRing.mono _ _ _ _
      | exact spec_DrawIsRing.mono _ _
      | exact spec_DrawPlaceInRing.mono _ _
      | exact spec_DrawTurnedRing.mono _ _
      | exact spec_IsRing.mono _ _ _ _
      | exact spec_PlaceInRing.mono _ _ _ _
      | exact spec_RaisedRing.mono _ _ _ _ _
      | exact spec_TurnedRing.mono _ _ _ _ _
      | exact LeO.none _
      | refine LeO.ite ?_ ?_
      | refine LeO.bind ?_ (fun _ => ?_)
    · intro y0 y1 y2 y3 y4 y5 y6 y7 y8 y9 y10 y11 y12 y13 y14 y15 y16 y17 y18
      unfold laws_FnRingsMeet.j6
      repeat' first
      | (with_reducible exact ih0 _ _ _ _ _ _ _ _)
      | (with_reducible exact ih1 _)
      | (with_reducible exact ih2 _ _ _ _ _ _ _ _ _ _ _ _ _ _ _ _ _ _ _)
      | (with_reducible exact ih3 _ _ _ _ _ _ _ _ _ _ _ _ _ _ _ _)
      | (with_reducible exact ih4 _ _ _ _ _ _ _ _ _ _)
      | (with_reducible exact ih5 _ _ _ _ _ _)
      | (with_reducible exact ih6 _ _ _ _ _ _)
      | (with_reducible exact ih7 _ _ _ _ _ _ _ _)
      | (with_reducible exact ih8 _ _ _ _ _ _ _ _ _ _ _)
      | (with_reducible exact ih9 _ _ _ _ _ _ _ _ _ _ _ _)
      | (with_reducible exact impl_BackRing.mono _ _ _ _)
      | (with_reducible exact impl_CodeAtPlace.mono _ _ _ _)
      | (with_reducible exact impl_CodesOfRing.mono _ _ _ _)
      | (with_reducible exact impl_CountCodes.mono _ _ _)
      | (with_reducible exact impl_CountRings.mono _ _ _)
      | (with_reducible exact impl_GreatestRing.mono _ _ _)
      | (with_reducible exact impl_IsRing.mono _ _ _ _)
      | (with_reducible exact impl_LeastRing.mono _ _ _)
      | (with_reducible exact impl_PlaceInRing.mono _ _ _ _)
      | (with_reducible exact impl_RaisedRing.mono _ _ _ _ _)
      | (with_reducible exact impl_TurnedRing.mono _ _ _ _ _)
      | (with_reducible exact laws_eTexts.mono _ _ _)
      | (with_reducible exact spec_BackRing.mono _ _ _ _)
      | (with_reducible exact spec_CodeAtPlace.mono _ _ _ _)
      | (with_reducible exact spec_CodesOfRing.mono _ _ _ _)
      | (with_reducible exact spec_DrawIsRing.mono _ _)
      | (with_reducible exact spec_DrawPlaceInRing.mono _ _)
      | (with_reducible exact spec_DrawTurnedRing.mono _ _)
      | (with_reducible exact spec_IsRing.mono _ _ _ _)
      | (with_reducible exact spec_PlaceInRing.mono _ _ _ _)
      | (with_reducible exact spec_RaisedRing.mono _ _ _ _ _)
      | (with_reducible exact spec_TurnedRing.mono _ _ _ _ _)
      | (with_reducible exact LeO.refl _)
      | (with_reducible exact LeO.none _)
      | (with_reducible refine LeO.ite ?_ ?_)
      | (with_reducible refine LeO.bind ?_ (fun _ => ?_))
      | exact ih0 _ _ _ _ _ _ _ _
      | exact ih1 _
      | exact ih2 _ _ _ _ _ _ _ _ _ _ _ _ _ _ _ _ _ _ _
      | exact ih3 _ _ _ _ _ _ _ _ _ _ _ _ _ _ _ _
      | exact ih4 _ _ _ _ _ _ _ _ _ _
      | exact ih5 _ _ _ _ _ _
      | exact ih6 _ _ _ _ _ _
      | exact ih7 _ _ _ _ _ _ _ _
      | exact ih8 _ _ _ _ _ _ _ _ _ _ _
      | exact ih9 _ _ _ _ _ _ _ _ _ _ _ _
      | exact impl_BackRing.mono _ _ _ _
      | exact impl_CodeAtPlace.mono _ _ _ _
      | exact impl_CodesOfRing.mono _ _ _ _
      | exact impl_CountCodes.mono _ _ _
      | exact impl_CountRings.mono _ _ _
      | exact impl_GreatestRing.mono _ _ _
      | exact impl_IsRing.mono _ _ _ _
      | exact impl_LeastRing.mono _ _ _
      | exact impl_PlaceInRing.mono _ _ _ _
      | exact impl_RaisedRing.mono _ _ _ _ _
      | exact impl_TurnedRing.mono _ _ _ _ _
      | exact laws_eTexts.mono _ _ _
      | exact spec_BackRing.mono _ _ _ _
      | exact spec_CodeAtPlace.mono _ _ _ _
      | exact spec_CodesOfRing.mono _ _ _ _
      | exact spec_DrawIsRing.mono _ _
      | exact spec_DrawPlaceInRing.mono _ _
      | exact spec_DrawTurnedRing.mono _ _
      | exact spec_IsRing.mono _ _ _ _
      | exact spec_PlaceInRing.mono _ _ _ _
      | exact spec_RaisedRing.mono _ _ _ _ _
      | exact spec_TurnedRing.mono _ _ _ _ _
      | exact LeO.none _
      | refine LeO.ite ?_ ?_
      | refine LeO.bind ?_ (fun _ => ?_)
    · intro y0 y1 y2 y3 y4 y5 y6 y7 y8 y9 y10 y11 y12 y13 y14 y15
      unfold laws_FnRingsMeet.j7
      repeat' first
      | (with_reducible exact ih0 _ _ _ _ _ _ _ _)
      | (with_reducible exact ih1 _)
      | (with_reducible exact ih2 _ _ _ _ _ _ _ _ _ _ _ _ _ _ _ _ _ _ _)
      | (with_reducible exact ih3 _ _ _ _ _ _ _ _ _ _ _ _ _ _ _ _)
      | (with_reducible exact ih4 _ _ _ _ _ _ _ _ _ _)
      | (with_reducible exact ih5 _ _ _ _ _ _)
      | (with_reducible exact ih6 _ _ _ _ _ _)
      | (with_reducible exact ih7 _ _ _ _ _ _ _ _)
      | (with_reducible exact ih8 _ _ _ _ _ _ _ _ _ _ _)
      | (with_reducible exact ih9 _ _ _ _ _ _ _ _ _ _ _ _)
      | (with_reducible exact impl_BackRing.mono _ _ _ _)
      | (with_reducible exact impl_CodeAtPlace.mono _ _ _ _)
      | (with_reducible exact impl_CodesOfRing.mono _ _ _ _)
      | (with_reducible exact impl_CountCodes.mono _ _ _)
      | (with_reducible exact impl_CountRings.mono _ _ _)
      | (with_reducible exact impl_GreatestRing.mono _ _ _)
      | (with_reducible exact impl_IsRing.mono _ _ _ _)
      | (with_reducible exact impl_LeastRing.mono _ _ _)
      | (with_reducible exact impl_PlaceInRing.mono _ _ _ _)
      | (with_reducible exact impl_RaisedRing.mono _ _ _ _ _)
      | (with_reducible exact impl_TurnedRing.mono _ _ _ _ _)
      | (with_reducible exact laws_eTexts.mono _ _ _)
      | (with_reducible exact spec_BackRing.mono _ _ _ _)
      | (with_reducible exact spec_CodeAtPlace.mono _ _ _ _)
      | (with_reducible exact spec_CodesOfRing.mono _ _ _ _)
      | (with_reducible exact spec_DrawIsRing.mono _ _)
      | (with_reducible exact spec_DrawPlaceInRing.mono _ _)
      | (with_reducible exact spec_DrawTurnedRing.mono _ _)
      | (with_reducible exact spec_IsRing.mono _ _ _ _)
      | (with_reducible exact spec_PlaceInRing.mono _ _ _ _)
      | (with_reducible exact spec_RaisedRing.mono _ _ _ _ _)
      | (with_reducible exact spec_TurnedRing.mono _ _ _ _ _)
      | (with_reducible exact LeO.refl _)
      | (with_reducible exact LeO.none _)
      | (with_reducible refine LeO.ite ?_ ?_)
      | (with_reducible refine LeO.bind ?_ (fun _ => ?_))
      | exact ih0 _ _ _ _ _ _ _ _
      | exact ih1 _
      | exact ih2 _ _ _ _ _ _ _ _ _ _ _ _ _ _ _ _ _ _ _
      | exact ih3 _ _ _ _ _ _ _ _ _ _ _ _ _ _ _ _
      | exact ih4 _ _ _ _ _ _ _ _ _ _
      | exact ih5 _ _ _ _ _ _
      | exact ih6 _ _ _ _ _ _
      | exact ih7 _ _ _ _ _ _ _ _
      | exact ih8 _ _ _ _ _ _ _ _ _ _ _
      | exact ih9 _ _ _ _ _ _ _ _ _ _ _ _
      | exact impl_BackRing.mono _ _ _ _
      | exact impl_CodeAtPlace.mono _ _ _ _
      | exact impl_CodesOfRing.mono _ _ _ _
      | exact impl_CountCodes.mono _ _ _
      | exact impl_CountRings.mono _ _ _
      | exact impl_GreatestRing.mono _ _ _
      | exact impl_IsRing.mono _ _ _ _
      | exact impl_LeastRing.mono _ _ _
      | exact impl_PlaceInRing.mono _ _ _ _
      | exact impl_RaisedRing.mono _ _ _ _ _
      | exact impl_TurnedRing.mono _ _ _ _ _
      | exact laws_eTexts.mono _ _ _
      | exact spec_BackRing.mono _ _ _ _
      | exact spec_CodeAtPlace.mono _ _ _ _
      | exact spec_CodesOfRing.mono _ _ _ _
      | exact spec_DrawIsRing.mono _ _
      | exact spec_DrawPlaceInRing.mono _ _
      | exact spec_DrawTurnedRing.mono _ _
      | exact spec_IsRing.mono _ _ _ _
      | exact spec_PlaceInRing.mono _ _ _ _
      | exact spec_RaisedRing.mono _ _ _ _ _
      | exact spec_TurnedRing.mono _ _ _ _ _
      | exact LeO.none _
      | refine LeO.ite ?_ ?_
      | refine LeO.bind ?_ (fun _ => ?_)
    · intro y0 y1 y2 y3 y4 y5 y6 y7 y8 y9
      unfold laws_FnRingsMeet.j8
      repeat' first
      | (with_reducible exact ih0 _ _ _ _ _ _ _ _)
      | (with_reducible exact ih1 _)
      | (with_reducible exact ih2 _ _ _ _ _ _ _ _ _ _ _ _ _ _ _ _ _ _ _)
      | (with_reducible exact ih3 _ _ _ _ _ _ _ _ _ _ _ _ _ _ _ _)
      | (with_reducible exact ih4 _ _ _ _ _ _ _ _ _ _)
      | (with_reducible exact ih5 _ _ _ _ _ _)
      | (with_reducible exact ih6 _ _ _ _ _ _)
      | (with_reducible exact ih7 _ _ _ _ _ _ _ _)
      | (with_reducible exact ih8 _ _ _ _ _ _ _ _ _ _ _)
      | (with_reducible exact ih9 _ _ _ _ _ _ _ _ _ _ _ _)
      | (with_reducible exact impl_BackRing.mono _ _ _ _)
      | (with_reducible exact impl_CodeAtPlace.mono _ _ _ _)
      | (with_reducible exact impl_CodesOfRing.mono _ _ _ _)
      | (with_reducible exact impl_CountCodes.mono _ _ _)
      | (with_reducible exact impl_CountRings.mono _ _ _)
      | (with_reducible exact impl_GreatestRing.mono _ _ _)
      | (with_reducible exact impl_IsRing.mono _ _ _ _)
      | (with_reducible exact impl_LeastRing.mono _ _ _)
      | (with_reducible exact impl_PlaceInRing.mono _ _ _ _)
      | (with_reducible exact impl_RaisedRing.mono _ _ _ _ _)
      | (with_reducible exact impl_TurnedRing.mono _ _ _ _ _)
      | (with_reducible exact laws_eTexts.mono _ _ _)
      | (with_reducible exact spec_BackRing.mono _ _ _ _)
      | (with_reducible exact spec_CodeAtPlace.mono _ _ _ _)
      | (with_reducible exact spec_CodesOfRing.mono _ _ _ _)
      | (with_reducible exact spec_DrawIsRing.mono _ _)
      | (with_reducible exact spec_DrawPlaceInRing.mono _ _)
      | (with_reducible exact spec_DrawTurnedRing.mono _ _)
      | (with_reducible exact spec_IsRing.mono _ _ _ _)
      | (with_reducible exact spec_PlaceInRing.mono _ _ _ _)
      | (with_reducible exact spec_RaisedRing.mono _ _ _ _ _)
      | (with_reducible exact spec_TurnedRing.mono _ _ _ _ _)
      | (with_reducible exact LeO.refl _)
      | (with_reducible exact LeO.none _)
      | (with_reducible refine LeO.ite ?_ ?_)
      | (with_reducible refine LeO.bind ?_ (fun _ => ?_))
      | exact ih0 _ _ _ _ _ _ _ _
      | exact ih1 _
      | exact ih2 _ _ _ _ _ _ _ _ _ _ _ _ _ _ _ _ _ _ _
      | exact ih3 _ _ _ _ _ _ _ _ _ _ _ _ _ _ _ _
      | exact ih4 _ _ _ _ _ _ _ _ _ _
      | exact ih5 _ _ _ _ _ _
      | exact ih6 _ _ _ _ _ _
      | exact ih7 _ _ _ _ _ _ _ _
      | exact ih8 _ _ _ _ _ _ _ _ _ _ _
      | exact ih9 _ _ _ _ _ _ _ _ _ _ _ _
      | exact impl_BackRing.mono _ _ _ _
      | exact impl_CodeAtPlace.mono _ _ _ _
      | exact impl_CodesOfRing.mono _ _ _ _
      | exact impl_CountCodes.mono _ _ _
      | exact impl_CountRings.mono _ _ _
      | exact impl_GreatestRing.mono _ _ _
      | exact impl_IsRing.mono _ _ _ _
      | exact impl_LeastRing.mono _ _ _
      | exact impl_PlaceInRing.mono _ _ _ _
      | exact impl_RaisedRing.mono _ _ _ _ _
      | exact impl_TurnedRing.mono _ _ _ _ _
      | exact laws_eTexts.mono _ _ _
      | exact spec_BackRing.mono _ _ _ _
      | exact spec_CodeAtPlace.mono _ _ _ _
      | exact spec_CodesOfRing.mono _ _ _ _
      | exact spec_DrawIsRing.mono _ _
      | exact spec_DrawPlaceInRing.mono _ _
      | exact spec_DrawTurnedRing.mono _ _
      | exact spec_IsRing.mono _ _ _ _
      | exact spec_PlaceInRing.mono _ _ _ _
      | exact spec_RaisedRing.mono _ _ _ _ _
      | exact spec_TurnedRing.mono _ _ _ _ _
      | exact LeO.none _
      | refine LeO.ite ?_ ?_
      | refine LeO.bind ?_ (fun _ => ?_)
    · intro y0 y1 y2 y3 y4 y5
      unfold laws_FnRingsMeet.j9
      repeat' first
      | (with_reducible exact ih0 _ _ _ _ _ _ _ _)
      | (with_reducible exact ih1 _)
      | (with_reducible exact ih2 _ _ _ _ _ _ _ _ _ _ _ _ _ _ _ _ _ _ _)
      | (with_reducible exact ih3 _ _ _ _ _ _ _ _ _ _ _ _ _ _ _ _)
      | (with_reducible exact ih4 _ _ _ _ _ _ _ _ _ _)
      | (with_reducible exact ih5 _ _ _ _ _ _)
      | (with_reducible exact ih6 _ _ _ _ _ _)
      | (with_reducible exact ih7 _ _ _ _ _ _ _ _)
      | (with_reducible exact ih8 _ _ _ _ _ _ _ _ _ _ _)
      | (with_reducible exact ih9 _ _ _ _ _ _ _ _ _ _ _ _)
      | (with_reducible exact impl_BackRing.mono _ _ _ _)
      | (with_reducible exact impl_CodeAtPlace.mono _ _ _ _)
      | (with_reducible exact impl_CodesOfRing.mono _ _ _ _)
      | (with_reducible exact impl_CountCodes.mono _ _ _)
      | (with_reducible exact impl_CountRings.mono _ _ _)
      | (with_reducible exact impl_GreatestRing.mono _ _ _)
      | (with_reducible exact impl_IsRing.mono _ _ _ _)
      | (with_reducible exact impl_LeastRing.mono _ _ _)
      | (with_reducible exact impl_PlaceInRing.mono _ _ _ _)
      | (with_reducible exact impl_RaisedRing.mono _ _ _ _ _)
      | (with_reducible exact impl_TurnedRing.mono _ _ _ _ _)
      | (with_reducible exact laws_eTexts.mono _ _ _)
      | (with_reducible exact spec_BackRing.mono _ _ _ _)
      | (with_reducible exact spec_CodeAtPlace.mono _ _ _ _)
      | (with_reducible exact spec_CodesOfRing.mono _ _ _ _)
      | (with_reducible exact spec_DrawIsRing.mono _ _)
      | (with_reducible exact spec_DrawPlaceInRing.mono _ _)
      | (with_reducible exact spec_DrawTurnedRing.mono _ _)
      | (with_reducible exact spec_IsRing.mono _ _ _ _)
      | (with_reducible exact spec_PlaceInRing.mono _ _ _ _)
      | (with_reducible exact spec_RaisedRing.mono _ _ _ _ _)
      | (with_reducible exact spec_TurnedRing.mono _ _ _ _ _)
      | (with_reducible exact LeO.refl _)
      | (with_reducible exact LeO.none _)
      | (with_reducible refine LeO.ite ?_ ?_)
      | (with_reducible refine LeO.bind ?_ (fun _ => ?_))
      | exact ih0 _ _ _ _ _ _ _ _
      | exact ih1 _
      | exact ih2 _ _ _ _ _ _ _ _ _ _ _ _ _ _ _ _ _ _ _
      | exact ih3 _ _ _ _ _ _ _ _ _ _ _ _ _ _ _ _
      | exact ih4 _ _ _ _ _ _ _ _ _ _
      | exact ih5 _ _ _ _ _ _
      | exact ih6 _ _ _ _ _ _
      | exact ih7 _ _ _ _ _ _ _ _
      | exact ih8 _ _ _ _ _ _ _ _ _ _ _
      | exact ih9 _ _ _ _ _ _ _ _ _ _ _ _
      | exact impl_BackRing.mono _ _ _ _
      | exact impl_CodeAtPlace.mono _ _ _ _
      | exact impl_CodesOfRing.mono _ _ _ _
      | exact impl_CountCodes.mono _ _ _
      | exact impl_CountRings.mono _ _ _
      | exact impl_GreatestRing.mono _ _ _
      | exact impl_IsRing.mono _ _ _ _
      | exact impl_LeastRing.mono _ _ _
      | exact impl_PlaceInRing.mono _ _ _ _
      | exact impl_RaisedRing.mono _ _ _ _ _
      | exact impl_TurnedRing.mono _ _ _ _ _
      | exact laws_eTexts.mono _ _ _
      | exact spec_BackRing.mono _ _ _ _
      | exact spec_CodeAtPlace.mono _ _ _ _
      | exact spec_CodesOfRing.mono _ _ _ _
      | exact spec_DrawIsRing.mono _ _
      | exact spec_DrawPlaceInRing.mono _ _
      | exact spec_DrawTurnedRing.mono _ _
      | exact spec_IsRing.mono _ _ _ _
      | exact spec_PlaceInRing.mono _ _ _ _
      | exact spec_RaisedRing.mono _ _ _ _ _
      | exact spec_TurnedRing.mono _ _ _ _ _
      | exact LeO.none _
      | refine LeO.ite ?_ ?_
      | refine LeO.bind ?_ (fun _ => ?_)
    · intro y0 y1 y2 y3 y4 y5
      unfold laws_FnRingsMeet.j1
      repeat' first
      | (with_reducible exact ih0 _ _ _ _ _ _ _ _)
      | (with_reducible exact ih1 _)
      | (with_reducible exact ih2 _ _ _ _ _ _ _ _ _ _ _ _ _ _ _ _ _ _ _)
      | (with_reducible exact ih3 _ _ _ _ _ _ _ _ _ _ _ _ _ _ _ _)
      | (with_reducible exact ih4 _ _ _ _ _ _ _ _ _ _)
      | (with_reducible exact ih5 _ _ _ _ _ _)
      | (with_reducible exact ih6 _ _ _ _ _ _)
      | (with_reducible exact ih7 _ _ _ _ _ _ _ _)
      | (with_reducible exact ih8 _ _ _ _ _ _ _ _ _ _ _)
      | (with_reducible exact ih9 _ _ _ _ _ _ _ _ _ _ _ _)
      | (with_reducible exact impl_BackRing.mono _ _ _ _)
      | (with_reducible exact impl_CodeAtPlace.mono _ _ _ _)
      | (with_reducible exact impl_CodesOfRing.mono _ _ _ _)
      | (with_reducible exact impl_CountCodes.mono _ _ _)
      | (with_reducible exact impl_CountRings.mono _ _ _)
      | (with_reducible exact impl_GreatestRing.mono _ _ _)
      | (with_reducible exact impl_IsRing.mono _ _ _ _)
      | (with_reducible exact impl_LeastRing.mono _ _ _)
      | (with_reducible exact impl_PlaceInRing.mono _ _ _ _)
      | (with_reducible exact impl_RaisedRing.mono _ _ _ _ _)
      | (with_reducible exact impl_TurnedRing.mono _ _ _ _ _)
      | (with_reducible exact laws_eTexts.mono _ _ _)
      | (with_reducible exact spec_BackRing.mono _ _ _ _)
      | (with_reducible exact spec_CodeAtPlace.mono _ _ _ _)
      | (with_reducible exact spec_CodesOfRing.mono _ _ _ _)
      | (with_reducible exact spec_DrawIsRing.mono _ _)
      | (with_reducible exact spec_DrawPlaceInRing.mono _ _)
      | (with_reducible exact spec_DrawTurnedRing.mono _ _)
      | (with_reducible exact spec_IsRing.mono _ _ _ _)
      | (with_reducible exact spec_PlaceInRing.mono _ _ _ _)
      | (with_reducible exact spec_RaisedRing.mono _ _ _ _ _)
      | (with_reducible exact spec_TurnedRing.mono _ _ _ _ _)
      | (with_reducible exact LeO.refl _)
      | (with_reducible exact LeO.none _)
      | (with_reducible refine LeO.ite ?_ ?_)
      | (with_reducible refine LeO.bind ?_ (fun _ => ?_))
      | exact ih0 _ _ _ _ _ _ _ _
      | exact ih1 _
      | exact ih2 _ _ _ _ _ _ _ _ _ _ _ _ _ _ _ _ _ _ _
      | exact ih3 _ _ _ _ _ _ _ _ _ _ _ _ _ _ _ _
      | exact ih4 _ _ _ _ _ _ _ _ _ _
      | exact ih5 _ _ _ _ _ _
      | exact ih6 _ _ _ _ _ _
      | exact ih7 _ _ _ _ _ _ _ _
      | exact ih8 _ _ _ _ _ _ _ _ _ _ _
      | exact ih9 _ _ _ _ _ _ _ _ _ _ _ _
      | exact impl_BackRing.mono _ _ _ _
      | exact impl_CodeAtPlace.mono _ _ _ _
      | exact impl_CodesOfRing.mono _ _ _ _
      | exact impl_CountCodes.mono _ _ _
      | exact impl_CountRings.mono _ _ _
      | exact impl_GreatestRing.mono _ _ _
      | exact impl_IsRing.mono _ _ _ _
      | exact impl_LeastRing.mono _ _ _
      | exact impl_PlaceInRing.mono _ _ _ _
      | exact impl_RaisedRing.mono _ _ _ _ _
      | exact impl_TurnedRing.mono _ _ _ _ _
      | exact laws_eTexts.mono _ _ _
      | exact spec_BackRing.mono _ _ _ _
      | exact spec_CodeAtPlace.mono _ _ _ _
      | exact spec_CodesOfRing.mono _ _ _ _
      | exact spec_DrawIsRing.mono _ _
      | exact spec_DrawPlaceInRing.mono _ _
      | exact spec_DrawTurnedRing.mono _ _
      | exact spec_IsRing.mono _ _ _ _
      | exact spec_PlaceInRing.mono _ _ _ _
      | exact spec_RaisedRing.mono _ _ _ _ _
      | exact spec_TurnedRing.mono _ _ _ _ _
      | exact LeO.none _
      | refine LeO.ite ?_ ?_
      | refine LeO.bind ?_ (fun _ => ?_)
    · intro y0 y1 y2 y3 y4 y5 y6 y7
      unfold laws_FnRingsMeet.l0
      repeat' first
      | (with_reducible exact ih0 _ _ _ _ _ _ _ _)
      | (with_reducible exact ih1 _)
      | (with_reducible exact ih2 _ _ _ _ _ _ _ _ _ _ _ _ _ _ _ _ _ _ _)
      | (with_reducible exact ih3 _ _ _ _ _ _ _ _ _ _ _ _ _ _ _ _)
      | (with_reducible exact ih4 _ _ _ _ _ _ _ _ _ _)
      | (with_reducible exact ih5 _ _ _ _ _ _)
      | (with_reducible exact ih6 _ _ _ _ _ _)
      | (with_reducible exact ih7 _ _ _ _ _ _ _ _)
      | (with_reducible exact ih8 _ _ _ _ _ _ _ _ _ _ _)
      | (with_reducible exact ih9 _ _ _ _ _ _ _ _ _ _ _ _)
      | (with_reducible exact impl_BackRing.mono _ _ _ _)
      | (with_reducible exact impl_CodeAtPlace.mono _ _ _ _)
      | (with_reducible exact impl_CodesOfRing.mono _ _ _ _)
      | (with_reducible exact impl_CountCodes.mono _ _ _)
      | (with_reducible exact impl_CountRings.mono _ _ _)
      | (with_reducible exact impl_GreatestRing.mono _ _ _)
      | (with_reducible exact impl_IsRing.mono _ _ _ _)
      | (with_reducible exact impl_LeastRing.mono _ _ _)
      | (with_reducible exact impl_PlaceInRing.mono _ _ _ _)
      | (with_reducible exact impl_RaisedRing.mono _ _ _ _ _)
      | (with_reducible exact impl_TurnedRing.mono _ _ _ _ _)
      | (with_reducible exact laws_eTexts.mono _ _ _)
      | (with_reducible exact spec_BackRing.mono _ _ _ _)
      | (with_reducible exact spec_CodeAtPlace.mono _ _ _ _)
      | (with_reducible exact spec_CodesOfRing.mono _ _ _ _)
      | (with_reducible exact spec_DrawIsRing.mono _ _)
      | (with_reducible exact spec_DrawPlaceInRing.mono _ _)
      | (with_reducible exact spec_DrawTurnedRing.mono _ _)
      | (with_reducible exact spec_IsRing.mono _ _ _ _)
      | (with_reducible exact spec_PlaceInRing.mono _ _ _ _)
      | (with_reducible exact spec_RaisedRing.mono _ _ _ _ _)
      | (with_reducible exact spec_TurnedRing.mono _ _ _ _ _)
      | (with_reducible exact LeO.refl _)
      | (with_reducible exact LeO.none _)
      | (with_reducible refine LeO.ite ?_ ?_)
      | (with_reducible refine LeO.bind ?_ (fun _ => ?_))
      | exact ih0 _ _ _ _ _ _ _ _
      | exact ih1 _
      | exact ih2 _ _ _ _ _ _ _ _ _ _ _ _ _ _ _ _ _ _ _
      | exact ih3 _ _ _ _ _ _ _ _ _ _ _ _ _ _ _ _
      | exact ih4 _ _ _ _ _ _ _ _ _ _
      | exact ih5 _ _ _ _ _ _
      | exact ih6 _ _ _ _ _ _
      | exact ih7 _ _ _ _ _ _ _ _
      | exact ih8 _ _ _ _ _ _ _ _ _ _ _
      | exact ih9 _ _ _ _ _ _ _ _ _ _ _ _
      | exact impl_BackRing.mono _ _ _ _
      | exact impl_CodeAtPlace.mono _ _ _ _
      | exact impl_CodesOfRing.mono _ _ _ _
      | exact impl_CountCodes.mono _ _ _
      | exact impl_CountRings.mono _ _ _
      | exact impl_GreatestRing.mono _ _ _
      | exact impl_IsRing.mono _ _ _ _
      | exact impl_LeastRing.mono _ _ _
      | exact impl_PlaceInRing.mono _ _ _ _
      | exact impl_RaisedRing.mono _ _ _ _ _
      | exact impl_TurnedRing.mono _ _ _ _ _
      | exact laws_eTexts.mono _ _ _
      | exact spec_BackRing.mono _ _ _ _
      | exact spec_CodeAtPlace.mono _ _ _ _
      | exact spec_CodesOfRing.mono _ _ _ _
      | exact spec_DrawIsRing.mono _ _
      | exact spec_DrawPlaceInRing.mono _ _
      | exact spec_DrawTurnedRing.mono _ _
      | exact spec_IsRing.mono _ _ _ _
      | exact spec_PlaceInRing.mono _ _ _ _
      | exact spec_RaisedRing.mono _ _ _ _ _
      | exact spec_TurnedRing.mono _ _ _ _ _
      | exact LeO.none _
      | refine LeO.ite ?_ ?_
      | refine LeO.bind ?_ (fun _ => ?_)
    · intro y0 y1 y2 y3 y4 y5 y6 y7 y8 y9 y10
      unfold laws_FnRingsMeet.j3
      repeat' first
      | (with_reducible exact ih0 _ _ _ _ _ _ _ _)
      | (with_reducible exact ih1 _)
      | (with_reducible exact ih2 _ _ _ _ _ _ _ _ _ _ _ _ _ _ _ _ _ _ _)
      | (with_reducible exact ih3 _ _ _ _ _ _ _ _ _ _ _ _ _ _ _ _)
      | (with_reducible exact ih4 _ _ _ _ _ _ _ _ _ _)
      | (with_reducible exact ih5 _ _ _ _ _ _)
      | (with_reducible exact ih6 _ _ _ _ _ _)
      | (with_reducible exact ih7 _ _ _ _ _ _ _ _)
      | (with_reducible exact ih8 _ _ _ _ _ _ _ _ _ _ _)
      | (with_reducible exact ih9 _ _ _ _ _ _ _ _ _ _ _ _)
      | (with_reducible exact impl_BackRing.mono _ _ _ _)
      | (with_reducible exact impl_CodeAtPlace.mono _ _ _ _)
      | (with_reducible exact impl_CodesOfRing.mono _ _ _ _)
      | (with_reducible exact impl_CountCodes.mono _ _ _)
      | (with_reducible exact impl_CountRings.mono _ _ _)
      | (with_reducible exact impl_GreatestRing.mono _ _ _)
      | (with_reducible exact impl_IsRing.mono _ _ _ _)
      | (with_reducible exact impl_LeastRing.mono _ _ _)
      | (with_reducible exact impl_PlaceInRing.mono _ _ _ _)
      | (with_reducible exact impl_RaisedRing.mono _ _ _ _ _)
      | (with_reducible exact impl_TurnedRing.mono _ _ _ _ _)
      | (with_reducible exact laws_eTexts.mono _ _ _)
      | (with_reducible exact spec_BackRing.mono _ _ _ _)
      | (with_reducible exact spec_CodeAtPlace.mono _ _ _ _)
      | (with_reducible exact spec_CodesOfRing.mono _ _ _ _)
      | (with_reducible exact spec_DrawIsRing.mono _ _)
      | (with_reducible exact spec_DrawPlaceInRing.mono _ _)
      | (with_reducible exact spec_DrawTurnedRing.mono _ _)
      | (with_reducible exact spec_IsRing.mono _ _ _ _)
      | (with_reducible exact spec_PlaceInRing.mono _ _ _ _)
      | (with_reducible exact spec_RaisedRing.mono _ _ _ _ _)
      | (with_reducible exact spec_TurnedRing.mono _ _ _ _ _)
      | (with_reducible exact LeO.refl _)
      | (with_reducible exact LeO.none _)
      | (with_reducible refine LeO.ite ?_ ?_)
      | (with_reducible refine LeO.bind ?_ (fun _ => ?_))
      | exact ih0 _ _ _ _ _ _ _ _
      | exact ih1 _
      | exact ih2 _ _ _ _ _ _ _ _ _ _ _ _ _ _ _ _ _ _ _
      | exact ih3 _ _ _ _ _ _ _ _ _ _ _ _ _ _ _ _
      | exact ih4 _ _ _ _ _ _ _ _ _ _
      | exact ih5 _ _ _ _ _ _
      | exact ih6 _ _ _ _ _ _
      | exact ih7 _ _ _ _ _ _ _ _
      | exact ih8 _ _ _ _ _ _ _ _ _ _ _
      | exact ih9 _ _ _ _ _ _ _ _ _ _ _ _
      | exact impl_BackRing.mono _ _ _ _
      | exact impl_CodeAtPlace.mono _ _ _ _
      | exact impl_CodesOfRing.mono _ _ _ _
      | exact impl_CountCodes.mono _ _ _
      | exact impl_CountRings.mono _ _ _
      | exact impl_GreatestRing.mono _ _ _
      | exact impl_IsRing.mono _ _ _ _
      | exact impl_LeastRing.mono _ _ _
      | exact impl_PlaceInRing.mono _ _ _ _
      | exact impl_RaisedRing.mono _ _ _ _ _
      | exact impl_TurnedRing.mono _ _ _ _ _
      | exact laws_eTexts.mono _ _ _
      | exact spec_BackRing.mono _ _ _ _
      | exact spec_CodeAtPlace.mono _ _ _ _
      | exact spec_CodesOfRing.mono _ _ _ _
      | exact spec_DrawIsRing.mono _ _
      | exact spec_DrawPlaceInRing.mono _ _
      | exact spec_DrawTurnedRing.mono _ _
      | exact spec_IsRing.mono _ _ _ _
      | exact spec_PlaceInRing.mono _ _ _ _
      | exact spec_RaisedRing.mono _ _ _ _ _
      | exact spec_TurnedRing.mono _ _ _ _ _
      | exact LeO.none _
      | refine LeO.ite ?_ ?_
      | refine LeO.bind ?_ (fun _ => ?_)
    · intro y0 y1 y2 y3 y4 y5 y6 y7 y8 y9 y10 y11
      unfold laws_FnRingsMeet.l1
      repeat' first
      | (with_reducible exact ih0 _ _ _ _ _ _ _ _)
      | (with_reducible exact ih1 _)
      | (with_reducible exact ih2 _ _ _ _ _ _ _ _ _ _ _ _ _ _ _ _ _ _ _)
      | (with_reducible exact ih3 _ _ _ _ _ _ _ _ _ _ _ _ _ _ _ _)
      | (with_reducible exact ih4 _ _ _ _ _ _ _ _ _ _)
      | (with_reducible exact ih5 _ _ _ _ _ _)
      | (with_reducible exact ih6 _ _ _ _ _ _)
      | (with_reducible exact ih7 _ _ _ _ _ _ _ _)
      | (with_reducible exact ih8 _ _ _ _ _ _ _ _ _ _ _)
      | (with_reducible exact ih9 _ _ _ _ _ _ _ _ _ _ _ _)
      | (with_reducible exact impl_BackRing.mono _ _ _ _)
      | (with_reducible exact impl_CodeAtPlace.mono _ _ _ _)
      | (with_reducible exact impl_CodesOfRing.mono _ _ _ _)
      | (with_reducible exact impl_CountCodes.mono _ _ _)
      | (with_reducible exact impl_CountRings.mono _ _ _)
      | (with_reducible exact impl_GreatestRing.mono _ _ _)
      | (with_reducible exact impl_IsRing.mono _ _ _ _)
      | (with_reducible exact impl_LeastRing.mono _ _ _)
      | (with_reducible exact impl_PlaceInRing.mono _ _ _ _)
      | (with_reducible exact impl_RaisedRing.mono _ _ _ _ _)
      | (with_reducible exact impl_TurnedRing.mono _ _ _ _ _)
      | (with_reducible exact laws_eTexts.mono _ _ _)
      | (with_reducible exact spec_BackRing.mono _ _ _ _)
      | (with_reducible exact spec_CodeAtPlace.mono _ _ _ _)
      | (with_reducible exact spec_CodesOfRing.mono _ _ _ _)
      | (with_reducible exact spec_DrawIsRing.mono _ _)
      | (with_reducible exact spec_DrawPlaceInRing.mono _ _)
      | (with_reducible exact spec_DrawTurnedRing.mono _ _)
      | (with_reducible exact spec_IsRing.mono _ _ _ _)
      | (with_reducible exact spec_PlaceInRing.mono _ _ _ _)
      | (with_reducible exact spec_RaisedRing.mono _ _ _ _ _)
      | (with_reducible exact spec_TurnedRing.mono _ _ _ _ _)
      | (with_reducible exact LeO.refl _)
      | (with_reducible exact LeO.none _)
      | (with_reducible refine LeO.ite ?_ ?_)
      | (with_reducible refine LeO.bind ?_ (fun _ => ?_))
      | exact ih0 _ _ _ _ _ _ _ _
      | exact ih1 _
      | exact ih2 _ _ _ _ _ _ _ _ _ _ _ _ _ _ _ _ _ _ _
      | exact ih3 _ _ _ _ _ _ _ _ _ _ _ _ _ _ _ _
      | exact ih4 _ _ _ _ _ _ _ _ _ _
      | exact ih5 _ _ _ _ _ _
      | exact ih6 _ _ _ _ _ _
      | exact ih7 _ _ _ _ _ _ _ _
      | exact ih8 _ _ _ _ _ _ _ _ _ _ _
      | exact ih9 _ _ _ _ _ _ _ _ _ _ _ _
      | exact impl_BackRing.mono _ _ _ _
      | exact impl_CodeAtPlace.mono _ _ _ _
      | exact impl_CodesOfRing.mono _ _ _ _
      | exact impl_CountCodes.mono _ _ _
      | exact impl_CountRings.mono _ _ _
      | exact impl_GreatestRing.mono _ _ _
      | exact impl_IsRing.mono _ _ _ _
      | exact impl_LeastRing.mono _ _ _
      | exact impl_PlaceInRing.mono _ _ _ _
      | exact impl_RaisedRing.mono _ _ _ _ _
      | exact impl_TurnedRing.mono _ _ _ _ _
      | exact laws_eTexts.mono _ _ _
      | exact spec_BackRing.mono _ _ _ _
      | exact spec_CodeAtPlace.mono _ _ _ _
      | exact spec_CodesOfRing.mono _ _ _ _
      | exact spec_DrawIsRing.mono _ _
      | exact spec_DrawPlaceInRing.mono _ _
      | exact spec_DrawTurnedRing.mono _ _
      | exact spec_IsRing.mono _ _ _ _
      | exact spec_PlaceInRing.mono _ _ _ _
      | exact spec_RaisedRing.mono _ _ _ _ _
      | exact spec_TurnedRing.mono _ _ _ _ _
      | exact LeO.none _
      | refine LeO.ite ?_ ?_
      | refine LeO.bind ?_ (fun _ => ?_)
theorem laws_FnRingsMeet.mono : ∀ a0 a1 k, LeO (laws_FnRingsMeet.f k a0 a1) (laws_FnRingsMeet.f (k + 1) a0 a1) := by
  intro a0 a1 k
  obtain ⟨ih0, ih1, ih2, ih3, ih4, ih5, ih6, ih7, ih8, ih9⟩ := laws_FnRingsMeet.mono_l k
  unfold laws_FnRingsMeet.f
  repeat' first
      | (with_reducible exact ih0 _ _ _ _ _ _ _ _)
      | (with_reducible exact ih1 _)
      | (with_reducible exact ih2 _ _ _ _ _ _ _ _ _ _ _ _ _ _ _ _ _ _ _)
      | (with_reducible exact ih3 _ _ _ _ _ _ _ _ _ _ _ _ _ _ _ _)
      | (with_reducible exact ih4 _ _ _ _ _ _ _ _ _ _)
      | (with_reducible exact ih5 _ _ _ _ _ _)
      | (with_reducible exact ih6 _ _ _ _ _ _)
      | (with_reducible exact ih7 _ _ _ _ _ _ _ _)
      | (with_reducible exact ih8 _ _ _ _ _ _ _ _ _ _ _)
      | (with_reducible exact ih9 _ _ _ _ _ _ _ _ _ _ _ _)
      | (with_reducible exact impl_BackRing.mono _ _ _ _)
      | (with_reducible exact impl_CodeAtPlace.mono _ _ _ _)
      | (with_reducible exact impl_CodesOfRing.mono _ _ _ _)
      | (with_reducible exact impl_CountCodes.mono _ _ _)
      | (with_reducible exact impl_CountRings.mono _ _ _)
      | (with_reducible exact impl_GreatestRing.mono _ _ _)
      | (with_reducible exact impl_IsRing.mono _ _ _ _)
      | (with_reducible exact impl_LeastRing.mono _ _ _)
      | (with_reducible exact impl_PlaceInRing.mono _ _ _ _)
      | (with_reducible exact impl_RaisedRing.mono _ _ _ _ _)
      | (with_reducible exact impl_TurnedRing.mono _ _ _ _ _)
      | (with_reducible exact laws_eTexts.mono _ _ _)
      | (with_reducible exact spec_BackRing.mono _ _ _ _)
      | (with_reducible exact spec_CodeAtPlace.mono _ _ _ _)
      | (with_reducible exact spec_CodesOfRing.mono _ _ _ _)
      | (with_reducible exact spec_DrawIsRing.mono _ _)
      | (with_reducible exact spec_DrawPlaceInRing.mono _ _)
      | (with_reducible exact spec_DrawTurnedRing.mono _ _)
      | (with_reducible exact spec_IsRing.mono _ _ _ _)
      | (with_reducible exact spec_PlaceInRing.mono _ _ _ _)
      | (with_reducible exact spec_RaisedRing.mono _ _ _ _ _)
      | (with_reducible exact spec_TurnedRing.mono _ _ _ _ _)
      | (with_reducible exact LeO.refl _)
      | (with_reducible exact LeO.none _)
      | (with_reducible refine LeO.ite ?_ ?_)
      | (with_reducible refine LeO.bind ?_ (fun _ => ?_))
      | exact ih0 _ _ _ _ _ _ _ _
      | exact ih1 _
      | exact ih2 _ _ _ _ _ _ _ _ _ _ _ _ _ _ _ _ _ _ _
      | exact ih3 _ _ _ _ _ _ _ _ _ _ _ _ _ _ _ _
      | exact ih4 _ _ _ _ _ _ _ _ _ _
      | exact ih5 _ _ _ _ _ _
      | exact ih6 _ _ _ _ _ _
      | exact ih7 _ _ _ _ _ _ _ _
      | exact ih8 _ _ _ _ _ _ _ _ _ _ _
      | exact ih9 _ _ _ _ _ _ _ _ _ _ _ _
      | exact impl_BackRing.mono _ _ _ _
      | exact impl_CodeAtPlace.mono _ _ _ _
      | exact impl_CodesOfRing.mono _ _ _ _
      | exact impl_CountCodes.mono _ _ _
      | exact impl_CountRings.mono _ _ _
      | exact impl_GreatestRing.mono _ _ _
      | exact impl_IsRing.mono _ _ _ _
      | exact impl_LeastRing.mono _ _ _
      | exact impl_PlaceInRing.mono _ _ _ _
      | exact impl_RaisedRing.mono _ _ _ _ _
      | exact impl_TurnedRing.mono _ _ _ _ _
      | exact laws_eTexts.mono _ _ _
      | exact spec_BackRing.mono _ _ _ _
      | exact spec_CodeAtPlace.mono _ _ _ _
      | exact spec_CodesOfRing.mono _ _ _ _
      | exact spec_DrawIsRing.mono _ _
      | exact spec_DrawPlaceInRing.mono _ _
      | exact spec_DrawTurnedRing.mono _ _
      | exact spec_IsRing.mono _ _ _ _
      | exact spec_PlaceInRing.mono _ _ _ _
      | exact spec_RaisedRing.mono _ _ _ _ _
      | exact spec_TurnedRing.mono _ _ _ _ _
      | exact LeO.none _
      | refine LeO.ite ?_ ?_
      | refine LeO.bind ?_ (fun _ => ?_)
def laws_FnRingsMeet.T24 : Bool × List (List Nat × List Nat) := (true, [([], []), ([0], [0]), ([], []), ([2], [2]), ([1, 3], [1, 3]), ([4], [4]), ([5], [5]), ([6, 5], [5, 6]), ([5], [5]), ([5], [5]), ([8, 9, 5], [5, 8, 9]), ([7, 10, 5], [5, 7, 10]), ([5, 11], [5, 11])])
def laws_FnRingsMeet.B24 : List Nat := [0, 1, 0, 4, 15, 31, 63, 127, 63, 63, 831, 2047, 4095]
theorem laws_FnRingsMeet.tab24 : rtab .any (opsOf Tryz.f4 24) = laws_FnRingsMeet.T24 := by kernel_rfl
theorem laws_FnRingsMeet.bits24 : waitsOk laws_FnRingsMeet.T24.2 laws_FnRingsMeet.B24 = true := by kernel_rfl
def laws_FnRingsMeet.T49 : Bool × List (List Nat × List Nat) := (true, [([], []), ([], []), ([], []), ([2], [2]), ([], []), ([3, 4], [3, 4]), ([], []), ([6], [6]), ([5, 7], [5, 7]), ([0, 1, 8], [0, 1, 8]), ([9], [9]), ([10], [10]), ([10], [10]), ([11, 9, 0, 1, 2, 3, 4, 5, 6, 7, 8, 9, 10, 11], [11]), ([12, 13, 0, 1, 2, 3, 4, 5, 6, 7, 8, 9, 10, 11, 12, 13], [12])])
def laws_FnRingsMeet.B49 : List Nat := [0, 0, 0, 4, 0, 28, 0, 64, 252, 511, 1023, 2047, 2047, 4095, 16383]
theorem laws_FnRingsMeet.tab49 : rtab .any (opsOf Tryz.f4 49) = laws_FnRingsMeet.T49 := by kernel_rfl
theorem laws_FnRingsMeet.bits49 : waitsOk laws_FnRingsMeet.T49.2 laws_FnRingsMeet.B49 = true := by kernel_rfl
def laws_FnRingsMeet.T54 : Bool × List (List Nat × List Nat) := (true, [([], []), ([], []), ([], []), ([2], [2]), ([], []), ([3, 4], [3, 4]), ([], []), ([6], [6]), ([5, 7], [5, 7]), ([0, 1, 8], [0, 1, 8]), ([9], [9]), ([10], [10]), ([10], [10]), ([11, 9, 0, 1, 2, 3, 4, 5, 6, 7, 8, 9, 10, 11], [11]), ([12, 13, 0, 1, 2, 3, 4, 5, 6, 7, 8, 9, 10, 11, 12, 13], [12])])
def laws_FnRingsMeet.B54 : List Nat := [0, 0, 0, 4, 0, 28, 0, 64, 252, 511, 1023, 2047, 2047, 4095, 16383]
theorem laws_FnRingsMeet.tab54 : rtab .any (opsOf Tryz.f4 54) = laws_FnRingsMeet.T54 := by kernel_rfl
theorem laws_FnRingsMeet.bits54 : waitsOk laws_FnRingsMeet.T54.2 laws_FnRingsMeet.B54 = true := by kernel_rfl
set_option maxHeartbeats 8000000 in
set_option maxRecDepth 100000 in
theorem laws_FnRingsMeet.calls (k : Nat) (A0 : Option Addr) (c0 : Nat) (l0 : List Int) (A1 : Option Addr) (c1 : Nat) (l1 : List Int) (r : Bool) (w : World) (hr0 : Kd.C (Kd.int .u8) w A0 l0.length l0) (hc0 : l0.length ≤ c0) (hr1 : Kd.C (Kd.int .u8) w A1 l1.length l1) (hc1 : l1.length ≤ c1) (hG : strings_Index.Gl w) (h : laws_FnRingsMeet.f k l0 l1 = some r) (hr_ : r = true := by rfl) :
    Calls Tryz.prog 4 #[.slice A0 l0.length c0, .slice A1 l1.length c1] w fun e w' => e = .returned (.bool r) ∧ Below w.heap.size w w' := by
  have HRT := Aside0.mk hr_
  clear hr_
  have HG := Aside0.mk hG
  clear hG
  have hu23 := Tryz.underlying23
  have HR0 := Aside0.mk hr0
  have HC0 := Aside0.mk hc0
  clear hr0 hc0
  have HR1 := Aside0.mk hr1
  have HC1 := Aside0.mk hc1
  clear hr1 hc1
  have HB := Aside0.mk (Below.refl w.heap.size w)
  have H : ((laws_big.f l0 l1).bind fun t796 => (if t796 = true then (some true) else ((spec_DrawIsRing.f k l0).bind fun bt797 => ((impl_IsRing.f k bt797.1 bt797.2.1 bt797.2.2).bind fun bt801 => ((spec_IsRing.f k bt797.1 bt797.2.1 bt797.2.2).bind fun bt803 => ((impl_CodesOfRing.f k bt797.1 bt797.2.1 bt797.2.2).bind fun bt805 => ((spec_CodesOfRing.f k bt797.1 bt797.2.1 bt797.2.2).bind fun bt809 => ((impl_BackRing.f k bt797.1 bt797.2.1 bt797.2.2).bind fun bt813 => ((spec_BackRing.f k bt797.1 bt797.2.1 bt797.2.2).bind fun bt815 => (if (bt801.2 != bt803.2) = true then (laws_FnRingsMeet.j0 k l1 bt797.2.2 bt805.1 bt805.2 bt813.1 true bt797.1 bt797.2.1) else (if (bt801.1 != bt803.1) = true then (laws_FnRingsMeet.j0 k l1 bt797.2.2 bt805.1 bt805.2 bt813.1 true bt797.1 bt797.2.1) else (if (bt805.2 != bt809.2) = true then (laws_FnRingsMeet.j0 k l1 bt797.2.2 bt805.1 bt805.2 bt813.1 true bt797.1 bt797.2.1) else ((laws_eTexts.f k bt805.1 bt809.1).bind fun t817 => (if t817 = true then (if (bt813.2 != bt815.2) = true then (laws_FnRingsMeet.j0 k l1 bt797.2.2 bt805.1 bt805.2 bt813.1 true bt797.1 bt797.2.1) else (if bt813.1.toList = bt815.1.toList then (if bt801.2 = true then (if (bt805.2 != bt801.1) = true then (laws_FnRingsMeet.j0 k l1 bt797.2.2 bt805.1 bt805.2 bt813.1 true bt797.1 bt797.2.1) else (laws_FnRingsMeet.j0 k l1 bt797.2.2 bt805.1 bt805.2 bt813.1 (bt813.2 != bt805.2) bt797.1 bt797.2.1)) else (if (bt805.2 != false) = true then (laws_FnRingsMeet.j0 k l1 bt797.2.2 bt805.1 bt805.2 bt813.1 true bt797.1 bt797.2.1) else (laws_FnRingsMeet.j0 k l1 bt797.2.2 bt805.1 bt805.2 bt813.1 (bt813.2 != bt805.2) bt797.1 bt797.2.1))) else (laws_FnRingsMeet.j0 k l1 bt797.2.2 bt805.1 bt805.2 bt813.1 true bt797.1 bt797.2.1))) else (laws_FnRingsMeet.j0 k l1 bt797.2.2 bt805.1 bt805.2 bt813.1 true bt797.1 bt797.2.1))))))))))))))) = some r := h
  clear h
  replace H := Option.bind_eq_some_iff.mp H
  obtain ⟨t796, A30, H⟩ := H
  try dsimp only at H
  have A3 := Aside0.mk A30
  clear A30
  by_cases c4 : t796 = true
  · subst c4
    rw [if_pos rfl] at H
    obtain rfl := Option.some.inj H
    go_enter Tryz.func4, Tryz.ntmps4
    go_wp2_with (first | ((with_reducible refine gate_callee (f := 28) rfl ?_); refine goesL_ (some 72) rfl rfl Tryz.func28 (by kernel_rfl) rfl #[.slice A0 l0.length c0, .slice A1 l1.length c1] rfl (by (try simp only [m_1, m_2, m_3]); first | done | rfl | (simp only [m_4, m_5]; rfl)) ?_; (with_reducible refine (laws_big.calls _ _ l0 _ _ l1 true _ ?side1 ?side2 ?side3 ?side4 A3.out).mono ?_); (case side1 => repeat (first | exact HR0.out | (with_reducible refine Kd.C_alloc ?_ _) | (with_reducible refine Kd.C_drewN ?_ _) | (with_reducible refine Kd.C_drew ?_))); (case side2 => exact HC0.out); (case side3 => repeat (first | exact HR1.out | (with_reducible refine Kd.C_alloc ?_ _) | (with_reducible refine Kd.C_drewN ?_ _) | (with_reducible refine Kd.C_drew ?_))); (case side4 => exact HC1.out); rintro e w' ⟨rfl, ⟨nd, rfl⟩⟩; refine ⟨_, rfl, ?_⟩))
    go_ret
    exact ⟨by first | rfl | (simp [errW_none, errW_some] <;> rfl) | (simp [*, errW_none, errW_some] <;> rfl), bB HB⟩
  replace c4 := Bool.eq_false_iff.mpr c4
  subst c4
  rw [if_neg (show ¬ (false = true) by decide)] at H
  replace H := Option.bind_eq_some_iff.mp H
  obtain ⟨⟨t797, t798, t799⟩, A50, H⟩ := H
  try dsimp only at H
  have A5 := Aside0.mk A50
  clear A50
  replace H := Option.bind_eq_some_iff.mp H
  obtain ⟨⟨t801, t802⟩, A60, H⟩ := H
  try dsimp only at H
  have A6 := Aside0.mk A60
  clear A60
  replace H := Option.bind_eq_some_iff.mp H
  obtain ⟨⟨t803, t804⟩, A70, H⟩ := H
  try dsimp only at H
  have A7 := Aside0.mk A70
  clear A70
  replace H := Option.bind_eq_some_iff.mp H
  obtain ⟨⟨t805, t808⟩, A80, H⟩ := H
  try dsimp only at H
  have A8 := Aside0.mk A80
  clear A80
  replace H := Option.bind_eq_some_iff.mp H
  obtain ⟨⟨t809, t812⟩, A90, H⟩ := H
  try dsimp only at H
  have A9 := Aside0.mk A90
  clear A90
  replace H := Option.bind_eq_some_iff.mp H
  obtain ⟨⟨t813, t814⟩, A100, H⟩ := H
  try dsimp only at H
  have A10 := Aside0.mk A100
  clear A100
  replace H := Option.bind_eq_some_iff.mp H
  obtain ⟨⟨t815, t816⟩, A110, H⟩ := H
  try dsimp only at H
  have A11 := Aside0.mk A110
  clear A110
  have HC12 := Aside0.mk H
  clear H
  go_enter Tryz.func4, Tryz.ntmps4
  go_upto_region 10 with (first | ((with_reducible refine gate_callee (f := 28) rfl ?_); refine goesL_ (some 72) rfl rfl Tryz.func28 (by kernel_rfl) rfl #[.slice A0 l0.length c0, .slice A1 l1.length c1] rfl (by (try simp only [m_1, m_2, m_3]); first | done | rfl | (simp only [m_4, m_5]; rfl)) ?_; (with_reducible refine (laws_big.calls _ _ l0 _ _ l1 false _ ?side1 ?side2 ?side3 ?side4 A3.out).mono ?_); (case side1 => repeat (first | exact HR0.out | (with_reducible refine Kd.C_alloc ?_ _) | (with_reducible refine Kd.C_drewN ?_ _) | (with_reducible refine Kd.C_drew ?_))); (case side2 => exact HC0.out); (case side3 => repeat (first | exact HR1.out | (with_reducible refine Kd.C_alloc ?_ _) | (with_reducible refine Kd.C_drewN ?_ _) | (with_reducible refine Kd.C_drew ?_))); (case side4 => exact HC1.out); rintro e w' ⟨rfl, ⟨nd, rfl⟩⟩; refine ⟨_, rfl, ?_⟩) | ((with_reducible refine gate_callee (f := 29) rfl ?_); refine goesL_ (some 75) rfl rfl Tryz.func29 (by kernel_rfl) rfl #[.slice A0 l0.length c0] rfl (by (try simp only [m_1, m_2, m_3]); first | done | rfl | (simp only [m_4, m_5]; rfl)) ?_; (with_reducible refine (spec_DrawIsRing.calls k _ _ l0 t797 t798 t799 _ ?side1 ?side2 A5.out).mono ?_); (case side1 => repeat (first | exact HR0.out | (with_reducible refine Kd.C_alloc ?_ _) | (with_reducible refine Kd.C_drewN ?_ _) | (with_reducible refine Kd.C_drew ?_))); (case side2 => exact HC0.out); rintro e w13 ⟨rfl, hb⟩; refine ⟨_, rfl, ?_⟩; replace HB := bsx hb HB; skip; (try clear hb); (try clear hb2); (try clear hk); (try clear hi)) | ((with_reducible refine gate_dst (N := 5) rfl ?_); (try (refine gate_guard (by rfl) ?_; dsimp only)); refine box_event ?hg (N := 5) ?hd (cs := #[.int .i64 0, .int .i64 0]) (t := 23) ?hr ?_; (case hd => rfl); (case hg => rfl); (case hr => first | (go_simp; done) | (go_simp; rfl)); intro gb800 hg w14 hbox hb; have n0_ := bsx hb HB; have n1_ := Aside0.mk (hbox); have n2_ := gwx hg HB; have n3_ := n2_; clear HB; have HB := n0_; have BK800 := n1_; have GW800 := n2_; have GE800 := n3_; clear n0_ n1_ n2_ n3_; clear hb hbox hg; have hcz15_0 := cz0 BK800; have hcz15_1 := cz1 BK800; have hfz15_0 := blk_frozen BK800.out 0; have hfz15_1 := blk_frozen BK800.out 1) | ((with_reducible refine gate_callee (f := 20) rfl ?_); refine goesL_ (some 81) rfl rfl Tryz.func20 (by kernel_rfl) rfl #[.agg #[.int .i64 t797, .int .i64 t798], .string t799] rfl (by (try simp only [m_1, m_2, m_3]); first | done | rfl | (simp only [m_4, m_5]; rfl)) ?_; (with_reducible refine (impl_IsRing.calls k t797 t798 t799 t801 t802 _ A6.out).mono ?_); rintro e w16 ⟨rfl, hb⟩; refine ⟨_, rfl, ?_⟩; have n0_ := Aside0.mk (blk_below (g := gb800) (o := .cells #[.int .i64 t797, .int .i64 t798] 23 (0, 0)) (by (with_reducible repeat (first | refine g_d ?_ _ | refine g_e ?_ | refine g_a ?_ _)); refine blk_put (cs := #[.int .i64 t797, .int .i64 0]) ?_ 1 _ rfl; (with_reducible repeat (first | refine g_d ?_ _ | refine g_e ?_ | refine g_a ?_ _)); refine blk_put (cs := #[.int .i64 0, .int .i64 0]) ?_ 0 _ rfl; (with_reducible repeat (first | refine g_d ?_ _ | refine g_e ?_ | refine g_a ?_ _)); exact BK800.out) hb); replace HB := bsx hb HB; clear BK800; have BK800 := n0_; clear n0_; (try clear hb); (try clear hb2); (try clear hk); (try clear hi); have hcz17_0 := cz0 BK800; have hcz17_1 := cz1 BK800; have hfz17_0 := blk_frozen BK800.out 0; have hfz17_1 := blk_frozen BK800.out 1) | ((with_reducible refine gate_callee (f := 30) rfl ?_); refine goesL_ (some 87) rfl rfl Tryz.func30 (by kernel_rfl) rfl #[.agg #[.int .i64 t797, .int .i64 t798], .string t799] rfl (by (try simp only [m_1, m_2, m_3]); first | done | rfl | (simp only [m_4, m_5]; rfl)) ?_; (with_reducible refine (spec_IsRing.calls k t797 t798 t799 t803 t804 _ A7.out).mono ?_); rintro e w18 ⟨rfl, hb⟩; refine ⟨_, rfl, ?_⟩; replace BK800 := bbx hb BK800; replace HB := bsx hb HB; skip; (try clear hb); (try clear hb2); (try clear hk); (try clear hi); have hcz19_0 := cz0 BK800; have hcz19_1 := cz1 BK800; have hfz19_0 := blk_frozen BK800.out 0; have hfz19_1 := blk_frozen BK800.out 1) | ((with_reducible refine gate_callee (f := 31) rfl ?_); refine goesL_ (some 93) rfl rfl Tryz.func31 (by kernel_rfl) rfl #[.agg #[.int .i64 t797, .int .i64 t798], .string t799] rfl (by (try simp only [m_1, m_2, m_3]); first | done | rfl | (simp only [m_4, m_5]; rfl)) ?_; (with_reducible refine (impl_CodesOfRing.calls k t797 t798 t799 t805 t808 _ A8.out).mono ?_); rintro e w20 ⟨v806, rfl, ho0, hb⟩; refine ⟨_, rfl, ?_⟩; have n0_ := Aside0.mk (Kd.R_lower ho0 (below_size (bB HB))); replace BK800 := bbx hb BK800; have n2_ := bsx hb HB; clear HB; have HO807 := n0_; have HB := n2_; clear n0_ n2_; (try clear hb); (try clear hb2); (try clear hk); (try clear hi); (try clear ho0); have hcz21_0 := cz0 BK800; have hcz21_1 := cz1 BK800; have hfz21_0 := blk_frozen BK800.out 0; have hfz21_1 := blk_frozen BK800.out 1) | ((with_reducible refine gate_callee (f := 32) rfl ?_); refine goesL_ (some 99) rfl rfl Tryz.func32 (by kernel_rfl) rfl #[.agg #[.int .i64 t797, .int .i64 t798], .string t799] rfl (by (try simp only [m_1, m_2, m_3]); first | done | rfl | (simp only [m_4, m_5]; rfl)) ?_; (with_reducible refine (spec_CodesOfRing.calls k t797 t798 t799 t809 t812 _ A9.out).mono ?_); rintro e w22 ⟨v810, rfl, ho0, hb⟩; refine ⟨_, rfl, ?_⟩; have n0_ := Aside0.mk (Kd.R_elder' (by (with_reducible repeat (first | apply r_a | apply r_d | apply r_e)); exact HO807.out) (Kd.R_base ho0) hb); have n1_ := Aside0.mk (Kd.R_lower (Kd.R_new' ho0 (Kd.R_lt (by (with_reducible repeat (first | apply r_a | apply r_d | apply r_e)); exact HO807.out))) (below_size (bB HB))); replace BK800 := bbx hb BK800; have n3_ := bsx hb HB; clear HO807; clear HB; have HO807 := n0_; have HO811 := n1_; have HB := n3_; clear n0_ n1_ n3_; (try clear hb); (try clear hb2); (try clear hk); (try clear hi); (try clear ho0); have hcz23_0 := cz0 BK800; have hcz23_1 := cz1 BK800; have hfz23_0 := blk_frozen BK800.out 0; have hfz23_1 := blk_frozen BK800.out 1) | ((with_reducible refine gate_callee (f := 33) rfl ?_); refine goesL_ (some 105) rfl rfl Tryz.func33 (by kernel_rfl) rfl #[.agg #[.int .i64 t797, .int .i64 t798], .string t799] rfl (by (try simp only [m_1, m_2, m_3]); first | done | rfl | (simp only [m_4, m_5]; rfl)) ?_; (with_reducible refine (impl_BackRing.calls k t797 t798 t799 t813 t814 _ A10.out).mono ?_); rintro e w24 ⟨rfl, hb⟩; refine ⟨_, rfl, ?_⟩; have n0_ := Aside0.mk (Kd.R_below (by (with_reducible repeat (first | apply r_a | apply r_d | apply r_e)); exact HO807.out) hb); have n1_ := Aside0.mk (Kd.R_below (by (with_reducible repeat (first | apply r_a | apply r_d | apply r_e)); exact HO811.out) hb); replace BK800 := bbx hb BK800; replace HB := bsx hb HB; clear HO807; clear HO811; have HO807 := n0_; have HO811 := n1_; clear n0_ n1_; (try clear hb); (try clear hb2); (try clear hk); (try clear hi); have hcz25_0 := cz0 BK800; have hcz25_1 := cz1 BK800; have hfz25_0 := blk_frozen BK800.out 0; have hfz25_1 := blk_frozen BK800.out 1) | ((with_reducible refine gate_callee (f := 34) rfl ?_); refine goesL_ (some 111) rfl rfl Tryz.func34 (by kernel_rfl) rfl #[.agg #[.int .i64 t797, .int .i64 t798], .string t799] rfl (by (try simp only [m_1, m_2, m_3]); first | done | rfl | (simp only [m_4, m_5]; rfl)) ?_; (with_reducible refine (spec_BackRing.calls k t797 t798 t799 t815 t816 _ A11.out).mono ?_); rintro e w26 ⟨rfl, hb⟩; refine ⟨_, rfl, ?_⟩; have n0_ := Aside0.mk (Kd.R_below (by (with_reducible repeat (first | apply r_a | apply r_d | apply r_e)); exact HO807.out) hb); have n1_ := Aside0.mk (Kd.R_below (by (with_reducible repeat (first | apply r_a | apply r_d | apply r_e)); exact HO811.out) hb); replace BK800 := bbx hb BK800; replace HB := bsx hb HB; clear HO807; clear HO811; have HO807 := n0_; have HO811 := n1_; clear n0_ n1_; (try clear hb); (try clear hb2); (try clear hk); (try clear hi)))
  (try simp only [Act.put, s_1, s_2, s_3])
  go_cut [155] from 1 to 0 (fun v155 wc => ∃ (kq : Nat) (x155_11 : Bool), v155 = .bool x155_11 ∧ Aside0 (laws_FnRingsMeet.j0 kq l1 t799 t805 t808 t813 x155_11 t797 t798 = some r) ∧ Aside0 (kq ≤ k) ∧ Aside0 (Kd.R Kd.string 9 wc w.heap.size (fun _ => True) v806 t805) ∧ Aside0 (wc.heap[gb800]? = some (.cells #[.int .i64 t797, .int .i64 t798] 23 (0, 0))) ∧ Aside0 (Below w.heap.size w wc))
  case first => as_aux_lemma =>
    have H := HC12.out
    clear HC12
    by_cases c27 : (t802 != t804) = true
    · rw [if_pos c27] at H
      have c27b0 : (t802 != t804) = true := c27
      (try (have c27b1 : decide (t802 = t804) = false := by simpa using c27))
      (try (have c27b2 : (t802 == t804) = false := by simpa using c27))
      (try (have c27b3 : ¬ (t802 = t804) := by simpa using c27))
      clear c27
      (first | rw [c27b0] | (simp only [i64_w, i32_w]; rw [c27b0]) | skip)
      rw [HRT.out] at H
      exact absurd H (by generalize k = q_; cases q_ <;> simp [laws_FnRingsMeet.j0])
    rw [if_neg c27] at H
    have c27b0 : (t802 != t804) = false := by simpa using c27
    (try (have c27b1 : decide (t802 = t804) = true := by simpa using c27))
    (try (have c27b2 : (t802 == t804) = true := by simpa using c27))
    clear c27
    (first | rw [c27b0] | (simp only [i64_w, i32_w]; rw [c27b0]) | skip)
    by_cases c28 : (t801 != t803) = true
    · rw [if_pos c28] at H
      have c28b0 : (t801 != t803) = true := c28
      (try (have c28b1 : decide (t801 = t803) = false := by simpa using c28))
      (try (have c28b2 : (t801 == t803) = false := by simpa using c28))
      (try (have c28b3 : ¬ (t801 = t803) := by simpa using c28))
      clear c28
      rw [HRT.out] at H
      exact absurd H (by generalize k = q_; cases q_ <;> simp [laws_FnRingsMeet.j0])
    rw [if_neg c28] at H
    have c28b0 : (t801 != t803) = false := by simpa using c28
    (try (have c28b1 : decide (t801 = t803) = true := by simpa using c28))
    (try (have c28b2 : (t801 == t803) = true := by simpa using c28))
    clear c28
    by_cases c29 : (t808 != t812) = true
    · rw [if_pos c29] at H
      have c29b0 : (t808 != t812) = true := c29
      (try (have c29b1 : decide (t808 = t812) = false := by simpa using c29))
      (try (have c29b2 : (t808 == t812) = false := by simpa using c29))
      (try (have c29b3 : ¬ (t808 = t812) := by simpa using c29))
      clear c29
      rw [HRT.out] at H
      exact absurd H (by generalize k = q_; cases q_ <;> simp [laws_FnRingsMeet.j0])
    rw [if_neg c29] at H
    have c29b0 : (t808 != t812) = false := by simpa using c29
    (try (have c29b1 : decide (t808 = t812) = true := by simpa using c29))
    (try (have c29b2 : (t808 == t812) = true := by simpa using c29))
    clear c29
    replace H := Option.bind_eq_some_iff.mp H
    obtain ⟨t817, A300, H⟩ := H
    try dsimp only at H
    have A30 := Aside0.mk A300
    clear A300
    by_cases c31 : t817 = true
    rotate_left
    · replace c31 := Bool.eq_false_iff.mpr c31
      subst c31
      rw [if_neg (show ¬ (false = true) by decide)] at H
      rw [HRT.out] at H
      exact absurd H (by generalize k = q_; cases q_ <;> simp [laws_FnRingsMeet.j0])
    subst c31
    rw [if_pos rfl] at H
    by_cases c32 : (t814 != t816) = true
    · rw [if_pos c32] at H
      have c32b0 : (t814 != t816) = true := c32
      (try (have c32b1 : decide (t814 = t816) = false := by simpa using c32))
      (try (have c32b2 : (t814 == t816) = false := by simpa using c32))
      (try (have c32b3 : ¬ (t814 = t816) := by simpa using c32))
      clear c32
      rw [HRT.out] at H
      exact absurd H (by generalize k = q_; cases q_ <;> simp [laws_FnRingsMeet.j0])
    rw [if_neg c32] at H
    have c32b0 : (t814 != t816) = false := by simpa using c32
    (try (have c32b1 : decide (t814 = t816) = true := by simpa using c32))
    (try (have c32b2 : (t814 == t816) = true := by simpa using c32))
    clear c32
    by_cases c33 : t813.toList = t815.toList
    rotate_left
    · rw [if_neg c33] at H
      have c33b0 : (t813.toList == t815.toList) = false := beq_eq_false_iff_ne.mpr c33
      have c33b1 : (t813.toList != t815.toList) = true := bne_iff_ne.mpr c33
      rw [HRT.out] at H
      exact absurd H (by generalize k = q_; cases q_ <;> simp [laws_FnRingsMeet.j0])
    rw [if_pos c33] at H
    have c33b0 : (t813.toList == t815.toList) = true := beq_iff_eq.mpr c33
    have c33b1 : (t813.toList != t815.toList) = false := bne_eq_false_iff_eq.mpr c33
    clear c33
    by_cases c34 : t802 = true
    · subst c34
      rw [if_pos rfl] at H
      by_cases c35 : (t808 != t801) = true
      · rw [if_pos c35] at H
        have c35b0 : (t808 != t801) = true := c35
        (try (have c35b1 : decide (t808 = t801) = false := by simpa using c35))
        (try (have c35b2 : (t808 == t801) = false := by simpa using c35))
        (try (have c35b3 : ¬ (t808 = t801) := by simpa using c35))
        clear c35
        rw [HRT.out] at H
        exact absurd H (by generalize k = q_; cases q_ <;> simp [laws_FnRingsMeet.j0])
      · rw [if_neg c35] at H
        have c35b0 : (t808 != t801) = false := by simpa using c35
        (try (have c35b1 : decide (t808 = t801) = true := by simpa using c35))
        (try (have c35b2 : (t808 == t801) = true := by simpa using c35))
        clear c35
        have H' := Aside0.mk H
        clear H
        obtain ⟨Ao36, co36, eo36⟩ := Kd.R_slice HO807.out
        subst eo36
        obtain ⟨Ao37, co37, eo37⟩ := Kd.R_slice HO811.out
        subst eo37
        go_wp2_with (first | (go_at_call 16; (with_reducible refine (laws_eTexts.calls k _ _ t805 _ _ t809 true _ ?side1 ?side2 ?side3 ?side4 A30.out).mono ?_); (case side1 => repeat (first | exact (Kd.R_reads' HO807.out).2.2 | (with_reducible refine Kd.C_alloc ?_ _) | (with_reducible refine Kd.C_drewN ?_ _) | (with_reducible refine Kd.C_drew ?_))); (case side2 => exact (Kd.R_reads' HO807.out).2.1); (case side3 => repeat (first | exact (Kd.R_reads' HO811.out).2.2 | (with_reducible refine Kd.C_alloc ?_ _) | (with_reducible refine Kd.C_drewN ?_ _) | (with_reducible refine Kd.C_drew ?_))); (case side4 => exact (Kd.R_reads' HO811.out).2.1); rintro e w' ⟨rfl, ⟨nd, rfl⟩⟩))
        go_meet
        case rel => exact ⟨_, ((t814 != t808)), (by first | rfl | (simp; done) | (simp [*]; done)), H', ⟨by first | omega | exact Nat.le_refl _⟩, ⟨by (with_reducible repeat (first | apply r_a | apply r_d | apply r_e)); exact Kd.R_mono HO807.out (fun _ hk => trivial)⟩, ⟨bK BK800⟩, ⟨bB HB⟩⟩
    replace c34 := Bool.eq_false_iff.mpr c34
    subst c34
    rw [if_neg (show ¬ (false = true) by decide)] at H
    by_cases c38 : (t808 != false) = true
    · rw [if_pos c38] at H
      have c38e : t808 = true := by simpa using c38
      clear c38
      subst c38e
      rw [HRT.out] at H
      exact absurd H (by generalize k = q_; cases q_ <;> simp [laws_FnRingsMeet.j0])
    rw [if_neg c38] at H
    have c38b0 : (t808 != false) = false := by simpa using c38
    (try (have c38b1 : decide (t808 = false) = true := by simpa using c38))
    (try (have c38b2 : (t808 == false) = true := by simpa using c38))
    clear c38
    have H' := Aside0.mk H
    clear H
    obtain ⟨Ao39, co39, eo39⟩ := Kd.R_slice HO807.out
    subst eo39
    obtain ⟨Ao40, co40, eo40⟩ := Kd.R_slice HO811.out
    subst eo40
    go_wp2_with (first | (go_at_call 16; (with_reducible refine (laws_eTexts.calls k _ _ t805 _ _ t809 true _ ?side1 ?side2 ?side3 ?side4 A30.out).mono ?_); (case side1 => repeat (first | exact (Kd.R_reads' HO807.out).2.2 | (with_reducible refine Kd.C_alloc ?_ _) | (with_reducible refine Kd.C_drewN ?_ _) | (with_reducible refine Kd.C_drew ?_))); (case side2 => exact (Kd.R_reads' HO807.out).2.1); (case side3 => repeat (first | exact (Kd.R_reads' HO811.out).2.2 | (with_reducible refine Kd.C_alloc ?_ _) | (with_reducible refine Kd.C_drewN ?_ _) | (with_reducible refine Kd.C_drew ?_))); (case side4 => exact (Kd.R_reads' HO811.out).2.1); rintro e w' ⟨rfl, ⟨nd, rfl⟩⟩))
    go_meet
    case rel => exact ⟨_, ((t814 != t808)), (by first | rfl | (simp; done) | (simp [*]; done)), H', ⟨by first | omega | exact Nat.le_refl _⟩, ⟨by (with_reducible repeat (first | apply r_a | apply r_d | apply r_e)); exact Kd.R_mono HO807.out (fun _ hk => trivial)⟩, ⟨bK BK800⟩, ⟨bB HB⟩⟩
  clear HC12
  try clear c1
  try clear c4
  try clear hcz15_0
  try clear hcz15_1
  try clear hcz17_0
  try clear hcz17_1
  try clear hcz19_0
  try clear hcz19_1
  try clear hcz21_0
  try clear hcz21_1
  try clear hcz23_0
  try clear hcz23_1
  try clear hcz25_0
  try clear hcz25_1
  try clear hfz15_0
  try clear hfz15_1
  try clear hfz17_0
  try clear hfz17_1
  try clear hfz19_0
  try clear hfz19_1
  try clear hfz21_0
  try clear hfz21_1
  try clear hfz23_0
  try clear hfz23_1
  try clear hfz25_0
  try clear hfz25_1
  obtain ⟨kq, x155_11, rfl, HA, HJ11, HO_11, BK800, HB⟩ := hcut
  rcases kq with _ | kj11
  · exact absurd HA.out (by simp [laws_FnRingsMeet.j0])
  have H := HA.out
  clear HA
  simp only [laws_FnRingsMeet.j0] at H
  by_cases c41 : x155_11 = true
  · subst c41
    rw [if_pos rfl] at H
    rw [HRT.out] at H
    exact absurd H (by simp)
  replace c41 := Bool.eq_false_iff.mpr c41
  subst c41
  rw [if_neg (show ¬ (false = true) by decide)] at H
  have HC42 := Aside0.mk H
  clear H
  go_upto_if 156 with (fail)
  go_cut [] from 1 to 0 (fun wc => ∃ (kq : Nat), Aside0 (laws_FnRingsMeet.j5 kq l1 = some r) ∧ Aside0 (kq ≤ kj11) ∧ Aside0 (wc.heap[gb800]? = some (.cells #[.int .i64 t797, .int .i64 t798] 23 (0, 0))) ∧ Aside0 (Below w.heap.size w wc))
  case first => as_aux_lemma =>
    have H := HC42.out
    clear HC42
    by_cases c43 : t808 = true
    rotate_left
    · replace c43 := Bool.eq_false_iff.mpr c43
      subst c43
      rw [if_neg (show ¬ (false = true) by decide)] at H
      have H' := Aside0.mk H
      clear H
      go_wp2
      go_meet
      case rel => exact ⟨_, H', ⟨by have := HJ11.out; first | omega | exact Nat.le_refl _⟩, ⟨bK BK800⟩, ⟨bB HB⟩⟩
    subst c43
    rw [if_pos rfl] at H
    replace H := Option.bind_eq_some_iff.mp H
    obtain ⟨⟨t818, t819⟩, A440, H⟩ := H
    try dsimp only at H
    have A44 := Aside0.mk A440
    clear A440
    replace H := Option.bind_eq_some_iff.mp H
    obtain ⟨⟨t820, t821⟩, A450, H⟩ := H
    try dsimp only at H
    have A45 := Aside0.mk A450
    clear A450
    replace H := Option.bind_eq_some_iff.mp H
    obtain ⟨⟨t822, t823⟩, A460, H⟩ := H
    try dsimp only at H
    have A46 := Aside0.mk A460
    clear A460
    replace H := Option.bind_eq_some_iff.mp H
    obtain ⟨⟨t824, t825⟩, A470, H⟩ := H
    try dsimp only at H
    have A47 := Aside0.mk A470
    clear A470
    replace H := Option.bind_eq_some_iff.mp H
    obtain ⟨⟨t826, t827⟩, A480, H⟩ := H
    try dsimp only at H
    have A48 := Aside0.mk A480
    clear A480
    replace H := Option.bind_eq_some_iff.mp H
    obtain ⟨⟨t828, t829⟩, A490, H⟩ := H
    try dsimp only at H
    have A49 := Aside0.mk A490
    clear A490
    have HC50 := Aside0.mk H
    clear H
    have hcz51_0 := cz0 BK800
    have hcz51_1 := cz1 BK800
    have hfz51_0 := blk_frozen BK800.out 0
    have hfz51_1 := blk_frozen BK800.out 1
    go_upto_region 19 with (first | ((with_reducible refine gate_callee (f := 6) rfl ?_); refine goesL_ (some 159) rfl rfl Tryz.func6 (by kernel_rfl) rfl #[.agg #[.int .i64 t797, .int .i64 t798]] rfl (by (try simp only [m_1, m_2, m_3]); first | done | rfl | (simp only [m_4, m_5]; rfl)) ?_; (with_reducible refine (impl_LeastRing.calls kj11 t797 t798 t818 t819 _ A44.out).mono ?_); rintro e w52 ⟨rfl, hb⟩; refine ⟨_, rfl, ?_⟩; have n0_ := Aside0.mk (Kd.R_below (by (with_reducible repeat (first | apply r_a | apply r_d | apply r_e)); exact HO_11.out) hb); replace BK800 := bbx hb BK800; replace HB := bsx hb HB; clear HO_11; have HO_11 := n0_; clear n0_; (try clear hb); (try clear hb2); (try clear hk); (try clear hi); have hcz53_0 := cz0 BK800; have hcz53_1 := cz1 BK800; have hfz53_0 := blk_frozen BK800.out 0; have hfz53_1 := blk_frozen BK800.out 1) | ((with_reducible refine gate_callee (f := 8) rfl ?_); refine goesL_ (some 164) rfl rfl Tryz.func8 (by kernel_rfl) rfl #[.agg #[.int .i64 t797, .int .i64 t798]] rfl (by (try simp only [m_1, m_2, m_3]); first | done | rfl | (simp only [m_4, m_5]; rfl)) ?_; (with_reducible refine (impl_GreatestRing.calls kj11 t797 t798 t820 t821 _ A45.out).mono ?_); rintro e w54 ⟨rfl, hb⟩; refine ⟨_, rfl, ?_⟩; have n0_ := Aside0.mk (Kd.R_below (by (with_reducible repeat (first | apply r_a | apply r_d | apply r_e)); exact HO_11.out) hb); replace BK800 := bbx hb BK800; replace HB := bsx hb HB; clear HO_11; have HO_11 := n0_; clear n0_; (try clear hb); (try clear hb2); (try clear hk); (try clear hi); have hcz55_0 := cz0 BK800; have hcz55_1 := cz1 BK800; have hfz55_0 := blk_frozen BK800.out 0; have hfz55_1 := blk_frozen BK800.out 1) | ((with_reducible refine gate_callee (f := 33) rfl ?_); refine goesL_ (some 170) rfl rfl Tryz.func33 (by kernel_rfl) rfl #[.agg #[.int .i64 t797, .int .i64 t798], .string t813] rfl (by (try simp only [m_1, m_2, m_3]); first | done | rfl | (simp only [m_4, m_5]; rfl)) ?_; (with_reducible refine (impl_BackRing.calls kj11 t797 t798 t813 t822 t823 _ A46.out).mono ?_); rintro e w56 ⟨rfl, hb⟩; refine ⟨_, rfl, ?_⟩; have n0_ := Aside0.mk (Kd.R_below (by (with_reducible repeat (first | apply r_a | apply r_d | apply r_e)); exact HO_11.out) hb); replace BK800 := bbx hb BK800; replace HB := bsx hb HB; clear HO_11; have HO_11 := n0_; clear n0_; (try clear hb); (try clear hb2); (try clear hk); (try clear hi); have hcz57_0 := cz0 BK800; have hcz57_1 := cz1 BK800; have hfz57_0 := blk_frozen BK800.out 0; have hfz57_1 := blk_frozen BK800.out 1) | ((with_reducible refine gate_callee (f := 20) rfl ?_); refine goesL_ (some 176) rfl rfl Tryz.func20 (by kernel_rfl) rfl #[.agg #[.int .i64 t797, .int .i64 t798], .string t813] rfl (by (try simp only [m_1, m_2, m_3]); first | done | rfl | (simp only [m_4, m_5]; rfl)) ?_; (with_reducible refine (impl_IsRing.calls kj11 t797 t798 t813 t824 t825 _ A47.out).mono ?_); rintro e w58 ⟨rfl, hb⟩; refine ⟨_, rfl, ?_⟩; have n0_ := Aside0.mk (Kd.R_below (by (with_reducible repeat (first | apply r_a | apply r_d | apply r_e)); exact HO_11.out) hb); replace BK800 := bbx hb BK800; replace HB := bsx hb HB; clear HO_11; have HO_11 := n0_; clear n0_; (try clear hb); (try clear hb2); (try clear hk); (try clear hi); have hcz59_0 := cz0 BK800; have hcz59_1 := cz1 BK800; have hfz59_0 := blk_frozen BK800.out 0; have hfz59_1 := blk_frozen BK800.out 1) | ((with_reducible refine gate_callee (f := 17) rfl ?_); refine goesL_ (some 181) rfl rfl Tryz.func17 (by kernel_rfl) rfl #[.agg #[.int .i64 t797, .int .i64 t798]] rfl (by (try simp only [m_1, m_2, m_3]); first | done | rfl | (simp only [m_4, m_5]; rfl)) ?_; (with_reducible refine (impl_CountCodes.calls kj11 t797 t798 t826 t827 _ A48.out).mono ?_); rintro e w60 ⟨rfl, hb⟩; refine ⟨_, rfl, ?_⟩; have n0_ := Aside0.mk (Kd.R_below (by (with_reducible repeat (first | apply r_a | apply r_d | apply r_e)); exact HO_11.out) hb); replace BK800 := bbx hb BK800; replace HB := bsx hb HB; clear HO_11; have HO_11 := n0_; clear n0_; (try clear hb); (try clear hb2); (try clear hk); (try clear hi); have hcz61_0 := cz0 BK800; have hcz61_1 := cz1 BK800; have hfz61_0 := blk_frozen BK800.out 0; have hfz61_1 := blk_frozen BK800.out 1) | ((with_reducible refine gate_callee (f := 14) rfl ?_); refine goesL_ (some 186) rfl rfl Tryz.func14 (by kernel_rfl) rfl #[.agg #[.int .i64 t797, .int .i64 t798]] rfl (by (try simp only [m_1, m_2, m_3]); first | done | rfl | (simp only [m_4, m_5]; rfl)) ?_; (with_reducible refine (impl_CountRings.calls kj11 t797 t798 t828 t829 _ A49.out).mono ?_); rintro e w62 ⟨rfl, hb⟩; refine ⟨_, rfl, ?_⟩; have n0_ := Aside0.mk (Kd.R_below (by (with_reducible repeat (first | apply r_a | apply r_d | apply r_e)); exact HO_11.out) hb); replace BK800 := bbx hb BK800; replace HB := bsx hb HB; clear HO_11; have HO_11 := n0_; clear n0_; (try clear hb); (try clear hb2); (try clear hk); (try clear hi)))
    (try simp only [Act.put, s_1, s_2, s_3])
    go_cut [244] from 1 to 0 (fun v244 wc => ∃ (kq : Nat) (x244_49 : Bool), v244 = .bool x244_49 ∧ Aside0 (laws_FnRingsMeet.j1 kq l1 t799 t805 x244_49 t797 t798 = some r) ∧ Aside0 (kq ≤ kj11) ∧ Aside0 (Kd.R Kd.string 9 wc w.heap.size (fun _ => True) v806 t805) ∧ Aside0 (wc.heap[gb800]? = some (.cells #[.int .i64 t797, .int .i64 t798] 23 (0, 0))) ∧ Aside0 (Below w.heap.size w wc))
    case first => as_aux_lemma =>
      have H := HC50.out
      clear HC50
      by_cases c63 : t819 = true
      rotate_left
      · replace c63 := Bool.eq_false_iff.mpr c63
        subst c63
        rw [if_neg (show ¬ (false = true) by decide)] at H
        rw [HRT.out] at H
        exact absurd H (by generalize kj11 = q_; cases q_ <;> simp [laws_FnRingsMeet.j1])
      subst c63
      rw [if_pos rfl] at H
      by_cases c64 : (Op.bytesLess t799.toList t818.toList) = true
      · rw [if_pos c64] at H
        have c64b0 : (Op.bytesLess t799.toList t818.toList) = true := c64
        clear c64
        (first | rw [c64b0] | (simp only [i64_w, i32_w]; rw [c64b0]) | skip)
        rw [HRT.out] at H
        exact absurd H (by generalize kj11 = q_; cases q_ <;> simp [laws_FnRingsMeet.j1])
      rw [if_neg c64] at H
      have c64b0 : (Op.bytesLess t799.toList t818.toList) = false := by simpa using c64
      clear c64
      (first | rw [c64b0] | (simp only [i64_w, i32_w]; rw [c64b0]) | skip)
      by_cases c65 : t821 = true
      rotate_left
      · replace c65 := Bool.eq_false_iff.mpr c65
        subst c65
        rw [if_neg (show ¬ (false = true) by decide)] at H
        rw [HRT.out] at H
        exact absurd H (by generalize kj11 = q_; cases q_ <;> simp [laws_FnRingsMeet.j1])
      subst c65
      rw [if_pos rfl] at H
      by_cases c66 : (Op.bytesLess t820.toList t799.toList) = true
      · rw [if_pos c66] at H
        have c66b0 : (Op.bytesLess t820.toList t799.toList) = true := c66
        clear c66
        rw [HRT.out] at H
        exact absurd H (by generalize kj11 = q_; cases q_ <;> simp [laws_FnRingsMeet.j1])
      rw [if_neg c66] at H
      have c66b0 : (Op.bytesLess t820.toList t799.toList) = false := by simpa using c66
      clear c66
      by_cases c67 : t823 = true
      rotate_left
      · replace c67 := Bool.eq_false_iff.mpr c67
        subst c67
        rw [if_neg (show ¬ (false = true) by decide)] at H
        rw [HRT.out] at H
        exact absurd H (by generalize kj11 = q_; cases q_ <;> simp [laws_FnRingsMeet.j1])
      subst c67
      rw [if_pos rfl] at H
      by_cases c68 : t822.toList = t799.toList
      rotate_left
      · rw [if_neg c68] at H
        have c68b0 : (t822.toList == t799.toList) = false := beq_eq_false_iff_ne.mpr c68
        have c68b1 : (t822.toList != t799.toList) = true := bne_iff_ne.mpr c68
        rw [HRT.out] at H
        exact absurd H (by generalize kj11 = q_; cases q_ <;> simp [laws_FnRingsMeet.j1])
      rw [if_pos c68] at H
      have c68b0 : (t822.toList == t799.toList) = true := beq_iff_eq.mpr c68
      have c68b1 : (t822.toList != t799.toList) = false := bne_eq_false_iff_eq.mpr c68
      clear c68
      by_cases c69 : t825 = true
      rotate_left
      · replace c69 := Bool.eq_false_iff.mpr c69
        subst c69
        rw [if_neg (show ¬ (false = true) by decide)] at H
        rw [HRT.out] at H
        exact absurd H (by generalize kj11 = q_; cases q_ <;> simp [laws_FnRingsMeet.j1])
      subst c69
      rw [if_pos rfl] at H
      by_cases c70 : t824 = true
      rotate_left
      · replace c70 := Bool.eq_false_iff.mpr c70
        subst c70
        rw [if_neg (show ¬ (false = true) by decide)] at H
        rw [HRT.out] at H
        exact absurd H (by generalize kj11 = q_; cases q_ <;> simp [laws_FnRingsMeet.j1])
      subst c70
      rw [if_pos rfl] at H
      by_cases c71 : t827 = true
      rotate_left
      · replace c71 := Bool.eq_false_iff.mpr c71
        subst c71
        rw [if_neg (show ¬ (false = true) by decide)] at H
        rw [HRT.out] at H
        exact absurd H (by generalize kj11 = q_; cases q_ <;> simp [laws_FnRingsMeet.j1])
      subst c71
      rw [if_pos rfl] at H
      by_cases c72 : (t805.length : Int) = t826
      rotate_left
      · rw [if_neg c72] at H
        have c72b0 : ((t805.length : Int) == t826) = false := beq_eq_false_iff_ne.mpr c72
        have c72b1 : ((t805.length : Int) != t826) = true := bne_iff_ne.mpr c72
        rw [HRT.out] at H
        exact absurd H (by generalize kj11 = q_; cases q_ <;> simp [laws_FnRingsMeet.j1])
      rw [if_pos c72] at H
      have c72b0 : ((t805.length : Int) == t826) = true := beq_iff_eq.mpr c72
      have c72b1 : ((t805.length : Int) != t826) = false := bne_eq_false_iff_eq.mpr c72
      clear c72
      by_cases c73 : (t799.size : Int) = t826
      rotate_left
      · rw [if_neg c73] at H
        have c73b0 : ((t799.size : Int) == t826) = false := beq_eq_false_iff_ne.mpr c73
        have c73b1 : ((t799.size : Int) != t826) = true := bne_iff_ne.mpr c73
        rw [HRT.out] at H
        exact absurd H (by generalize kj11 = q_; cases q_ <;> simp [laws_FnRingsMeet.j1])
      rw [if_pos c73] at H
      have c73b0 : ((t799.size : Int) == t826) = true := beq_iff_eq.mpr c73
      have c73b1 : ((t799.size : Int) != t826) = false := bne_eq_false_iff_eq.mpr c73
      clear c73
      by_cases c74 : t829 = true
      · subst c74
        rw [if_pos rfl] at H
        have H' := Aside0.mk H
        clear H
        obtain ⟨Ao75, co75, eo75⟩ := Kd.R_slice HO_11.out
        subst eo75
        go_wp2
        go_meet
        case rel => refine ⟨_, (decide (t828 < 1)), (by first | rfl | (simp; done) | (simp [*]; done)), H', ⟨by have := HJ11.out; first | omega | exact Nat.le_refl _⟩, ⟨?_⟩, ⟨?_⟩, ⟨bB HB⟩⟩ <;> (with_reducible repeat (first | refine g_d ?_ _ | refine g_e ?_ | refine g_a ?_ _ | apply r_a | apply r_d | apply r_e)) <;> first | exact BK800.out | exact HO_11.out
      replace c74 := Bool.eq_false_iff.mpr c74
      subst c74
      rw [if_neg (show ¬ (false = true) by decide)] at H
      have H' := Aside0.mk H
      clear H
      obtain ⟨Ao76, co76, eo76⟩ := Kd.R_slice HO_11.out
      subst eo76
      go_wp2
      go_meet
      case rel => refine ⟨_, (false), (by first | rfl | (simp; done) | (simp [*]; done)), H', ⟨by have := HJ11.out; first | omega | exact Nat.le_refl _⟩, ⟨?_⟩, ⟨?_⟩, ⟨bB HB⟩⟩ <;> (with_reducible repeat (first | refine g_d ?_ _ | refine g_e ?_ | refine g_a ?_ _ | apply r_a | apply r_d | apply r_e)) <;> first | exact BK800.out | exact HO_11.out
    clear HC50
    try clear c41
    try clear c43
    try clear hcz51_0
    try clear hcz51_1
    try clear hcz53_0
    try clear hcz53_1
    try clear hcz55_0
    try clear hcz55_1
    try clear hcz57_0
    try clear hcz57_1
    try clear hcz59_0
    try clear hcz59_1
    try clear hcz61_0
    try clear hcz61_1
    try clear hfz51_0
    try clear hfz51_1
    try clear hfz53_0
    try clear hfz53_1
    try clear hfz55_0
    try clear hfz55_1
    try clear hfz57_0
    try clear hfz57_1
    try clear hfz59_0
    try clear hfz59_1
    try clear hfz61_0
    try clear hfz61_1
    obtain ⟨kq, x244_49, rfl, HA, HJ49, HO_11, BK800, HB⟩ := hcut
    rcases kq with _ | kj49
    · exact absurd HA.out (by simp [laws_FnRingsMeet.j1])
    have H := HA.out
    clear HA
    simp only [laws_FnRingsMeet.j1] at H
    by_cases c77 : x244_49 = true
    · subst c77
      rw [if_pos rfl] at H
      rw [HRT.out] at H
      exact absurd H (by simp)
    replace c77 := Bool.eq_false_iff.mpr c77
    subst c77
    rw [if_neg (show ¬ (false = true) by decide)] at H
    have H' := Aside0.mk H
    clear H
    obtain ⟨Ao78, co78, eo78⟩ := Kd.R_slice HO_11.out
    subst eo78
    go_wp2
    go_loopg [247] kj49 (fun kq v247 w' => ∃ (x247_3 : Int), v247 = .int .i64 x247_3 ∧ Aside0 (laws_FnRingsMeet.l0 kq l1 t799 t805 t805 (t805.length : Int) x247_3 t797 t798 = some r) ∧ Aside0 (kq ≤ kj49) ∧ Aside0 (Kd.R Kd.string 9 w' w.heap.size (fun _ => True) (.slice Ao78 t805.length co78) t805) ∧ Aside0 (Kd.R Kd.string 9 w' w.heap.size (fun _ => True) (.slice Ao78 t805.length co78) t805) ∧ Aside0 (w'.heap[gb800]? = some (.cells #[.int .i64 t797, .int .i64 t798] 23 (0, 0))) ∧ Aside0 (Below w.heap.size w w'))
    case atStart => refine ⟨(0), (by first | rfl | (simp; done) | (simp [*]; done)), H', ⟨Nat.le_refl _⟩, ⟨?_⟩, ⟨?_⟩, ⟨?_⟩, ⟨bB HB⟩⟩ <;> (with_reducible repeat (first | refine g_d ?_ _ | refine g_e ?_ | refine g_a ?_ _ | apply r_a | apply r_d | apply r_e)) <;> first | exact BK800.out | exact HO_11.out
    clear H'
    try clear c77
    obtain ⟨x247_3, rfl, HA, HK3, HO_11, HO_245, BK800, HB⟩ := hrel
    rcases gk with _ | k3
    · exact absurd HA.out (by simp [laws_FnRingsMeet.l0])
    have H := HA.out
    clear HA
    simp only [laws_FnRingsMeet.l0] at H
    by_cases c79 : x247_3 < (t805.length : Int)
    rotate_left
    · rw [if_neg c79] at H
      have c79b0 : decide (x247_3 < (t805.length : Int)) = false := decide_eq_false c79
      clear c79
      have H' := Aside0.mk H
      clear H
      go_wp2
      go_meet
      case rel => exact ⟨_, H', ⟨by have := HJ11.out; have := HJ49.out; have := HK3.out; first | omega | exact Nat.le_refl _⟩, ⟨bK BK800⟩, ⟨bB HB⟩⟩
    rw [if_pos c79] at H
    have c79b0 : decide (x247_3 < (t805.length : Int)) = true := decide_eq_true c79
    clear c79
    by_cases c80 : 0 ≤ x247_3
    rotate_left
    · rw [if_neg c80] at H
      exact absurd H (by simp)
    rw [if_pos c80] at H
    have c80b0 : decide (0 ≤ x247_3) = true := decide_eq_true c80
    clear c80
    by_cases c81 : x247_3 < (t805.length : Int)
    rotate_left
    · rw [if_neg c81] at H
      exact absurd H (by simp)
    rw [if_pos c81] at H
    have c81b0 : decide (x247_3 < (t805.length : Int)) = true := decide_eq_true c81
    clear c81
    have HC82 := Aside0.mk H
    clear H
    have p830 : 0 ≤ (x247_3 : Int) := of_decide_eq_true (by first | (with_reducible assumption) | assumption)
    have q830 : x247_3 < (t805.length : Int) := of_decide_eq_true (by first | (with_reducible assumption) | assumption)
    obtain ⟨ad830, e830, hx830_0⟩ := Kd.at_string (Kd.R_reads' HO_245.out).2.2 x247_3 p830 q830
    cases e830
    replace p830 := eq_true p830
    replace q830 := eq_true q830
    go_upto_region 24 with (fail)
    go_cut [264] from 1 to 0 (fun v264 wc => ∃ (kq : Nat) (x264_81 : Bool), v264 = .bool x264_81 ∧ Aside0 (laws_FnRingsMeet.j3 kq l1 t799 t805 x247_3 (rdOf ByteArray.empty t805 x247_3) t805 (t805.length : Int) x247_3 x264_81 t797 t798 = some r) ∧ Aside0 (kq ≤ k3) ∧ Aside0 (Kd.R Kd.string 9 wc w.heap.size (fun _ => True) (.slice (some ad830) t805.length co78) t805) ∧ Aside0 (Kd.R Kd.string 9 wc w.heap.size (fun _ => True) (.slice (some ad830) t805.length co78) t805) ∧ Aside0 (wc.heap[gb800]? = some (.cells #[.int .i64 t797, .int .i64 t798] 23 (0, 0))) ∧ Aside0 (Below w.heap.size w wc))
    case first => as_aux_lemma =>
      have H := HC82.out
      clear HC82
      by_cases c83 : ((rdOf ByteArray.empty t805 x247_3).size : Int) = t797
      rotate_left
      · rw [if_neg c83] at H
        have c83b0 : (((rdOf ByteArray.empty t805 x247_3).size : Int) == t797) = false := beq_eq_false_iff_ne.mpr c83
        have c83b1 : (((rdOf ByteArray.empty t805 x247_3).size : Int) != t797) = true := bne_iff_ne.mpr c83
        (first | rw [c83b0] | (simp only [i64_w, i32_w]; rw [c83b0]) | skip)
        rw [HRT.out] at H
        exact absurd H (by generalize k3 = q_; cases q_ <;> simp [laws_FnRingsMeet.j3])
      rw [if_pos c83] at H
      have c83b0 : (((rdOf ByteArray.empty t805 x247_3).size : Int) == t797) = true := beq_iff_eq.mpr c83
      have c83b1 : (((rdOf ByteArray.empty t805 x247_3).size : Int) != t797) = false := bne_eq_false_iff_eq.mpr c83
      clear c83
      (first | rw [c83b0] | (simp only [i64_w, i32_w]; rw [c83b0]) | skip)
      by_cases c84 : 0 < ((rdOf ByteArray.empty t805 x247_3).size : Int)
      rotate_left
      · rw [if_neg c84] at H
        exact absurd H (by simp)
      rw [if_pos c84] at H
      have c84b0 : decide (0 < ((rdOf ByteArray.empty t805 x247_3).size : Int)) = true := decide_eq_true c84
      have c84b1 : decide (0 < (rdOf ByteArray.empty t805 x247_3).size) = true := decide_eq_true (by omega)
      clear c84
      by_cases c86 : x247_3 < (t799.size : Int)
      rotate_left
      · rw [if_neg c86] at H
        exact absurd H (by simp)
      rw [if_pos c86] at H
      have c86b0 : decide (x247_3 < (t799.size : Int)) = true := decide_eq_true c86
      clear c86
      have H' := Aside0.mk H
      clear H
      try go_wp2
      have n0_ := Aside0.mk (r_e HO_11.out)
      have n1_ := Aside0.mk (r_e HO_245.out)
      have n2_ := Aside0.mk (g_e BK800.out)
      have n3_ := Aside0.mk (b_e HB.out)
      clear HO_11
      clear HO_245
      clear BK800
      clear HB
      have HO_11 := n0_
      have HO_245 := n1_
      have BK800 := n2_
      have HB := n3_
      clear n0_ n1_ n2_ n3_
      have p85 : 0 ≤ (0 : Int) := (by omega)
      have q85 : 0 < (rdOf ByteArray.empty t805 x247_3).size := (by have : (0 : Int) < ((rdOf ByteArray.empty t805 x247_3).size : Int) := of_decide_eq_true (by first | (with_reducible assumption) | assumption); omega)
      have hx85 : ∀ h : 0 < (rdOf ByteArray.empty t805 x247_3).size, (((rdOf ByteArray.empty t805 x247_3)[0]'h).toNat : Int) = bt (rdOf ByteArray.empty t805 x247_3) 0 := bt_at (rdOf ByteArray.empty t805 x247_3) 0
      clear p85
      have qi85 : (0 < ((rdOf ByteArray.empty t805 x247_3).size : Int)) = True := eq_true (of_decide_eq_true (by first | (with_reducible assumption) | assumption))
      replace q85 := eq_true q85
      have p87 : 0 ≤ (x247_3 : Int) := of_decide_eq_true (by first | (with_reducible assumption) | assumption)
      have q87 : x247_3 < (t799.size : Int) := of_decide_eq_true (by first | (with_reducible assumption) | assumption)
      have hx87 := bt_at t799 x247_3
      replace p87 := eq_true p87
      replace q87 := eq_true q87
      refine start_ (n := 13) (S := fun w' => w'.cell? ⟨gb800, 0, none⟩ = some (.int .i64 t797) ∧ w'.cell? ⟨gb800, 1, none⟩ = some (.int .i64 t798)) (ds := []) (bs_ 13 0) (by kernel_rfl) rfl rfl ⟨(blk_cell BK800.out 0).trans rfl, (blk_cell BK800.out 1).trans rfl⟩ (fun hHeld => ?_); refine with_tabW laws_FnRingsMeet.tab24 laws_FnRingsMeet.bits24 (fun HT_ HW_ => ?_)
      generalize wr.drew = w88 at HO_11 HO_245 BK800 HB hHeld ⊢
      refine pua 0 252 (bs_ 13 1) HT_ ?_
      refine pua 1 253 (bs_ 13 3) HT_ ?_
      refine pua 2 254 (bs_ 13 7) HT_ ?_
      refine tk_ 3 255 (bs_ 13 15) rfl rfl HT_ HW_ (by kernel_rfl) (fun _ _ _ h => h) (by rfl) hHeld (by rintro w' ⟨s0, s1⟩; go_simp; with_reducible rfl) (by simp only [Act.put, s_1, s_2, s_3, i64_w, i32_w]; rfl) ?_
      refine pua 4 256 (bs_ 13 31) HT_ ?_
      refine pua 5 257 (bs_ 13 63) HT_ ?_
      refine pua 6 258 (bs_ 13 127) HT_ ?_
      refine pua 8 260 (bs_ 13 383) HT_ ?_
      refine pua 9 261 (bs_ 13 895) HT_ ?_
      refine tk_ 7 259 (bs_ 13 1023) rfl rfl HT_ HW_ (by kernel_rfl) (fun _ _ _ h => h) (by rfl) hHeld (by rintro w' ⟨s0, s1⟩; go_simp; with_reducible rfl) (by simp only [Act.put, s_1, s_2, s_3, i64_w, i32_w]; rfl) ?_
      refine tk_ 10 262 (bs_ 13 2047) rfl rfl HT_ HW_ (by kernel_rfl) (fun _ _ _ h => h) (by rfl) hHeld (by rintro w' ⟨s0, s1⟩; go_simp; with_reducible rfl) (by simp only [Act.put, s_1, s_2, s_3, i64_w, i32_w]; rfl) ?_
      refine pua 11 263 (bs_ 13 4095) HT_ ?_
      refine pua 12 264 (bs_ 13 8191) HT_ ?_
      refine done_ (done_of HT_.out (by kernel_rfl)) ?_
      try go_wp2
      go_meet
      case rel => refine ⟨_, (((bt (rdOf ByteArray.empty t805 x247_3) 0) != (bt t799 x247_3))), (by first | rfl | (simp; done) | (simp [*]; done)), H', ⟨by have := HJ11.out; have := HJ49.out; have := HK3.out; first | omega | exact Nat.le_refl _⟩, ⟨?_⟩, ⟨?_⟩, ⟨?_⟩, ⟨bB HB⟩⟩ <;> (with_reducible repeat (first | refine g_d ?_ _ | refine g_e ?_ | refine g_a ?_ _ | apply r_a | apply r_d | apply r_e)) <;> first | exact BK800.out | exact HO_11.out | exact HO_245.out
    clear HC82
    try clear c79
    try clear c79b0
    try clear c80
    try clear c80b0
    try clear c81
    try clear c81b0
    try clear hx830_0
    try clear p830
    try clear q830
    obtain ⟨kq, x264_81, rfl, HA, HJ81, HO_11, HO_245, BK800, HB⟩ := hcut
    rcases kq with _ | kj81
    · exact absurd HA.out (by simp [laws_FnRingsMeet.j3])
    have H := HA.out
    clear HA
    simp only [laws_FnRingsMeet.j3] at H
    by_cases c89 : x264_81 = true
    · subst c89
      rw [if_pos rfl] at H
      rw [HRT.out] at H
      exact absurd H (by simp)
    replace c89 := Bool.eq_false_iff.mpr c89
    subst c89
    rw [if_neg (show ¬ (false = true) by decide)] at H
    by_cases c90 : x247_3 < 8
    rotate_left
    · rw [if_neg c90] at H
      have c90b0 : decide (x247_3 < 8) = false := decide_eq_false c90
      clear c90
      have H' := Aside0.mk H
      clear H
      go_wp2
      go_roundg kj81
      case measure => have := HJ11.out; have := HJ49.out; have := HK3.out; have := HJ81.out; omega
      case rel => refine ⟨(wrap64 (x247_3 + 1)), (by first | rfl | (simp; done) | (simp [*]; done)), H', ⟨by have := HJ11.out; have := HJ49.out; have := HK3.out; have := HJ81.out; omega⟩, ⟨?_⟩, ⟨?_⟩, ⟨?_⟩, ⟨bB HB⟩⟩ <;> (with_reducible repeat (first | refine g_d ?_ _ | refine g_e ?_ | refine g_a ?_ _ | apply r_a | apply r_d | apply r_e)) <;> first | exact BK800.out | exact HO_11.out | exact HO_245.out
    rw [if_pos c90] at H
    have c90b0 : decide (x247_3 < 8) = true := decide_eq_true c90
    clear c90
    obtain ⟨ji91, hji91⟩ : ∃ j_ : Int, (wrap64 (x247_3 + 1)) = j_ := ⟨_, rfl⟩
    replace H : (if 0 ≤ (ji91) then (if (ji91) ≤ (t805.length : Int) then ((some (t805.drop ((ji91) : Int).toNat : List ByteArray)).bind fun y831 => (laws_FnRingsMeet.l1 kj81 l1 t799 t805 (rdOf ByteArray.empty t805 x247_3) t805 (t805.length : Int) x247_3 y831 (y831.length : Int) 0 t797 t798)) else (none)) else (none)) = some r := by first | (rw [hji91] at H; exact H) | (simp only [hji91] at H ⊢; exact H)
    have hji91w : (IntKind.i64.wrap (x247_3 + 1)) = ji91 := (i64_w _).trans hji91
    by_cases c92 : 0 ≤ (ji91)
    rotate_left
    · rw [if_neg c92] at H
      exact absurd H (by simp)
    rw [if_pos c92] at H
    have c92b0 := eq_true c92
    have c92b1 : decide (0 ≤ (ji91)) = true := decide_eq_true c92
    clear c92
    by_cases c93 : (ji91) ≤ (t805.length : Int)
    rotate_left
    · rw [if_neg c93] at H
      exact absurd H (by simp)
    rw [if_pos c93] at H
    have c93b0 := eq_true c93
    have c93b1 : decide ((ji91) ≤ (t805.length : Int)) = true := decide_eq_true c93
    clear c93
    obtain ⟨y831, hy831⟩ : ∃ y_ : List ByteArray, y_ = (t805.drop ((ji91) : Int).toNat) := ⟨_, rfl⟩
    replace H : (laws_FnRingsMeet.l1 kj81 l1 t799 t805 (rdOf ByteArray.empty t805 x247_3) t805 (t805.length : Int) x247_3 y831 (y831.length : Int) 0 t797 t798) = some r := by first | (rw [hy831]; with_reducible exact H) | (have H2_ := (Option.bind_some _ _).symm.trans H; rw [hy831]; with_reducible exact H2_) | (have H2_ := (Option.bind_some _ _).symm.trans H; with_reducible exact H2_) | with_reducible exact H | (rw [hy831]; exact H) | exact H
    have Ny831 := Aside0.mk hy831
    clear hy831
    have H' := Aside0.mk H
    clear H
    have q94 : ((ji91) : Int) ≤ ((t805.length : Int) : Int) := of_decide_eq_true (by first | (with_reducible assumption) | assumption)
    obtain ⟨i094, hi094, _, hsz94, _⟩ := info_parts info9
    have hroom94 : t805.length ≤ co78 := (Kd.R_reads' HO_11.out).2.1
    have hC94 : Kd.C Kd.string _ (some ad830) t805.length t805 := (Kd.R_reads' HO_11.out).2.2
    have q094 : (0 : Int) ≤ ((ji91) : Int) := of_decide_eq_true (by first | (with_reducible assumption) | assumption)
    have hcut94 := cut_from (P := Tryz.prog) 26 9 .i64 Tryz.underlying26 hi094 1 hsz94 (some ad830) t805.length co78 (ji91) q094 q94
    have hr94 := Kd.C_drop (m := ((ji91) : Int).toNat) (c := co78) hC94 (by omega) hroom94
    obtain ⟨A94, hA94⟩ : ∃ A1, A1 = (if co78 = ((ji91) : Int).toNat then (some ad830) else ((some ad830) : Option Addr).map (·.add (((ji91) : Int).toNat * 1))) := ⟨_, rfl⟩
    obtain ⟨c94, hc94⟩ : ∃ c1, c1 = co78 - ((ji91) : Int).toNat := ⟨_, rfl⟩
    have hy94 : y831.length = t805.length - ((ji91) : Int).toNat := (by rw [Ny831.out, m_4] <;> omega)
    rw [show (t805).drop ((ji91) : Int).toNat = y831 from Ny831.out.symm] at hr94
    replace hr94 : Kd.C Kd.string _ A94 y831.length y831 := (by rw [hA94]; exact hr94)
    rw [← hy94, ← hA94, ← hc94] at hcut94
    have HR834 := Aside0.mk hr94
    have HC834 := Aside0.mk (show y831.length ≤ c94 from by rw [hy94, hc94]; exact Nat.sub_le_sub_right hroom94 _)
    clear hr94 hC94 hroom94 hi094 hsz94 hc94
    have KY94 := Aside0.mk hy94
    have KA94 := Aside0.mk hA94
    clear hy94 hA94
    have KL94 := Aside0.mk (show ((ji91) : Int).toNat ≤ t805.length from by omega)
    replace q94 := eq_true q94
    go_wp2
    go_loopg [272] kj81 (fun kq v272 w' => ∃ (x272_5 : Int), v272 = .int .i64 x272_5 ∧ Aside0 (laws_FnRingsMeet.l1 kq l1 t799 t805 (rdOf ByteArray.empty t805 x247_3) t805 (t805.length : Int) x247_3 y831 (y831.length : Int) x272_5 t797 t798 = some r) ∧ Aside0 (kq ≤ kj81) ∧ Aside0 (Kd.R Kd.string 9 w' w.heap.size (fun _ => True) (.slice (some ad830) t805.length co78) t805) ∧ Aside0 (Kd.R Kd.string 9 w' w.heap.size (fun _ => True) (.slice (some ad830) t805.length co78) t805) ∧ Aside0 (w'.heap[gb800]? = some (.cells #[.int .i64 t797, .int .i64 t798] 23 (0, 0))) ∧ Aside0 (Kd.C Kd.string w' A94 y831.length y831) ∧ Aside0 (Below w.heap.size w w'))
    case atStart => refine ⟨(0), (by first | rfl | (simp; done) | (simp [*]; done)), H', ⟨Nat.le_refl _⟩, ⟨?_⟩, ⟨?_⟩, ⟨?_⟩, ⟨by repeat (first | (with_reducible exact HR834.out) | (with_reducible refine Kd.C_alloc ?_ _) | (with_reducible refine Kd.C_drewN ?_ _) | (with_reducible refine Kd.C_drew ?_) | exact HR834.out)⟩, ⟨bB HB⟩⟩ <;> (with_reducible repeat (first | refine g_d ?_ _ | refine g_e ?_ | refine g_a ?_ _ | apply r_a | apply r_d | apply r_e)) <;> first | exact BK800.out | exact HO_11.out | exact HO_245.out
    clear H'
    try clear c1
    try clear c89
    try clear c90
    try clear c90b0
    try clear c92
    try clear c92b0
    try clear c92b1
    try clear c93
    try clear c93b0
    try clear c93b1
    try clear c94
    try clear q94
    try clear q094
    obtain ⟨x272_5, rfl, HA, HK5, HO_11, HO_245, BK800, HR834, HB⟩ := hrel
    rcases gk with _ | k5
    · exact absurd HA.out (by simp [laws_FnRingsMeet.l1])
    have H := HA.out
    clear HA
    simp only [laws_FnRingsMeet.l1] at H
    by_cases c95 : x272_5 < (y831.length : Int)
    rotate_left
    · rw [if_neg c95] at H
      have c95b0 : decide (x272_5 < (y831.length : Int)) = false := decide_eq_false c95
      clear c95
      have H' := Aside0.mk H
      clear H
      go_wp2
      go_roundg k5
      case measure => have := HJ11.out; have := HJ49.out; have := HK3.out; have := HJ81.out; have := HK5.out; omega
      case rel => refine ⟨(wrap64 (x247_3 + 1)), (by first | rfl | (simp; done) | (simp [*]; done)), H', ⟨by have := HJ11.out; have := HJ49.out; have := HK3.out; have := HJ81.out; have := HK5.out; omega⟩, ⟨?_⟩, ⟨?_⟩, ⟨?_⟩, ⟨bB HB⟩⟩ <;> (with_reducible repeat (first | refine g_d ?_ _ | refine g_e ?_ | refine g_a ?_ _ | apply r_a | apply r_d | apply r_e)) <;> first | exact BK800.out | exact HO_11.out | exact HO_245.out
    rw [if_pos c95] at H
    have c95b0 : decide (x272_5 < (y831.length : Int)) = true := decide_eq_true c95
    clear c95
    by_cases c96 : 0 ≤ x272_5
    rotate_left
    · rw [if_neg c96] at H
      exact absurd H (by simp)
    rw [if_pos c96] at H
    have c96b0 : decide (0 ≤ x272_5) = true := decide_eq_true c96
    clear c96
    by_cases c97 : x272_5 < (y831.length : Int)
    rotate_left
    · rw [if_neg c97] at H
      exact absurd H (by simp)
    rw [if_pos c97] at H
    have c97b0 : decide (x272_5 < (y831.length : Int)) = true := decide_eq_true c97
    clear c97
    by_cases c98 : (rdOf ByteArray.empty y831 x272_5).toList = (rdOf ByteArray.empty t805 x247_3).toList
    · rw [if_pos c98] at H
      have c98b0 : ((rdOf ByteArray.empty y831 x272_5).toList == (rdOf ByteArray.empty t805 x247_3).toList) = true := beq_iff_eq.mpr c98
      have c98b1 : ((rdOf ByteArray.empty y831 x272_5).toList != (rdOf ByteArray.empty t805 x247_3).toList) = false := bne_eq_false_iff_eq.mpr c98
      clear c98
      rw [HRT.out] at H
      exact absurd H (by simp)
    rw [if_neg c98] at H
    have c98b0 : ((rdOf ByteArray.empty y831 x272_5).toList == (rdOf ByteArray.empty t805 x247_3).toList) = false := beq_eq_false_iff_ne.mpr c98
    have c98b1 : ((rdOf ByteArray.empty y831 x272_5).toList != (rdOf ByteArray.empty t805 x247_3).toList) = true := bne_iff_ne.mpr c98
    have H' := Aside0.mk H
    clear H
    have p835 : 0 ≤ (x272_5 : Int) := of_decide_eq_true (by first | (with_reducible assumption) | assumption)
    have q835 : x272_5 < (y831.length : Int) := of_decide_eq_true (by first | (with_reducible assumption) | assumption)
    obtain ⟨ad835, e835, hx835_0⟩ := Kd.at_string HR834.out x272_5 p835 q835
    cases e835
    (try replace hx835_0 := (HB.out.cell (World.block_lt_of_cell? w _ hx835_0)).trans hx835_0)
    replace p835 := eq_true p835
    replace q835 := eq_true q835
    go_wp2
    go_roundg k5
    case measure => have := HJ11.out; have := HJ49.out; have := HK3.out; have := HJ81.out; have := HK5.out; omega
    case rel => refine ⟨(wrap64 (x272_5 + 1)), (by first | rfl | (simp; done) | (simp [*]; done)), H', ⟨by have := HJ11.out; have := HJ49.out; have := HK3.out; have := HJ81.out; have := HK5.out; omega⟩, ⟨?_⟩, ⟨?_⟩, ⟨?_⟩, ⟨by repeat (first | (with_reducible exact HR834.out) | (with_reducible refine Kd.C_alloc ?_ _) | (with_reducible refine Kd.C_drewN ?_ _) | (with_reducible refine Kd.C_drew ?_) | exact HR834.out)⟩, ⟨bB HB⟩⟩ <;> (with_reducible repeat (first | refine g_d ?_ _ | refine g_e ?_ | refine g_a ?_ _ | apply r_a | apply r_d | apply r_e)) <;> first | exact BK800.out | exact HO_11.out | exact HO_245.out
  clear HC42
  obtain ⟨kq, HA, HJ41, BK800, HB⟩ := hcut
  rcases kq with _ | kj41
  · exact absurd HA.out (by simp [laws_FnRingsMeet.j5])
  have H := HA.out
  clear HA
  simp only [laws_FnRingsMeet.j5] at H
  replace H := Option.bind_eq_some_iff.mp H
  obtain ⟨⟨t836, t837, t838, t839⟩, A990, H⟩ := H
  try dsimp only at H
  have A99 := Aside0.mk A990
  clear A990
  replace H := Option.bind_eq_some_iff.mp H
  obtain ⟨⟨t841, t842⟩, A1000, H⟩ := H
  try dsimp only at H
  have A100 := Aside0.mk A1000
  clear A1000
  replace H := Option.bind_eq_some_iff.mp H
  obtain ⟨⟨t843, t844⟩, A1010, H⟩ := H
  try dsimp only at H
  have A101 := Aside0.mk A1010
  clear A1010
  replace H := Option.bind_eq_some_iff.mp H
  obtain ⟨⟨t845, t846⟩, A1020, H⟩ := H
  try dsimp only at H
  have A102 := Aside0.mk A1020
  clear A1020
  replace H := Option.bind_eq_some_iff.mp H
  obtain ⟨⟨t847, t848⟩, A1030, H⟩ := H
  try dsimp only at H
  have A103 := Aside0.mk A1030
  clear A1030
  replace H := Option.bind_eq_some_iff.mp H
  obtain ⟨⟨t849, t850, t851⟩, A1040, H⟩ := H
  try dsimp only at H
  have A104 := Aside0.mk A1040
  clear A1040
  replace H := Option.bind_eq_some_iff.mp H
  obtain ⟨⟨t853, t854⟩, A1050, H⟩ := H
  try dsimp only at H
  have A105 := Aside0.mk A1050
  clear A1050
  replace H := Option.bind_eq_some_iff.mp H
  obtain ⟨⟨t855, t856⟩, A1060, H⟩ := H
  try dsimp only at H
  have A106 := Aside0.mk A1060
  clear A1060
  replace H := Option.bind_eq_some_iff.mp H
  obtain ⟨⟨t857, t858, t859⟩, A1070, H⟩ := H
  try dsimp only at H
  have A107 := Aside0.mk A1070
  clear A1070
  replace H := Option.bind_eq_some_iff.mp H
  obtain ⟨⟨t861, t862⟩, A1080, H⟩ := H
  try dsimp only at H
  have A108 := Aside0.mk A1080
  clear A1080
  replace H := Option.bind_eq_some_iff.mp H
  obtain ⟨⟨t863, t864⟩, A1090, H⟩ := H
  try dsimp only at H
  have A109 := Aside0.mk A1090
  clear A1090
  have HC110 := Aside0.mk H
  clear H
  go_upto_region 45 with (first | ((with_reducible refine gate_callee (f := 35) rfl ?_); refine goesL_ (some 283) rfl rfl Tryz.func35 (by kernel_rfl) rfl #[.slice A1 l1.length c1] rfl (by (try simp only [m_1, m_2, m_3]); first | done | rfl | (simp only [m_4, m_5]; rfl)) ?_; (with_reducible refine (spec_DrawTurnedRing.calls kj41 _ _ l1 t836 t837 t838 t839 _ ?side1 ?side2 A99.out).mono ?_); (case side1 => repeat (first | exact (Kd.C_below HR1.out HB.out) | (with_reducible refine Kd.C_alloc ?_ _) | (with_reducible refine Kd.C_drewN ?_ _) | (with_reducible refine Kd.C_drew ?_))); (case side2 => exact HC1.out); rintro e w111 ⟨rfl, hb⟩; refine ⟨_, rfl, ?_⟩; replace BK800 := bbx hb BK800; replace HB := bsx hb HB; skip; (try clear hb); (try clear hb2); (try clear hk); (try clear hi)) | ((with_reducible refine gate_dst (N := 35) rfl ?_); (try (refine gate_guard (by rfl) ?_; dsimp only)); refine box_event ?hg (N := 35) ?hd (cs := #[.int .i64 0, .int .i64 0]) (t := 23) ?hr ?_; (case hd => rfl); (case hg => rfl); (case hr => first | (go_simp; done) | (go_simp; rfl)); intro gb840 hg w112 hbox hb; have n0_ := bbx hb BK800; have n1_ := bsx hb HB; have n2_ := Aside0.mk (hbox); have n3_ := gwx hg HB; have n4_ := gwx hg HB; have n5_ := nlx hg BK800; have n6_ := ngx hg BK800; clear BK800; clear HB; have BK800 := n0_; have HB := n1_; have BK840 := n2_; have GW840 := n3_; have GE840 := n4_; have NB800_840 := n5_; have NB840_800 := n6_; clear n0_ n1_ n2_ n3_ n4_ n5_ n6_; clear hb hbox hg; have hnb113 := eq_false NB840_800.out; have hnc113 := eq_false NB800_840.out; have hcz114_0 := cz0 BK840; have hcz114_1 := cz1 BK840; have hfz114_0 := blk_frozen BK840.out 0; have hfz114_1 := blk_frozen BK840.out 1) | ((with_reducible refine gate_callee (f := 36) rfl ?_); refine goesL_ (some 291) rfl rfl Tryz.func36 (by kernel_rfl) rfl #[.agg #[.int .i64 t836, .int .i64 t837], .string t838, .int .i64 t839] rfl (by (try simp only [m_1, m_2, m_3]); first | done | rfl | (simp only [m_4, m_5]; rfl)) ?_; (with_reducible refine (impl_TurnedRing.calls kj41 t836 t837 t838 t839 t841 t842 _ A100.out).mono ?_); rintro e w115 ⟨rfl, hb⟩; refine ⟨_, rfl, ?_⟩; have n0_ := Aside0.mk (blk_below (g := gb800) (o := .cells #[.int .i64 t797, .int .i64 t798] 23 (0, 0)) (bF) hb); have n1_ := Aside0.mk (blk_below (g := gb840) (o := .cells #[.int .i64 t836, .int .i64 t837] 23 (0, 0)) (by (with_reducible repeat (first | refine g_d ?_ _ | refine g_e ?_ | refine g_a ?_ _)); refine blk_put (cs := #[.int .i64 t836, .int .i64 0]) ?_ 1 _ rfl; (with_reducible repeat (first | refine g_d ?_ _ | refine g_e ?_ | refine g_a ?_ _)); refine blk_put (cs := #[.int .i64 0, .int .i64 0]) ?_ 0 _ rfl; (with_reducible repeat (first | refine g_d ?_ _ | refine g_e ?_ | refine g_a ?_ _)); exact BK840.out) hb); replace HB := bsx hb HB; clear BK800; clear BK840; have BK800 := n0_; have BK840 := n1_; clear n0_ n1_; (try clear hb); (try clear hb2); (try clear hk); (try clear hi); have hcz116_0 := cz0 BK840; have hcz116_1 := cz1 BK840; have hfz116_0 := blk_frozen BK840.out 0; have hfz116_1 := blk_frozen BK840.out 1) | ((with_reducible refine gate_callee (f := 37) rfl ?_); refine goesL_ (some 298) rfl rfl Tryz.func37 (by kernel_rfl) rfl #[.agg #[.int .i64 t836, .int .i64 t837], .string t838, .int .i64 t839] rfl (by (try simp only [m_1, m_2, m_3]); first | done | rfl | (simp only [m_4, m_5]; rfl)) ?_; (with_reducible refine (spec_TurnedRing.calls kj41 t836 t837 t838 t839 t843 t844 _ A101.out).mono ?_); rintro e w117 ⟨rfl, hb⟩; refine ⟨_, rfl, ?_⟩; replace BK800 := bbx hb BK800; replace BK840 := bbx hb BK840; replace HB := bsx hb HB; skip; (try clear hb); (try clear hb2); (try clear hk); (try clear hi); have hcz118_0 := cz0 BK840; have hcz118_1 := cz1 BK840; have hfz118_0 := blk_frozen BK840.out 0; have hfz118_1 := blk_frozen BK840.out 1) | ((with_reducible refine gate_callee (f := 38) rfl ?_); refine goesL_ (some 305) rfl rfl Tryz.func38 (by kernel_rfl) rfl #[.agg #[.int .i64 t836, .int .i64 t837], .string t838, .int .i64 t839] rfl (by (try simp only [m_1, m_2, m_3]); first | done | rfl | (simp only [m_4, m_5]; rfl)) ?_; (with_reducible refine (impl_RaisedRing.calls kj41 t836 t837 t838 t839 t845 t846 _ A102.out).mono ?_); rintro e w119 ⟨rfl, hb⟩; refine ⟨_, rfl, ?_⟩; replace BK800 := bbx hb BK800; replace BK840 := bbx hb BK840; replace HB := bsx hb HB; skip; (try clear hb); (try clear hb2); (try clear hk); (try clear hi); have hcz120_0 := cz0 BK840; have hcz120_1 := cz1 BK840; have hfz120_0 := blk_frozen BK840.out 0; have hfz120_1 := blk_frozen BK840.out 1) | ((with_reducible refine gate_callee (f := 39) rfl ?_); refine goesL_ (some 312) rfl rfl Tryz.func39 (by kernel_rfl) rfl #[.agg #[.int .i64 t836, .int .i64 t837], .string t838, .int .i64 t839] rfl (by (try simp only [m_1, m_2, m_3]); first | done | rfl | (simp only [m_4, m_5]; rfl)) ?_; (with_reducible refine (spec_RaisedRing.calls kj41 t836 t837 t838 t839 t847 t848 _ A103.out).mono ?_); rintro e w121 ⟨rfl, hb⟩; refine ⟨_, rfl, ?_⟩; replace BK800 := bbx hb BK800; replace BK840 := bbx hb BK840; replace HB := bsx hb HB; skip; (try clear hb); (try clear hb2); (try clear hk); (try clear hi)) | ((with_reducible refine gate_callee (f := 40) rfl ?_); refine goesL_ (some 317) rfl rfl Tryz.func40 (by kernel_rfl) rfl #[.slice A1 l1.length c1] rfl (by (try simp only [m_1, m_2, m_3]); first | done | rfl | (simp only [m_4, m_5]; rfl)) ?_; (with_reducible refine (spec_DrawPlaceInRing.calls kj41 _ _ l1 t849 t850 t851 _ ?side1 ?side2 A104.out).mono ?_); (case side1 => repeat (first | exact (Kd.C_below HR1.out HB.out) | (with_reducible refine Kd.C_alloc ?_ _) | (with_reducible refine Kd.C_drewN ?_ _) | (with_reducible refine Kd.C_drew ?_))); (case side2 => exact HC1.out); rintro e w122 ⟨rfl, hb⟩; refine ⟨_, rfl, ?_⟩; replace BK800 := bbx hb BK800; replace BK840 := bbx hb BK840; replace HB := bsx hb HB; skip; (try clear hb); (try clear hb2); (try clear hk); (try clear hi)) | ((with_reducible refine gate_dst (N := 46) rfl ?_); (try (refine gate_guard (by rfl) ?_; dsimp only)); refine box_event ?hg (N := 46) ?hd (cs := #[.int .i64 0, .int .i64 0]) (t := 23) ?hr ?_; (case hd => rfl); (case hg => rfl); (case hr => first | (go_simp; done) | (go_simp; rfl)); intro gb852 hg w123 hbox hb; have n0_ := bbx hb BK800; have n1_ := bbx hb BK840; have n2_ := bsx hb HB; have n3_ := Aside0.mk (hbox); have n4_ := gwx hg HB; have n5_ := gwx hg HB; have n6_ := nlx hg BK800; have n7_ := ngx hg BK800; have n8_ := nlx hg BK840; have n9_ := ngx hg BK840; clear BK800; clear BK840; clear HB; have BK800 := n0_; have BK840 := n1_; have HB := n2_; have BK852 := n3_; have GW852 := n4_; have GE852 := n5_; have NB800_852 := n6_; have NB852_800 := n7_; have NB840_852 := n8_; have NB852_840 := n9_; clear n0_ n1_ n2_ n3_ n4_ n5_ n6_ n7_ n8_ n9_; clear hb hbox hg; have hnb124 := eq_false NB852_800.out; have hnc124 := eq_false NB800_852.out; have hnb125 := eq_false NB852_840.out; have hnc125 := eq_false NB840_852.out; have hcz126_0 := cz0 BK852; have hcz126_1 := cz1 BK852; have hfz126_0 := blk_frozen BK852.out 0; have hfz126_1 := blk_frozen BK852.out 1) | ((with_reducible refine gate_callee (f := 41) rfl ?_); refine goesL_ (some 323) rfl rfl Tryz.func41 (by kernel_rfl) rfl #[.agg #[.int .i64 t849, .int .i64 t850], .string t851] rfl (by (try simp only [m_1, m_2, m_3]); first | done | rfl | (simp only [m_4, m_5]; rfl)) ?_; (with_reducible refine (impl_PlaceInRing.calls kj41 t849 t850 t851 t853 t854 _ (strings_Index.gl_below HG.out (bB HB)) A105.out).mono ?_); rintro e w127 ⟨rfl, hb⟩; refine ⟨_, rfl, ?_⟩; have n0_ := Aside0.mk (blk_below (g := gb800) (o := .cells #[.int .i64 t797, .int .i64 t798] 23 (0, 0)) (bF) hb); have n1_ := Aside0.mk (blk_below (g := gb840) (o := .cells #[.int .i64 t836, .int .i64 t837] 23 (0, 0)) (bF) hb); have n2_ := Aside0.mk (blk_below (g := gb852) (o := .cells #[.int .i64 t849, .int .i64 t850] 23 (0, 0)) (by (with_reducible repeat (first | refine g_d ?_ _ | refine g_e ?_ | refine g_a ?_ _)); refine blk_put (cs := #[.int .i64 t849, .int .i64 0]) ?_ 1 _ rfl; (with_reducible repeat (first | refine g_d ?_ _ | refine g_e ?_ | refine g_a ?_ _)); refine blk_put (cs := #[.int .i64 0, .int .i64 0]) ?_ 0 _ rfl; (with_reducible repeat (first | refine g_d ?_ _ | refine g_e ?_ | refine g_a ?_ _)); exact BK852.out) hb); replace HB := bsx hb HB; clear BK800; clear BK840; clear BK852; have BK800 := n0_; have BK840 := n1_; have BK852 := n2_; clear n0_ n1_ n2_; (try clear hb); (try clear hb2); (try clear hk); (try clear hi); have hcz128_0 := cz0 BK852; have hcz128_1 := cz1 BK852; have hfz128_0 := blk_frozen BK852.out 0; have hfz128_1 := blk_frozen BK852.out 1) | ((with_reducible refine gate_callee (f := 42) rfl ?_); refine goesL_ (some 329) rfl rfl Tryz.func42 (by kernel_rfl) rfl #[.agg #[.int .i64 t849, .int .i64 t850], .string t851] rfl (by (try simp only [m_1, m_2, m_3]); first | done | rfl | (simp only [m_4, m_5]; rfl)) ?_; (with_reducible refine (spec_PlaceInRing.calls kj41 t849 t850 t851 t855 t856 _ A106.out).mono ?_); rintro e w129 ⟨rfl, hb⟩; refine ⟨_, rfl, ?_⟩; replace BK800 := bbx hb BK800; replace BK840 := bbx hb BK840; replace BK852 := bbx hb BK852; replace HB := bsx hb HB; skip; (try clear hb); (try clear hb2); (try clear hk); (try clear hi)) | ((with_reducible refine gate_callee (f := 43) rfl ?_); refine goesL_ (some 334) rfl rfl Tryz.func43 (by kernel_rfl) rfl #[.slice A1 l1.length c1] rfl (by (try simp only [m_1, m_2, m_3]); first | done | rfl | (simp only [m_4, m_5]; rfl)) ?_; (with_reducible refine (spec_DrawCodeAtPlace.calls _ _ l1 t857 t858 t859 _ ?side1 ?side2 A107.out).mono ?_); (case side1 => repeat (first | exact (Kd.C_below HR1.out HB.out) | (with_reducible refine Kd.C_alloc ?_ _) | (with_reducible refine Kd.C_drewN ?_ _) | (with_reducible refine Kd.C_drew ?_))); (case side2 => exact HC1.out); rintro e w130 ⟨rfl, hb⟩; refine ⟨_, rfl, ?_⟩; replace BK800 := bbx hb BK800; replace BK840 := bbx hb BK840; replace BK852 := bbx hb BK852; replace HB := bsx hb HB; skip; (try clear hb); (try clear hb2); (try clear hk); (try clear hi)) | ((with_reducible refine gate_dst (N := 52) rfl ?_); (try (refine gate_guard (by rfl) ?_; dsimp only)); refine box_event ?hg (N := 52) ?hd (cs := #[.int .i64 0, .int .i64 0]) (t := 23) ?hr ?_; (case hd => rfl); (case hg => rfl); (case hr => first | (go_simp; done) | (go_simp; rfl)); intro gb860 hg w131 hbox hb; have n0_ := bbx hb BK800; have n1_ := bbx hb BK840; have n2_ := bbx hb BK852; have n3_ := bsx hb HB; have n4_ := Aside0.mk (hbox); have n5_ := gwx hg HB; have n6_ := gwx hg HB; have n7_ := nlx hg BK800; have n8_ := ngx hg BK800; have n9_ := nlx hg BK840; have n10_ := ngx hg BK840; have n11_ := nlx hg BK852; have n12_ := ngx hg BK852; clear BK800; clear BK840; clear BK852; clear HB; have BK800 := n0_; have BK840 := n1_; have BK852 := n2_; have HB := n3_; have BK860 := n4_; have GW860 := n5_; have GE860 := n6_; have NB800_860 := n7_; have NB860_800 := n8_; have NB840_860 := n9_; have NB860_840 := n10_; have NB852_860 := n11_; have NB860_852 := n12_; clear n0_ n1_ n2_ n3_ n4_ n5_ n6_ n7_ n8_ n9_ n10_ n11_ n12_; clear hb hbox hg; have hnb132 := eq_false NB860_800.out; have hnc132 := eq_false NB800_860.out; have hnb133 := eq_false NB860_840.out; have hnc133 := eq_false NB840_860.out; have hnb134 := eq_false NB860_852.out; have hnc134 := eq_false NB852_860.out; have hcz135_0 := cz0 BK860; have hcz135_1 := cz1 BK860; have hfz135_0 := blk_frozen BK860.out 0; have hfz135_1 := blk_frozen BK860.out 1) | ((with_reducible refine gate_callee (f := 44) rfl ?_); refine goesL_ (some 340) rfl rfl Tryz.func44 (by kernel_rfl) rfl #[.agg #[.int .i64 t857, .int .i64 t858], .int .i64 t859] rfl (by (try simp only [m_1, m_2, m_3]); first | done | rfl | (simp only [m_4, m_5]; rfl)) ?_; (with_reducible refine (impl_CodeAtPlace.calls kj41 t857 t858 t859 t861 t862 _ A108.out).mono ?_); rintro e w136 ⟨rfl, hb⟩; refine ⟨_, rfl, ?_⟩; have n0_ := Aside0.mk (blk_below (g := gb800) (o := .cells #[.int .i64 t797, .int .i64 t798] 23 (0, 0)) (bF) hb); have n1_ := Aside0.mk (blk_below (g := gb840) (o := .cells #[.int .i64 t836, .int .i64 t837] 23 (0, 0)) (bF) hb); have n2_ := Aside0.mk (blk_below (g := gb852) (o := .cells #[.int .i64 t849, .int .i64 t850] 23 (0, 0)) (bF) hb); have n3_ := Aside0.mk (blk_below (g := gb860) (o := .cells #[.int .i64 t857, .int .i64 t858] 23 (0, 0)) (by (with_reducible repeat (first | refine g_d ?_ _ | refine g_e ?_ | refine g_a ?_ _)); refine blk_put (cs := #[.int .i64 t857, .int .i64 0]) ?_ 1 _ rfl; (with_reducible repeat (first | refine g_d ?_ _ | refine g_e ?_ | refine g_a ?_ _)); refine blk_put (cs := #[.int .i64 0, .int .i64 0]) ?_ 0 _ rfl; (with_reducible repeat (first | refine g_d ?_ _ | refine g_e ?_ | refine g_a ?_ _)); exact BK860.out) hb); replace HB := bsx hb HB; clear BK800; clear BK840; clear BK852; clear BK860; have BK800 := n0_; have BK840 := n1_; have BK852 := n2_; have BK860 := n3_; clear n0_ n1_ n2_ n3_; (try clear hb); (try clear hb2); (try clear hk); (try clear hi); have hcz137_0 := cz0 BK860; have hcz137_1 := cz1 BK860; have hfz137_0 := blk_frozen BK860.out 0; have hfz137_1 := blk_frozen BK860.out 1) | ((with_reducible refine gate_callee (f := 45) rfl ?_); refine goesL_ (some 346) rfl rfl Tryz.func45 (by kernel_rfl) rfl #[.agg #[.int .i64 t857, .int .i64 t858], .int .i64 t859] rfl (by (try simp only [m_1, m_2, m_3]); first | done | rfl | (simp only [m_4, m_5]; rfl)) ?_; (with_reducible refine (spec_CodeAtPlace.calls kj41 t857 t858 t859 t863 t864 _ A109.out).mono ?_); rintro e w138 ⟨rfl, hb⟩; refine ⟨_, rfl, ?_⟩; replace BK800 := bbx hb BK800; replace BK840 := bbx hb BK840; replace BK852 := bbx hb BK852; replace BK860 := bbx hb BK860; replace HB := bsx hb HB; skip; (try clear hb); (try clear hb2); (try clear hk); (try clear hi)))
  (try simp only [Act.put, s_1, s_2, s_3])
  go_cut [386] from 1 to 0 (fun v386 wc => ∃ (kq : Nat) (x386_109 : Bool), v386 = .bool x386_109 ∧ Aside0 (laws_FnRingsMeet.j6 kq t838 t839 t841 t842 t845 t846 t851 t853 t854 t859 t861 t862 x386_109 t836 t837 t849 t850 t857 t858 = some r) ∧ Aside0 (kq ≤ kj41) ∧ Aside0 (wc.heap[gb800]? = some (.cells #[.int .i64 t797, .int .i64 t798] 23 (0, 0))) ∧ Aside0 (wc.heap[gb840]? = some (.cells #[.int .i64 t836, .int .i64 t837] 23 (0, 0))) ∧ Aside0 (wc.heap[gb852]? = some (.cells #[.int .i64 t849, .int .i64 t850] 23 (0, 0))) ∧ Aside0 (wc.heap[gb860]? = some (.cells #[.int .i64 t857, .int .i64 t858] 23 (0, 0))) ∧ Aside0 (Below w.heap.size w wc))
  case first => as_aux_lemma =>
    have H := HC110.out
    clear HC110
    by_cases c139 : (t842 != t844) = true
    · rw [if_pos c139] at H
      have c139b0 : (t842 != t844) = true := c139
      (try (have c139b1 : decide (t842 = t844) = false := by simpa using c139))
      (try (have c139b2 : (t842 == t844) = false := by simpa using c139))
      (try (have c139b3 : ¬ (t842 = t844) := by simpa using c139))
      clear c139
      (first | rw [c139b0] | (simp only [i64_w, i32_w]; rw [c139b0]) | skip)
      rw [HRT.out] at H
      exact absurd H (by generalize kj41 = q_; cases q_ <;> simp [laws_FnRingsMeet.j6])
    rw [if_neg c139] at H
    have c139b0 : (t842 != t844) = false := by simpa using c139
    (try (have c139b1 : decide (t842 = t844) = true := by simpa using c139))
    (try (have c139b2 : (t842 == t844) = true := by simpa using c139))
    clear c139
    (first | rw [c139b0] | (simp only [i64_w, i32_w]; rw [c139b0]) | skip)
    by_cases c140 : t841.toList = t843.toList
    rotate_left
    · rw [if_neg c140] at H
      have c140b0 : (t841.toList == t843.toList) = false := beq_eq_false_iff_ne.mpr c140
      have c140b1 : (t841.toList != t843.toList) = true := bne_iff_ne.mpr c140
      rw [HRT.out] at H
      exact absurd H (by generalize kj41 = q_; cases q_ <;> simp [laws_FnRingsMeet.j6])
    rw [if_pos c140] at H
    have c140b0 : (t841.toList == t843.toList) = true := beq_iff_eq.mpr c140
    have c140b1 : (t841.toList != t843.toList) = false := bne_eq_false_iff_eq.mpr c140
    clear c140
    by_cases c141 : (t846 != t848) = true
    · rw [if_pos c141] at H
      have c141b0 : (t846 != t848) = true := c141
      (try (have c141b1 : decide (t846 = t848) = false := by simpa using c141))
      (try (have c141b2 : (t846 == t848) = false := by simpa using c141))
      (try (have c141b3 : ¬ (t846 = t848) := by simpa using c141))
      clear c141
      rw [HRT.out] at H
      exact absurd H (by generalize kj41 = q_; cases q_ <;> simp [laws_FnRingsMeet.j6])
    rw [if_neg c141] at H
    have c141b0 : (t846 != t848) = false := by simpa using c141
    (try (have c141b1 : decide (t846 = t848) = true := by simpa using c141))
    (try (have c141b2 : (t846 == t848) = true := by simpa using c141))
    clear c141
    by_cases c142 : t845.toList = t847.toList
    rotate_left
    · rw [if_neg c142] at H
      have c142b0 : (t845.toList == t847.toList) = false := beq_eq_false_iff_ne.mpr c142
      have c142b1 : (t845.toList != t847.toList) = true := bne_iff_ne.mpr c142
      rw [HRT.out] at H
      exact absurd H (by generalize kj41 = q_; cases q_ <;> simp [laws_FnRingsMeet.j6])
    rw [if_pos c142] at H
    have c142b0 : (t845.toList == t847.toList) = true := beq_iff_eq.mpr c142
    have c142b1 : (t845.toList != t847.toList) = false := bne_eq_false_iff_eq.mpr c142
    clear c142
    by_cases c143 : (t854 != t856) = true
    · rw [if_pos c143] at H
      have c143b0 : (t854 != t856) = true := c143
      (try (have c143b1 : decide (t854 = t856) = false := by simpa using c143))
      (try (have c143b2 : (t854 == t856) = false := by simpa using c143))
      (try (have c143b3 : ¬ (t854 = t856) := by simpa using c143))
      clear c143
      rw [HRT.out] at H
      exact absurd H (by generalize kj41 = q_; cases q_ <;> simp [laws_FnRingsMeet.j6])
    rw [if_neg c143] at H
    have c143b0 : (t854 != t856) = false := by simpa using c143
    (try (have c143b1 : decide (t854 = t856) = true := by simpa using c143))
    (try (have c143b2 : (t854 == t856) = true := by simpa using c143))
    clear c143
    by_cases c144 : t853 = t855
    rotate_left
    · rw [if_neg c144] at H
      have c144b0 : (t853 == t855) = false := beq_eq_false_iff_ne.mpr c144
      have c144b1 : (t853 != t855) = true := bne_iff_ne.mpr c144
      rw [HRT.out] at H
      exact absurd H (by generalize kj41 = q_; cases q_ <;> simp [laws_FnRingsMeet.j6])
    rw [if_pos c144] at H
    have c144b0 : (t853 == t855) = true := beq_iff_eq.mpr c144
    have c144b1 : (t853 != t855) = false := bne_eq_false_iff_eq.mpr c144
    clear c144
    by_cases c145 : (t862 != t864) = true
    · rw [if_pos c145] at H
      have c145b0 : (t862 != t864) = true := c145
      (try (have c145b1 : decide (t862 = t864) = false := by simpa using c145))
      (try (have c145b2 : (t862 == t864) = false := by simpa using c145))
      (try (have c145b3 : ¬ (t862 = t864) := by simpa using c145))
      clear c145
      rw [HRT.out] at H
      exact absurd H (by generalize kj41 = q_; cases q_ <;> simp [laws_FnRingsMeet.j6])
    rw [if_neg c145] at H
    have c145b0 : (t862 != t864) = false := by simpa using c145
    (try (have c145b1 : decide (t862 = t864) = true := by simpa using c145))
    (try (have c145b2 : (t862 == t864) = true := by simpa using c145))
    clear c145
    have H' := Aside0.mk H
    clear H
    go_wp2
    go_meet
    case rel => refine ⟨_, ((t861.toList != t863.toList)), (by first | rfl | (simp; done) | (simp [*]; done)), H', ⟨by have := HJ11.out; have := HJ41.out; first | omega | exact Nat.le_refl _⟩, ⟨?_⟩, ⟨?_⟩, ⟨?_⟩, ⟨?_⟩, ⟨bB HB⟩⟩ <;> (with_reducible repeat (first | refine g_d ?_ _ | refine g_e ?_ | refine g_a ?_ _)) <;> first | exact BK800.out | exact BK840.out | exact BK852.out | exact BK860.out
  clear HC110
  try clear c1
  try clear hcz114_0
  try clear hcz114_1
  try clear hcz116_0
  try clear hcz116_1
  try clear hcz118_0
  try clear hcz118_1
  try clear hcz120_0
  try clear hcz120_1
  try clear hcz126_0
  try clear hcz126_1
  try clear hcz128_0
  try clear hcz128_1
  try clear hcz135_0
  try clear hcz135_1
  try clear hcz137_0
  try clear hcz137_1
  try clear hfz114_0
  try clear hfz114_1
  try clear hfz116_0
  try clear hfz116_1
  try clear hfz118_0
  try clear hfz118_1
  try clear hfz120_0
  try clear hfz120_1
  try clear hfz126_0
  try clear hfz126_1
  try clear hfz128_0
  try clear hfz128_1
  try clear hfz135_0
  try clear hfz135_1
  try clear hfz137_0
  try clear hfz137_1
  obtain ⟨kq, x386_109, rfl, HA, HJ109, BK800, BK840, BK852, BK860, HB⟩ := hcut
  rcases kq with _ | kj109
  · exact absurd HA.out (by simp [laws_FnRingsMeet.j6])
  have H := HA.out
  clear HA
  simp only [laws_FnRingsMeet.j6] at H
  by_cases c146 : x386_109 = true
  · subst c146
    rw [if_pos rfl] at H
    rw [HRT.out] at H
    exact absurd H (by simp)
  replace c146 := Bool.eq_false_iff.mpr c146
  subst c146
  rw [if_neg (show ¬ (false = true) by decide)] at H
  have HC147 := Aside0.mk H
  clear H
  go_upto_if 387 with (fail)
  go_cut [] from 1 to 0 (fun wc => ∃ (kq : Nat), Aside0 (laws_FnRingsMeet.j7 kq t838 t839 t845 t846 t851 t853 t854 t859 t861 t862 t836 t837 t849 t850 t857 t858 = some r) ∧ Aside0 (kq ≤ kj109) ∧ Aside0 (wc.heap[gb800]? = some (.cells #[.int .i64 t797, .int .i64 t798] 23 (0, 0))) ∧ Aside0 (wc.heap[gb840]? = some (.cells #[.int .i64 t836, .int .i64 t837] 23 (0, 0))) ∧ Aside0 (wc.heap[gb852]? = some (.cells #[.int .i64 t849, .int .i64 t850] 23 (0, 0))) ∧ Aside0 (wc.heap[gb860]? = some (.cells #[.int .i64 t857, .int .i64 t858] 23 (0, 0))) ∧ Aside0 (Below w.heap.size w wc))
  case first => as_aux_lemma =>
    have H := HC147.out
    clear HC147
    by_cases c148 : t842 = true
    rotate_left
    · replace c148 := Bool.eq_false_iff.mpr c148
      subst c148
      rw [if_neg (show ¬ (false = true) by decide)] at H
      have H' := Aside0.mk H
      clear H
      go_wp2
      go_meet
      case rel => refine ⟨_, H', ⟨by have := HJ11.out; have := HJ41.out; have := HJ109.out; first | omega | exact Nat.le_refl _⟩, ⟨?_⟩, ⟨?_⟩, ⟨?_⟩, ⟨?_⟩, ⟨bB HB⟩⟩ <;> (with_reducible repeat (first | refine g_d ?_ _ | refine g_e ?_ | refine g_a ?_ _)) <;> first | exact BK800.out | exact BK840.out | exact BK852.out | exact BK860.out
    subst c148
    rw [if_pos rfl] at H
    replace H := Option.bind_eq_some_iff.mp H
    obtain ⟨⟨t865, t866⟩, A1490, H⟩ := H
    try dsimp only at H
    have A149 := Aside0.mk A1490
    clear A1490
    by_cases c150 : (t838.size : Int) = 0
    · rw [if_pos c150] at H
      exact absurd H (by simp)
    rw [if_neg c150] at H
    have c150b0 : ((t838.size : Int) == 0) = false := beq_eq_false_iff_ne.mpr c150
    have c150b9 : (t838 = ByteArray.empty) = False := eq_false (fun e_ => c150 (by rw [e_]; rfl))
    have c150b1 : ((t838.size : Int) != 0) = true := bne_iff_ne.mpr c150
    (first | rw [c150b0] | (simp only [i64_w, i32_w]; rw [c150b0]) | skip)
    replace H := Option.bind_eq_some_iff.mp H
    obtain ⟨⟨t867, t868⟩, A1510, H⟩ := H
    try dsimp only at H
    have A151 := Aside0.mk A1510
    clear A1510
    by_cases c152 : t866 = true
    rotate_left
    · replace c152 := Bool.eq_false_iff.mpr c152
      subst c152
      rw [if_neg (show ¬ (false = true) by decide)] at H
      rw [HRT.out] at H
      exact absurd H (by simp)
    subst c152
    rw [if_pos rfl] at H
    by_cases c153 : t865 = true
    rotate_left
    · replace c153 := Bool.eq_false_iff.mpr c153
      subst c153
      rw [if_neg (show ¬ (false = true) by decide)] at H
      rw [HRT.out] at H
      exact absurd H (by simp)
    subst c153
    rw [if_pos rfl] at H
    by_cases c154 : t868 = true
    rotate_left
    · replace c154 := Bool.eq_false_iff.mpr c154
      subst c154
      rw [if_neg (show ¬ (false = true) by decide)] at H
      rw [HRT.out] at H
      exact absurd H (by simp)
    subst c154
    rw [if_pos rfl] at H
    by_cases c155 : t867.toList = t838.toList
    rotate_left
    · rw [if_neg c155] at H
      have c155b0 : (t867.toList == t838.toList) = false := beq_eq_false_iff_ne.mpr c155
      have c155b1 : (t867.toList != t838.toList) = true := bne_iff_ne.mpr c155
      rw [HRT.out] at H
      exact absurd H (by simp)
    rw [if_pos c155] at H
    have c155b0 : (t867.toList == t838.toList) = true := beq_iff_eq.mpr c155
    have c155b1 : (t867.toList != t838.toList) = false := bne_eq_false_iff_eq.mpr c155
    clear c155
    have H' := Aside0.mk H
    clear H
    have hnb156 := eq_false NB840_800.out
    have hnc156 := eq_false NB800_840.out
    have hnb157 := eq_false NB840_852.out
    have hnc157 := eq_false NB852_840.out
    have hnb158 := eq_false NB840_860.out
    have hnc158 := eq_false NB860_840.out
    have hcz159_0 := cz0 BK840
    have hcz159_1 := cz1 BK840
    have hfz159_0 := blk_frozen BK840.out 0
    have hfz159_1 := blk_frozen BK840.out 1
    try go_wp2_with (first | ((with_reducible refine gate_callee (f := 20) rfl ?_); refine goesL_ (some 391) rfl rfl Tryz.func20 (by kernel_rfl) rfl #[.agg #[.int .i64 t836, .int .i64 t837], .string t841] rfl (by (try simp only [m_1, m_2, m_3]); first | done | rfl | (simp only [m_4, m_5]; rfl)) ?_; (with_reducible refine (impl_IsRing.calls kj109 t836 t837 t841 true true _ A149.out).mono ?_); rintro e w160 ⟨rfl, hb⟩; refine ⟨_, rfl, ?_⟩; replace BK800 := bbx hb BK800; replace BK840 := bbx hb BK840; replace BK852 := bbx hb BK852; replace BK860 := bbx hb BK860; replace HB := bsx hb HB; skip; (try clear hb); (try clear hb2); (try clear hk); (try clear hi)))
    have n0_ := Aside0.mk (g_e BK800.out)
    have n1_ := Aside0.mk (g_e BK840.out)
    have n2_ := Aside0.mk (g_e BK852.out)
    have n3_ := Aside0.mk (g_e BK860.out)
    have n4_ := Aside0.mk (b_e HB.out)
    clear BK800
    clear BK840
    clear BK852
    clear BK860
    clear HB
    have BK800 := n0_
    have BK840 := n1_
    have BK852 := n2_
    have BK860 := n3_
    have HB := n4_
    clear n0_ n1_ n2_ n3_ n4_
    refine start_ (n := 15) (S := fun w' => w'.cell? ⟨gb840, 0, none⟩ = some (.int .i64 t836) ∧ w'.cell? ⟨gb840, 1, none⟩ = some (.int .i64 t837)) (ds := []) (bs_ 15 0) (by kernel_rfl) rfl rfl ⟨(blk_cell BK840.out 0).trans rfl, (blk_cell BK840.out 1).trans rfl⟩ (fun hHeld => ?_); refine with_tabW laws_FnRingsMeet.tab49 laws_FnRingsMeet.bits49 (fun HT_ HW_ => ?_)
    generalize w160.drew = w161 at BK800 BK840 BK852 BK860 HB hHeld ⊢
    refine pua 1 396 (bs_ 15 2) HT_ ?_
    refine pua 2 397 (bs_ 15 6) HT_ ?_
    refine pua 3 398 (bs_ 15 14) HT_ ?_
    refine pua 4 399 (bs_ 15 30) HT_ ?_
    refine pua 5 400 (bs_ 15 62) HT_ ?_
    refine pua 6 401 (bs_ 15 126) HT_ ?_
    refine pua 7 402 (bs_ 15 254) HT_ ?_
    refine pua 8 403 (bs_ 15 510) HT_ ?_
    refine tk_ 0 395 (bs_ 15 511) rfl rfl HT_ HW_ (by kernel_rfl) (fun _ _ _ h => h) (by rfl) hHeld (by rintro w' ⟨s0, s1⟩; go_simp; with_reducible rfl) (by simp only [Act.put, s_1, s_2, s_3, i64_w, i32_w]; rfl) ?_
    refine one_ (i := 9) (N := some 404) (bs_ 15 1023) rfl rfl (one_of HT_.out (by kernel_rfl)) (by decide) (fun K hK => ?_)
    refine goes_ Tryz.func36 (by kernel_rfl) rfl #[.agg #[.int .i64 t836, .int .i64 t837], .string t841, .int .i64 (Int.tmod (wrap64 ((t838.size : Int) - t839)) (t838.size : Int))] (by rfl) rfl rfl (by (try simp only [m_1, m_2, m_3]); first | done | rfl | (simp only [m_4, m_5]; rfl)) ?_
    with_reducible refine (impl_TurnedRing.calls kj109 t836 t837 t841 (Int.tmod (wrap64 ((t838.size : Int) - t839)) (t838.size : Int)) t867 true _ A151.out).mono ?_
    rintro e w162 ⟨rfl, hb⟩
    refine ⟨_, rfl, ?_⟩
    have n0_ := bbx hb BK800
    have n1_ := bbx hb BK840
    have n2_ := bbx hb BK852
    have n3_ := bbx hb BK860
    have n4_ := bsx hb HB
    clear BK800
    clear BK840
    clear BK852
    clear BK860
    clear HB
    have BK800 := n0_
    have BK840 := n1_
    have BK852 := n2_
    have BK860 := n3_
    have HB := n4_
    clear n0_ n1_ n2_ n3_ n4_
    (try clear hb)
    (try clear hb2)
    (try clear hk)
    (try clear hi)
    refine hK.out _ _ ⟨(blk_cell BK840.out 0).trans rfl, (blk_cell BK840.out 1).trans rfl⟩ (fun hHeld => ?_)
    clear hK K
    refine norm_ (a' := ?_) ?_ ?_
    rotate_left
    · show Act.put _ (some 404) _ = _
      simp only [Act.put, s_1, s_2, s_3, i64_w, i32_w]
      rfl
    refine pua 10 394 (bs_ 15 2047) HT_ ?_
    refine pua 11 405 (bs_ 15 4095) HT_ ?_
    refine pua 12 406 (bs_ 15 8191) HT_ ?_
    refine pua 13 60 (bs_ 15 16383) HT_ ?_
    refine pua 14 61 (bs_ 15 32767) HT_ ?_
    refine done_ (done_of HT_.out (by kernel_rfl)) ?_
    try go_wp2
    go_meet
    case rel => refine ⟨_, H', ⟨by have := HJ11.out; have := HJ41.out; have := HJ109.out; first | omega | exact Nat.le_refl _⟩, ⟨?_⟩, ⟨?_⟩, ⟨?_⟩, ⟨?_⟩, ⟨bB HB⟩⟩ <;> (with_reducible repeat (first | refine g_d ?_ _ | refine g_e ?_ | refine g_a ?_ _)) <;> first | exact BK800.out | exact BK840.out | exact BK852.out | exact BK860.out
  clear HC147
  try clear c146
  obtain ⟨kq, HA, HJ146, BK800, BK840, BK852, BK860, HB⟩ := hcut
  rcases kq with _ | kj146
  · exact absurd HA.out (by simp [laws_FnRingsMeet.j7])
  have H := HA.out
  clear HA
  simp only [laws_FnRingsMeet.j7] at H
  have HC163 := Aside0.mk H
  clear H
  go_upto_if 422 with (fail)
  go_cut [] from 1 to 0 (fun wc => ∃ (kq : Nat), Aside0 (laws_FnRingsMeet.j8 kq t851 t853 t854 t859 t861 t862 t849 t850 t857 t858 = some r) ∧ Aside0 (kq ≤ kj146) ∧ Aside0 (wc.heap[gb800]? = some (.cells #[.int .i64 t797, .int .i64 t798] 23 (0, 0))) ∧ Aside0 (wc.heap[gb840]? = some (.cells #[.int .i64 t836, .int .i64 t837] 23 (0, 0))) ∧ Aside0 (wc.heap[gb852]? = some (.cells #[.int .i64 t849, .int .i64 t850] 23 (0, 0))) ∧ Aside0 (wc.heap[gb860]? = some (.cells #[.int .i64 t857, .int .i64 t858] 23 (0, 0))) ∧ Aside0 (Below w.heap.size w wc))
  case first => as_aux_lemma =>
    have H := HC163.out
    clear HC163
    by_cases c164 : t846 = true
    rotate_left
    · replace c164 := Bool.eq_false_iff.mpr c164
      subst c164
      rw [if_neg (show ¬ (false = true) by decide)] at H
      have H' := Aside0.mk H
      clear H
      go_wp2
      go_meet
      case rel => refine ⟨_, H', ⟨by have := HJ11.out; have := HJ41.out; have := HJ109.out; have := HJ146.out; first | omega | exact Nat.le_refl _⟩, ⟨?_⟩, ⟨?_⟩, ⟨?_⟩, ⟨?_⟩, ⟨bB HB⟩⟩ <;> (with_reducible repeat (first | refine g_d ?_ _ | refine g_e ?_ | refine g_a ?_ _)) <;> first | exact BK800.out | exact BK840.out | exact BK852.out | exact BK860.out
    subst c164
    rw [if_pos rfl] at H
    replace H := Option.bind_eq_some_iff.mp H
    obtain ⟨⟨t869, t870⟩, A1650, H⟩ := H
    try dsimp only at H
    have A165 := Aside0.mk A1650
    clear A1650
    by_cases c166 : t837 = 0
    · rw [if_pos c166] at H
      exact absurd H (by simp)
    rw [if_neg c166] at H
    have c166b0 : (t837 == 0) = false := beq_eq_false_iff_ne.mpr c166
    have c166b1 : (t837 != 0) = true := bne_iff_ne.mpr c166
    (first | rw [c166b0] | (simp only [i64_w, i32_w]; rw [c166b0]) | skip)
    replace H := Option.bind_eq_some_iff.mp H
    obtain ⟨⟨t871, t872⟩, A1670, H⟩ := H
    try dsimp only at H
    have A167 := Aside0.mk A1670
    clear A1670
    by_cases c168 : t870 = true
    rotate_left
    · replace c168 := Bool.eq_false_iff.mpr c168
      subst c168
      rw [if_neg (show ¬ (false = true) by decide)] at H
      rw [HRT.out] at H
      exact absurd H (by simp)
    subst c168
    rw [if_pos rfl] at H
    by_cases c169 : t869 = true
    rotate_left
    · replace c169 := Bool.eq_false_iff.mpr c169
      subst c169
      rw [if_neg (show ¬ (false = true) by decide)] at H
      rw [HRT.out] at H
      exact absurd H (by simp)
    subst c169
    rw [if_pos rfl] at H
    by_cases c170 : t872 = true
    rotate_left
    · replace c170 := Bool.eq_false_iff.mpr c170
      subst c170
      rw [if_neg (show ¬ (false = true) by decide)] at H
      rw [HRT.out] at H
      exact absurd H (by simp)
    subst c170
    rw [if_pos rfl] at H
    by_cases c171 : t871.toList = t838.toList
    rotate_left
    · rw [if_neg c171] at H
      have c171b0 : (t871.toList == t838.toList) = false := beq_eq_false_iff_ne.mpr c171
      have c171b1 : (t871.toList != t838.toList) = true := bne_iff_ne.mpr c171
      rw [HRT.out] at H
      exact absurd H (by simp)
    rw [if_pos c171] at H
    have c171b0 : (t871.toList == t838.toList) = true := beq_iff_eq.mpr c171
    have c171b1 : (t871.toList != t838.toList) = false := bne_eq_false_iff_eq.mpr c171
    clear c171
    have H' := Aside0.mk H
    clear H
    have hnb172 := eq_false NB840_800.out
    have hnc172 := eq_false NB800_840.out
    have hnb173 := eq_false NB840_852.out
    have hnc173 := eq_false NB852_840.out
    have hnb174 := eq_false NB840_860.out
    have hnc174 := eq_false NB860_840.out
    have hcz175_0 := cz0 BK840
    have hcz175_1 := cz1 BK840
    have hfz175_0 := blk_frozen BK840.out 0
    have hfz175_1 := blk_frozen BK840.out 1
    try go_wp2_with (first | ((with_reducible refine gate_callee (f := 20) rfl ?_); refine goesL_ (some 426) rfl rfl Tryz.func20 (by kernel_rfl) rfl #[.agg #[.int .i64 t836, .int .i64 t837], .string t845] rfl (by (try simp only [m_1, m_2, m_3]); first | done | rfl | (simp only [m_4, m_5]; rfl)) ?_; (with_reducible refine (impl_IsRing.calls kj146 t836 t837 t845 true true _ A165.out).mono ?_); rintro e w176 ⟨rfl, hb⟩; refine ⟨_, rfl, ?_⟩; replace BK800 := bbx hb BK800; replace BK840 := bbx hb BK840; replace BK852 := bbx hb BK852; replace BK860 := bbx hb BK860; replace HB := bsx hb HB; skip; (try clear hb); (try clear hb2); (try clear hk); (try clear hi)))
    have n0_ := Aside0.mk (g_e BK800.out)
    have n1_ := Aside0.mk (g_e BK840.out)
    have n2_ := Aside0.mk (g_e BK852.out)
    have n3_ := Aside0.mk (g_e BK860.out)
    have n4_ := Aside0.mk (b_e HB.out)
    clear BK800
    clear BK840
    clear BK852
    clear BK860
    clear HB
    have BK800 := n0_
    have BK840 := n1_
    have BK852 := n2_
    have BK860 := n3_
    have HB := n4_
    clear n0_ n1_ n2_ n3_ n4_
    refine start_ (n := 15) (S := fun w' => w'.cell? ⟨gb840, 0, none⟩ = some (.int .i64 t836) ∧ w'.cell? ⟨gb840, 1, none⟩ = some (.int .i64 t837)) (ds := []) (bs_ 15 0) (by kernel_rfl) rfl rfl ⟨(blk_cell BK840.out 0).trans rfl, (blk_cell BK840.out 1).trans rfl⟩ (fun hHeld => ?_); refine with_tabW laws_FnRingsMeet.tab54 laws_FnRingsMeet.bits54 (fun HT_ HW_ => ?_)
    generalize w176.drew = w177 at BK800 BK840 BK852 BK860 HB hHeld ⊢
    refine pua 1 431 (bs_ 15 2) HT_ ?_
    refine pua 2 432 (bs_ 15 6) HT_ ?_
    refine pua 4 434 (bs_ 15 22) HT_ ?_
    refine pua 6 436 (bs_ 15 86) HT_ ?_
    refine tk_ 0 430 (bs_ 15 87) rfl rfl HT_ HW_ (by kernel_rfl) (fun _ _ _ h => h) (by rfl) hHeld (by rintro w' ⟨s0, s1⟩; go_simp; with_reducible rfl) (by simp only [Act.put, s_1, s_2, s_3, i64_w, i32_w]; rfl) ?_
    refine tk_ 3 433 (bs_ 15 95) rfl rfl HT_ HW_ (by kernel_rfl) (fun _ _ _ h => h) (by rfl) hHeld (by rintro w' ⟨s0, s1⟩; go_simp; with_reducible rfl) (by simp only [Act.put, s_1, s_2, s_3, i64_w, i32_w]; rfl) ?_
    refine pua 5 435 (bs_ 15 127) HT_ ?_
    refine tk_ 7 437 (bs_ 15 255) rfl rfl HT_ HW_ (by kernel_rfl) (fun _ _ _ h => h) (by rfl) hHeld (by rintro w' ⟨s0, s1⟩; go_simp; with_reducible rfl) (by simp only [Act.put, s_1, s_2, s_3, i64_w, i32_w]; rfl) ?_
    refine pua 8 438 (bs_ 15 511) HT_ ?_
    refine one_ (i := 9) (N := some 439) (bs_ 15 1023) rfl rfl (one_of HT_.out (by kernel_rfl)) (by decide) (fun K hK => ?_)
    refine goes_ Tryz.func38 (by kernel_rfl) rfl #[.agg #[.int .i64 t836, .int .i64 t837], .string t845, .int .i64 (Int.tmod (wrap64 (t837 - t839)) t837)] (by rfl) rfl rfl (by (try simp only [m_1, m_2, m_3]); first | done | rfl | (simp only [m_4, m_5]; rfl)) ?_
    with_reducible refine (impl_RaisedRing.calls kj146 t836 t837 t845 (Int.tmod (wrap64 (t837 - t839)) t837) t871 true _ A167.out).mono ?_
    rintro e w178 ⟨rfl, hb⟩
    refine ⟨_, rfl, ?_⟩
    have n0_ := bbx hb BK800
    have n1_ := bbx hb BK840
    have n2_ := bbx hb BK852
    have n3_ := bbx hb BK860
    have n4_ := bsx hb HB
    clear BK800
    clear BK840
    clear BK852
    clear BK860
    clear HB
    have BK800 := n0_
    have BK840 := n1_
    have BK852 := n2_
    have BK860 := n3_
    have HB := n4_
    clear n0_ n1_ n2_ n3_ n4_
    (try clear hb)
    (try clear hb2)
    (try clear hk)
    (try clear hi)
    refine hK.out _ _ ⟨(blk_cell BK840.out 0).trans rfl, (blk_cell BK840.out 1).trans rfl⟩ (fun hHeld => ?_)
    clear hK K
    refine norm_ (a' := ?_) ?_ ?_
    rotate_left
    · show Act.put _ (some 439) _ = _
      simp only [Act.put, s_1, s_2, s_3, i64_w, i32_w]
      rfl
    refine pua 10 429 (bs_ 15 2047) HT_ ?_
    refine pua 11 440 (bs_ 15 4095) HT_ ?_
    refine pua 12 441 (bs_ 15 8191) HT_ ?_
    refine pua 13 64 (bs_ 15 16383) HT_ ?_
    refine pua 14 65 (bs_ 15 32767) HT_ ?_
    refine done_ (done_of HT_.out (by kernel_rfl)) ?_
    try go_wp2
    go_meet
    case rel => refine ⟨_, H', ⟨by have := HJ11.out; have := HJ41.out; have := HJ109.out; have := HJ146.out; first | omega | exact Nat.le_refl _⟩, ⟨?_⟩, ⟨?_⟩, ⟨?_⟩, ⟨?_⟩, ⟨bB HB⟩⟩ <;> (with_reducible repeat (first | refine g_d ?_ _ | refine g_e ?_ | refine g_a ?_ _)) <;> first | exact BK800.out | exact BK840.out | exact BK852.out | exact BK860.out
  clear HC163
  obtain ⟨kq, HA, HJ162, BK800, BK840, BK852, BK860, HB⟩ := hcut
  rcases kq with _ | kj162
  · exact absurd HA.out (by simp [laws_FnRingsMeet.j8])
  have H := HA.out
  clear HA
  simp only [laws_FnRingsMeet.j8] at H
  by_cases c179 : t854 = true
  rotate_left
  · replace c179 := Bool.eq_false_iff.mpr c179
    subst c179
    rw [if_neg (show ¬ (false = true) by decide)] at H
    by_cases c197 : t862 = true
    rotate_left
    · replace c197 := Bool.eq_false_iff.mpr c197
      subst c197
      rw [if_neg (show ¬ (false = true) by decide)] at H
      obtain rfl := Option.some.inj H
      go_wp2
      go_ret
      exact ⟨by first | rfl | (simp [errW_none, errW_some] <;> rfl) | (simp [*, errW_none, errW_some] <;> rfl), bB HB⟩

    subst c197
    rw [if_pos rfl] at H
    replace H := Option.bind_eq_some_iff.mp H
    obtain ⟨⟨t877, t878⟩, A1980, H⟩ := H
    try dsimp only at H
    have A198 := Aside0.mk A1980
    clear A1980
    by_cases c199 : t878 = true
    rotate_left
    · replace c199 := Bool.eq_false_iff.mpr c199
      subst c199
      rw [if_neg (show ¬ (false = true) by decide)] at H
      rw [HRT.out] at H
      exact absurd H (by simp)
    subst c199
    rw [if_pos rfl] at H
    obtain rfl := Option.some.inj H
    have hnb200 := eq_false NB860_800.out
    have hnc200 := eq_false NB800_860.out
    have hnb201 := eq_false NB860_840.out
    have hnc201 := eq_false NB840_860.out
    have hnb202 := eq_false NB860_852.out
    have hnc202 := eq_false NB852_860.out
    have hcz203_0 := cz0 BK860
    have hcz203_1 := cz1 BK860
    have hfz203_0 := blk_frozen BK860.out 0
    have hfz203_1 := blk_frozen BK860.out 1
    go_wp2_with (first | ((with_reducible refine gate_callee (f := 41) rfl ?_); refine goesL_ (some 475) rfl rfl Tryz.func41 (by kernel_rfl) rfl #[.agg #[.int .i64 t857, .int .i64 t858], .string t861] rfl (by (try simp only [m_1, m_2, m_3]); first | done | rfl | (simp only [m_4, m_5]; rfl)) ?_; (with_reducible refine (impl_PlaceInRing.calls kj162 t857 t858 t861 t877 true _ (strings_Index.gl_below HG.out (bB HB)) A198.out).mono ?_); rintro e w204 ⟨rfl, hb⟩; refine ⟨_, rfl, ?_⟩; replace BK800 := bbx hb BK800; replace BK840 := bbx hb BK840; replace BK852 := bbx hb BK852; replace BK860 := bbx hb BK860; replace HB := bsx hb HB; skip; (try clear hb); (try clear hb2); (try clear hk); (try clear hi)))
    go_ret
    exact ⟨by first | rfl | (simp [errW_none, errW_some] <;> rfl) | (simp [*, errW_none, errW_some] <;> rfl), bB HB⟩
  subst c179
  rw [if_pos rfl] at H
  replace H := Option.bind_eq_some_iff.mp H
  obtain ⟨⟨t873, t874⟩, A1800, H⟩ := H
  try dsimp only at H
  have A180 := Aside0.mk A1800
  clear A1800
  have HC181 := Aside0.mk H
  clear H
  have hnb182 := eq_false NB852_800.out
  have hnc182 := eq_false NB800_852.out
  have hnb183 := eq_false NB852_840.out
  have hnc183 := eq_false NB840_852.out
  have hnb184 := eq_false NB852_860.out
  have hnc184 := eq_false NB860_852.out
  have hcz185_0 := cz0 BK852
  have hcz185_1 := cz1 BK852
  have hfz185_0 := blk_frozen BK852.out 0
  have hfz185_1 := blk_frozen BK852.out 1
  go_upto_region 59 with (first | ((with_reducible refine gate_callee (f := 44) rfl ?_); refine goesL_ (some 461) rfl rfl Tryz.func44 (by kernel_rfl) rfl #[.agg #[.int .i64 t849, .int .i64 t850], .int .i64 t853] rfl (by (try simp only [m_1, m_2, m_3]); first | done | rfl | (simp only [m_4, m_5]; rfl)) ?_; (with_reducible refine (impl_CodeAtPlace.calls kj162 t849 t850 t853 t873 t874 _ A180.out).mono ?_); rintro e w186 ⟨rfl, hb⟩; refine ⟨_, rfl, ?_⟩; replace BK800 := bbx hb BK800; replace BK840 := bbx hb BK840; replace BK852 := bbx hb BK852; replace BK860 := bbx hb BK860; replace HB := bsx hb HB; skip; (try clear hb); (try clear hb2); (try clear hk); (try clear hi)))
  (try simp only [Act.put, s_1, s_2, s_3])
  go_cut [470] from 1 to 0 (fun v470 wc => ∃ (kq : Nat) (x470_180 : Bool), v470 = .bool x470_180 ∧ Aside0 (laws_FnRingsMeet.j9 kq t859 t861 t862 x470_180 t857 t858 = some r) ∧ Aside0 (kq ≤ kj162) ∧ Aside0 (wc.heap[gb800]? = some (.cells #[.int .i64 t797, .int .i64 t798] 23 (0, 0))) ∧ Aside0 (wc.heap[gb840]? = some (.cells #[.int .i64 t836, .int .i64 t837] 23 (0, 0))) ∧ Aside0 (wc.heap[gb852]? = some (.cells #[.int .i64 t849, .int .i64 t850] 23 (0, 0))) ∧ Aside0 (wc.heap[gb860]? = some (.cells #[.int .i64 t857, .int .i64 t858] 23 (0, 0))) ∧ Aside0 (Below w.heap.size w wc))
  case first => as_aux_lemma =>
    have H := HC181.out
    clear HC181
    by_cases c187 : t874 = true
    rotate_left
    · replace c187 := Bool.eq_false_iff.mpr c187
      subst c187
      rw [if_neg (show ¬ (false = true) by decide)] at H
      rw [HRT.out] at H
      exact absurd H (by generalize kj162 = q_; cases q_ <;> simp [laws_FnRingsMeet.j9])
    subst c187
    rw [if_pos rfl] at H
    have H' := Aside0.mk H
    clear H
    go_wp2
    go_meet
    case rel => refine ⟨_, ((t873.toList != t851.toList)), (by first | rfl | (simp; done) | (simp [*]; done)), H', ⟨by have := HJ11.out; have := HJ41.out; have := HJ109.out; have := HJ146.out; have := HJ162.out; first | omega | exact Nat.le_refl _⟩, ⟨?_⟩, ⟨?_⟩, ⟨?_⟩, ⟨?_⟩, ⟨bB HB⟩⟩ <;> (with_reducible repeat (first | refine g_d ?_ _ | refine g_e ?_ | refine g_a ?_ _)) <;> first | exact BK800.out | exact BK840.out | exact BK852.out | exact BK860.out
  clear HC181
  try clear c179
  try clear hcz185_0
  try clear hcz185_1
  try clear hfz185_0
  try clear hfz185_1
  obtain ⟨kq, x470_180, rfl, HA, HJ180, BK800, BK840, BK852, BK860, HB⟩ := hcut
  rcases kq with _ | kj180
  · exact absurd HA.out (by simp [laws_FnRingsMeet.j9])
  have H := HA.out
  clear HA
  simp only [laws_FnRingsMeet.j9] at H
  by_cases c188 : x470_180 = true
  · subst c188
    rw [if_pos rfl] at H
    rw [HRT.out] at H
    exact absurd H (by simp)
  replace c188 := Bool.eq_false_iff.mpr c188
  subst c188
  rw [if_neg (show ¬ (false = true) by decide)] at H
  by_cases c189 : t862 = true
  rotate_left
  · replace c189 := Bool.eq_false_iff.mpr c189
    subst c189
    rw [if_neg (show ¬ (false = true) by decide)] at H
    obtain rfl := Option.some.inj H
    go_wp2
    go_ret
    exact ⟨by first | rfl | (simp [errW_none, errW_some] <;> rfl) | (simp [*, errW_none, errW_some] <;> rfl), bB HB⟩
  subst c189
  rw [if_pos rfl] at H
  replace H := Option.bind_eq_some_iff.mp H
  obtain ⟨⟨t875, t876⟩, A1900, H⟩ := H
  try dsimp only at H
  have A190 := Aside0.mk A1900
  clear A1900
  by_cases c191 : t876 = true
  rotate_left
  · replace c191 := Bool.eq_false_iff.mpr c191
    subst c191
    rw [if_neg (show ¬ (false = true) by decide)] at H
    rw [HRT.out] at H
    exact absurd H (by simp)
  subst c191
  rw [if_pos rfl] at H
  obtain rfl := Option.some.inj H
  have hnb192 := eq_false NB860_800.out
  have hnc192 := eq_false NB800_860.out
  have hnb193 := eq_false NB860_840.out
  have hnc193 := eq_false NB840_860.out
  have hnb194 := eq_false NB860_852.out
  have hnc194 := eq_false NB852_860.out
  have hcz195_0 := cz0 BK860
  have hcz195_1 := cz1 BK860
  have hfz195_0 := blk_frozen BK860.out 0
  have hfz195_1 := blk_frozen BK860.out 1
  go_wp2_with (first | ((with_reducible refine gate_callee (f := 41) rfl ?_); refine goesL_ (some 475) rfl rfl Tryz.func41 (by kernel_rfl) rfl #[.agg #[.int .i64 t857, .int .i64 t858], .string t861] rfl (by (try simp only [m_1, m_2, m_3]); first | done | rfl | (simp only [m_4, m_5]; rfl)) ?_; (with_reducible refine (impl_PlaceInRing.calls kj180 t857 t858 t861 t875 true _ (strings_Index.gl_below HG.out (bB HB)) A190.out).mono ?_); rintro e w196 ⟨rfl, hb⟩; refine ⟨_, rfl, ?_⟩; replace BK800 := bbx hb BK800; replace BK840 := bbx hb BK840; replace BK852 := bbx hb BK852; replace BK860 := bbx hb BK860; replace HB := bsx hb HB; skip; (try clear hb); (try clear hb2); (try clear hk); (try clear hi)))
  go_ret
  exact ⟨by first | rfl | (simp [errW_none, errW_some] <;> rfl) | (simp [*, errW_none, errW_some] <;> rfl), bB HB⟩
/-- THE ONE PURE STATEMENT of laws_FnRingsMeet: yours. -/
def laws_FnRingsMeet.Pure : Prop := ∀ (l0 : List Int) (l1 : List Int), l0.length ≤ maxLen → l0.length * 1 ≤ 140737488351232 → (∀ x ∈ l0, (Lit.int .u8 x).wf = true) → l1.length ≤ maxLen → l1.length * 1 ≤ 140737488351232 → (∀ x ∈ l1, (Lit.int .u8 x).wf = true) → ∃ k, laws_FnRingsMeet.f k l0 l1 = some true
theorem laws_FnRingsMeet.walk (P : laws_FnRingsMeet.Pure) (a0 : Option Addr) (len0 cap0 : Nat) (z0 : List Int) (a1 : Option Addr) (len1 cap1 : Nat) (z1 : List Int) (w : World) (hG : strings_Index.Gl w) (w0 : (a0 = none ∧ len0 = 0 ∧ cap0 = 0 ∧ z0 = []) ∨ ∃ x, a0 = some x ∧ len0 ≤ cap0 ∧ cap0 ≤ maxLen ∧ z0.length = cap0 ∧ (∀ i, i < z0.length → w.cell? (x.add i) = some (.int .u8 (z0.getD i 0))) ∧ ∀ n ∈ z0, (Lit.int .u8 n).wf = true) (y0 : len0 * 1 ≤ 140737488351232) (w1 : (a1 = none ∧ len1 = 0 ∧ cap1 = 0 ∧ z1 = []) ∨ ∃ x, a1 = some x ∧ len1 ≤ cap1 ∧ cap1 ≤ maxLen ∧ z1.length = cap1 ∧ (∀ i, i < z1.length → w.cell? (x.add i) = some (.int .u8 (z1.getD i 0))) ∧ ∀ n ∈ z1, (Lit.int .u8 n).wf = true) (y1 : len1 * 1 ≤ 140737488351232) :
    Calls Tryz.prog 4 #[.slice a0 len0 cap0, .slice a1 len1 cap1] w fun e w' => e = .returned (.bool true) ∧ Below w.heap.size w w' := by
  obtain ⟨l0, rfl, hr0, hm0, hw0, hc0⟩ := ReadsInt.ofRowC w0
  obtain ⟨l1, rfl, hr1, hm1, hw1, hc1⟩ := ReadsInt.ofRowC w1
  obtain ⟨k, h⟩ := P l0 l1 hm0 y0 hw0 hm1 y1 hw1
  refine (laws_FnRingsMeet.calls k _ _ l0 _ _ l1 true w (Kd.C_of_reads (d := (0 : Int)) (h1 := fun _ => rfl) hr0) hc0 (Kd.C_of_reads (d := (0 : Int)) (h1 := fun _ => rfl) hr1) hc1 hG h).mono ?_
  rintro e w' ⟨rfl, hd⟩
  exact ⟨rfl, hd⟩

end Go.Proofs.YtmpcefcgboljkaaGreat.P
