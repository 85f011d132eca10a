/- Rings of digits: what the functions answer that cut texts into codes and look for codes in texts. No conditions. -/
import Derived.Test.YtihhiolflbieaaaNcO3
import Derived.Lib.IndexMore
import Derived.Test.YtihhiolflbieaaaPx0
namespace Go.Proofs.Ytihhiolflbieaaa.R
open Go.RowKit Go.Proofs.Ytihhiolflbieaaa.P Go.Proofs.Ytihhiolflbieaaa.B Go.Proofs.Ytihhiolflbieaaa.C Go.Proofs.Ytihhiolflbieaaa.L Go.Proofs.Ytihhiolflbieaaa.A Go.Proofs.Ytihhiolflbieaaa.O Go.Proofs.Ytihhiolflbieaaa.O2 Go.Proofs.Ytihhiolflbieaaa.O3 Go.Proofs.YtihhiolflbieaaaW.PrintWords Go.Proofs.YtihhiolflbieaaaW.PrintLast Go.Proofs.YtihhiolflbieaaaW.PrintMore
set_option linter.unusedVariables false
set_option linter.unusedSimpArgs false

/-- A lock of rings. -/
def RK (W D : Int) : Prop := LK W D ∧ cnt W D ≤ 1000
instance (W D : Int) : Decidable (RK W D) := by unfold RK; infer_instance
theorem byte_inj {s t : ByteArray} (h : s.data.toList = t.data.toList) : s = t := ByteArray.ext (Array.ext' h)
end Go.Proofs.Ytihhiolflbieaaa.R
