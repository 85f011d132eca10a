/- The round order: what the functions answer, told on lists of digits. No conditions. -/
import Derived.Test.YtihhiolflbieaaaNcO2
import Derived.Test.YtihhiolflbieaaaPx0
namespace Go.Proofs.Ytihhiolflbieaaa.O3
open Go.RowKit Go.Proofs.Ytihhiolflbieaaa.P Go.Proofs.Ytihhiolflbieaaa.B Go.Proofs.Ytihhiolflbieaaa.C Go.Proofs.Ytihhiolflbieaaa.L Go.Proofs.Ytihhiolflbieaaa.A Go.Proofs.Ytihhiolflbieaaa.O Go.Proofs.Ytihhiolflbieaaa.O2 Go.Proofs.YtihhiolflbieaaaW.PrintWords Go.Proofs.YtihhiolflbieaaaW.PrintLast Go.Proofs.YtihhiolflbieaaaW.PrintMore
set_option linter.unusedVariables false
set_option linter.unusedSimpArgs false

theorem here : True := trivial
end Go.Proofs.Ytihhiolflbieaaa.O3