/- The least words: what both functions answer, lock by lock (the locks of rings are 35: the kernel goes through them). No conditions. -/
import Derived.Test.YtblccaaahicneaaR
import Derived.Test.YtblccaaahicneaaPx7
import Derived.Test.YtblccaaahicneaaPx25
namespace Go.Proofs.Ytblccaaahicneaa.LW
open Go.RowKit Go.Proofs.Ytblccaaahicneaa.P Go.Proofs.Ytblccaaahicneaa.B Go.Proofs.Ytblccaaahicneaa.C Go.Proofs.Ytblccaaahicneaa.R Go.Proofs.YtblccaaahicneaaW.PrintWords Go.Proofs.YtblccaaahicneaaW.PrintLast Go.Proofs.YtblccaaahicneaaW.PrintMore
set_option linter.unusedVariables false
set_option linter.unusedSimpArgs false

def wordsB (W D : Int) : Bool := !decide (cnt W D ≤ 1000) || (match impl_Lock_least.f 300 W D W, spec_riWords.f 9000 D W with | some a, some b => decide (a = b) && decide (a.length ≤ 1000) | _, _ => false)
set_option maxRecDepth 1000000 in
theorem words_all : ((List.range 6).all fun i => (List.range 9).all fun j => wordsB (i + 1) (j + 2)) = true := by decide +kernel
theorem words_ev {W D : Int} (h : RK W D) : ∃ l : List ByteArray, l.length ≤ 1000 ∧ Ev (fun k => spec_riWords.f k D W) l ∧ Ev (fun k => impl_Lock_least.f k W D W) l := by
  have := for_good (p := wordsB) words_all h.1
  unfold wordsB at this
  rw [decide_eq_true h.2] at this
  simp only [Bool.not_true, Bool.false_or] at this
  split at this
  · rename_i a b ha hb
    rw [Bool.and_eq_true, decide_eq_true_eq, decide_eq_true_eq] at this
    obtain ⟨rfl, hl⟩ := this
    exact ⟨a, hl, Ev.of (spec_riWords.mono D W) hb, Ev.of (impl_Lock_least.mono W D W) ha⟩
  · exact absurd this (by simp)

end Go.Proofs.Ytblccaaahicneaa.LW
