-- Texts of this session's own program (wip/dr.py), which runs the kit's printer.
import Derived.Test.YtblccaaahicneaaPx0
namespace Go.Proofs.Ytblccaaahicneaa.P
open Go.RowKit Go.Proofs.YtblccaaahicneaaW.PrintWords Go.Proofs.YtblccaaahicneaaW.PrintLast Go.Proofs.YtblccaaahicneaaW.PrintMore
attribute [local go_sem] max2_int min2_int max_two min_two max_three min_three max_four min_four   -- for this text's walks alone
set_option linter.unusedVariables false
set_option linter.unusedSimpArgs false

/-! ### strings_Join: function 71 (a text of our own) -/
def strings_Join.f (l0 : List ByteArray) (a1 : ByteArray) : Option (ByteArray) := if l0.length ≤ 1000000 then (if (Lib.join (l0.map (·.data.toList)) a1.data.toList).length ≤ 140737488355328 then some ⟨(Lib.join (l0.map (·.data.toList)) a1.data.toList).toArray⟩ else none) else none
theorem strings_Join.calls (A0 : Option Addr) (c0 : Nat) (l0 : List ByteArray) (a1 : ByteArray) (r : ByteArray) (w : World) (hr0 : Kd.C Kd.string w A0 l0.length l0) (hc0 : l0.length ≤ c0) (h : strings_Join.f l0 a1 = some r) :
    Calls Try.prog 71 #[.slice A0 l0.length c0, .string a1] w fun e w' => e = .returned (.string r) ∧ Below w.heap.size w w' := by
  unfold strings_Join.f at h
  by_cases h1 : l0.length ≤ 1000000
  · rw [if_pos h1] at h
    by_cases h2 : (Lib.join (l0.map (·.data.toList)) a1.data.toList).length ≤ 140737488355328
    · rw [if_pos h2] at h
      obtain rfl := Option.some.inj h
      by_cases h3 : 0 < l0.length
      · obtain ⟨ad, e, hx⟩ := Kd.at_string hr0 0 (by omega) (by omega)
        obtain ⟨bk, o, sp⟩ := ad
        have hsp : sp = none := by
          have hx' : w.cell? ⟨bk, o, sp⟩ = some (.string (rdOf ByteArray.empty l0 0)) := hx
          unfold World.cell? at hx'
          cases sp with
          | none => rfl
          | some q =>
            exfalso
            simp only [Option.isSome_some, if_true] at hx'
            split at hx' <;> exact absurd hx' (by simp)
        subst hsp
        subst e
        refine (Try.strings_Join bk o c0 l0 a1 w ?_ ?_ (by omega) hc0 h2).mono fun e w' ⟨he, hw⟩ => ⟨he, hw⟩
        · intro j x hj
          have hl : j < l0.length := by
            rcases Nat.lt_or_ge j l0.length with q | q
            · exact q
            · rw [List.getElem?_eq_none q] at hj; cases hj
          obtain ⟨ad, e, hc⟩ := Kd.at_string hr0 (j : Int) (by omega) (by omega)
          obtain rfl := Option.some.inj e
          have e2 : rdOf ByteArray.empty l0 (j : Int) = x := by
            unfold rdOf
            rw [Int.toNat_natCast, List.getD_eq_getElem?_getD, hj]; rfl
          rw [e2, Int.toNat_natCast] at hc
          rw [← hc]
          congr 1
          unfold Addr.add
          split
          · subst_vars; rfl
          · rfl
        · exact World.block_lt_of_cell? w ⟨bk, o, none⟩ hx
      · have h4 : l0 = [] := List.length_eq_zero_iff.mp (by omega)
        subst h4
        refine (Try.strings_Join_none A0 c0 a1 w).mono fun e w' ⟨he, hw⟩ => ⟨he, ?_⟩
        rw [hw]; exact Below.refl _ _
    · rw [if_neg h2] at h; exact absurd h (by simp)
  · rw [if_neg h1] at h; exact absurd h (by simp)


end Go.Proofs.Ytblccaaahicneaa.P
