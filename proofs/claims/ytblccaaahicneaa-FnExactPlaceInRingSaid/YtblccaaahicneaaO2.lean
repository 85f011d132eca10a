/- The turn from a code to a next one: what the functions that look for it answer, told on lists of digits. No conditions. -/
import Derived.Test.YtblccaaahicneaaO
import Derived.Test.YtblccaaahicneaaPx0
namespace Go.Proofs.Ytblccaaahicneaa.O2
open Go.RowKit Go.Proofs.Ytblccaaahicneaa.P Go.Proofs.Ytblccaaahicneaa.B Go.Proofs.Ytblccaaahicneaa.C Go.Proofs.Ytblccaaahicneaa.L Go.Proofs.Ytblccaaahicneaa.A Go.Proofs.Ytblccaaahicneaa.O Go.Proofs.YtblccaaahicneaaW.PrintWords Go.Proofs.YtblccaaahicneaaW.PrintLast Go.Proofs.YtblccaaahicneaaW.PrintMore
set_option linter.unusedVariables false
set_option linter.unusedSimpArgs false

/-- Where two codes at the distance 1 part. -/
theorem nx_at {D : Int} : ∀ {a b : List Int}, a.length = b.length → Nx D a b → ∃ i, ∃ (hi : i < a.length) (hb : i < b.length), a[i] ≠ b[i] ∧ (∀ j, j < i → a[j]? = b[j]?) ∧ ((b[i] = (a[i] + 1) % D ∧ b = a.set i ((a[i] + 1) % D)) ∨ (b[i] ≠ (a[i] + 1) % D ∧ b = a.set i ((a[i] - 1) % D)))
  | [], [], _, h => h.elim
  | [], _ :: _, _, h => h.elim
  | _ :: _, [], _, h => h.elim
  | x :: xs, y :: ys, hl, h => by
    rcases h with ⟨rfl, h⟩ | ⟨rfl, hne, h⟩
    · obtain ⟨i, hi, hb, h1, h2, h3⟩ := nx_at (by simpa using hl) h
      refine ⟨i + 1, by simpa using hi, by simpa using hb, by simpa using h1, ?_, ?_⟩
      · intro j hj
        cases j with
        | zero => rfl
        | succ j => simpa using h2 j (by omega)
      · simpa using h3
    · refine ⟨0, by simp, by simp, by simpa using hne, fun j hj => by omega, ?_⟩
      by_cases e : y = (x + 1) % D
      · left; simp [e]
      · right; rcases h with h | h
        · exact absurd h e
        · exact ⟨by simpa using e, by simp [h]⟩

def tur (D : Int) (i : Nat) (by_ : Int) (a : List Int) : List Int := a.set i ((a.getD i 0 + by_) % D)
theorem tur_isD {D : Int} (hD : 0 < D) {a : List Int} (h : IsD D a) (i : Nat) (e : Int) : IsD D (tur D i e a) := by
  intro x hx
  unfold tur at hx
  rcases List.mem_or_eq_of_mem_set hx with hx | rfl
  · exact h x hx
  · exact ⟨Int.emod_nonneg _ (by omega), Int.emod_lt_of_pos _ hD⟩
theorem tur_len (D : Int) (i : Nat) (e : Int) (a : List Int) : (tur D i e a).length = a.length := by simp [tur]

theorem toList_inj {s t : ByteArray} : s.toList = t.toList ↔ s = t := by
  constructor
  · intro h
    rw [ByteArray.toList_eq, ByteArray.toList_eq] at h
    exact ByteArray.ext (Array.ext' h)
  · exact fun h => by rw [h]

end Go.Proofs.Ytblccaaahicneaa.O2
