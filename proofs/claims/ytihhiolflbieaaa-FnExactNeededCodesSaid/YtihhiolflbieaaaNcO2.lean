/- The turn from a code to a next one: what the functions that look for it answer, told on lists of digits. No conditions. -/
import Derived.Test.YtihhiolflbieaaaNcO
import Derived.Test.YtihhiolflbieaaaPx5
namespace Go.Proofs.Ytihhiolflbieaaa.O2
open Go.RowKit Go.Proofs.Ytihhiolflbieaaa.P Go.Proofs.Ytihhiolflbieaaa.B Go.Proofs.Ytihhiolflbieaaa.C Go.Proofs.Ytihhiolflbieaaa.L Go.Proofs.Ytihhiolflbieaaa.A Go.Proofs.Ytihhiolflbieaaa.O Go.Proofs.YtihhiolflbieaaaW.PrintWords Go.Proofs.YtihhiolflbieaaaW.PrintLast Go.Proofs.YtihhiolflbieaaaW.PrintMore
set_option linter.unusedVariables false
set_option linter.unusedSimpArgs false

/-- Where two codes at the distance 1 part. -/
theorem nx_at {D : Int} : ∀ {a b : List Int}, a.length = b.length → Nx D a b → ∃ i, ∃ (hi : i < a.length) (hb : i < b.length), a[i] ≠ b[i] ∧ (∀ j, j < i → a[j]? = b[j]?) ∧ ((b[i] = (a[i] + 1) % D ∧ b = a.set i ((a[i] + 1) % D)) ∨ (b[i] ≠ (a[i] + 1) % D ∧ b = a.set i ((a[i] - 1) % D)))
  | [], [], _, h => h.elim
  | [], _ :: _, _, h => h.elim
  | _ :: _, [], _, h => h.elim
  | x :: xs, y :: ys, hl, h => by
    rcases h with ⟨rfl, h⟩ | ⟨rfl, hne, h⟩
    · obtain ⟨i, hi, hb, h1, h2, h3⟩ := nx_at (by simpa using hl) h
      refine ⟨i + 1, by simpa using hi, by simpa using hb, by simpa using h1, ?_, ?_⟩
      · intro j hj
        cases j with
        | zero => rfl
        | succ j => simpa using h2 j (by omega)
      · simpa using h3
    · refine ⟨0, by simp, by simp, by simpa using hne, fun j hj => by omega, ?_⟩
      by_cases e : y = (x + 1) % D
      · left; simp [e]
      · right; rcases h with h | h
        · exact absurd h e
        · exact ⟨by simpa using e, by simp [h]⟩

def trn (m : Nat) : S66 := ⟨((m / 2 : Nat) : Int), if m % 2 = 0 then 1 else -1⟩
def trns (W : Nat) : List S66 := (List.range (2 * W)).map trn
theorem turns_ev {W : Nat} (h : W ≤ 6) : Ev (fun k => impl_turns.f k (W : Int)) (trns W) := by
  have : W = 0 ∨ W = 1 ∨ W = 2 ∨ W = 3 ∨ W = 4 ∨ W = 5 ∨ W = 6 := by omega
  rcases this with rfl | rfl | rfl | rfl | rfl | rfl | rfl <;> exact Ev.of (fun k => impl_turns.mono _ k) (k := 10) (by kernel_rfl)

def tur (D : Int) (i : Nat) (by_ : Int) (a : List Int) : List Int := a.set i ((a.getD i 0 + by_) % D)
theorem tur_isD {D : Int} (hD : 0 < D) {a : List Int} (h : IsD D a) (i : Nat) (e : Int) : IsD D (tur D i e a) := by
  intro x hx
  unfold tur at hx
  rcases List.mem_or_eq_of_mem_set hx with hx | rfl
  · exact h x hx
  · exact ⟨Int.emod_nonneg _ (by omega), Int.emod_lt_of_pos _ hD⟩
theorem tur_len (D : Int) (i : Nat) (e : Int) (a : List Int) : (tur D i e a).length = a.length := by simp [tur]

theorem turned_ev {W D : Int} (hD : 2 ≤ D ∧ D ≤ 10) {a : List Int} (ha : IsD D a) (hl : a.length ≤ 1000) {i : Nat} (hi : i < a.length) {e : Int} (he : -1000 ≤ e ∧ e ≤ 1000) :
    Ev (fun k => impl_Lock_turned.f k W D (txt a) (i : Int) e) (txt (tur D i e a)) := by
  unfold impl_Lock_turned.f
  refine Ev.bind (digits_ev _ (by rw [txt_size]; omega)) ?_
  rw [digs_txt (IsD.mono ha hD.2)]
  have x := IsD.get ha hi
  have g : a.getD i 0 = a[i] := by rw [List.getD_eq_getElem?_getD, List.getElem?_eq_getElem hi]; rfl
  simp only [if_pos (show (0 : Int) ≤ (i : Int) by omega), if_pos (show (i : Int) < (a.length : Int) by omega), rd_get a i hi, w64 (x := a[i] + e) (by omega) (by omega), around_eq (D := D) (by omega), Option.bind_some, Int.toNat_natCast]
  have t := text_ev (tur D i e a) (by rw [tur_len]; omega) (IsD.mono (tur_isD (by omega) ha i e) hD.2)
  unfold tur at t ⊢
  rw [g] at t ⊢
  exact Ev.bind t (Ev.now _)

theorem toList_inj {s t : ByteArray} : s.toList = t.toList ↔ s = t := by
  constructor
  · intro h
    rw [ByteArray.toList_eq, ByteArray.toList_eq] at h
    exact ByteArray.ext (Array.ext' h)
  · exact fun h => by rw [h]

end Go.Proofs.Ytihhiolflbieaaa.O2
