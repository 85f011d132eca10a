/- Rings of digits: what the functions answer that cut texts into codes and look for codes in texts. No conditions. -/
import Derived.Test.YtolgccbgmnlkbaaO3
import Derived.Lib.IndexMore
import Derived.Test.YtolgccbgmnlkbaaPx4
import Derived.Test.YtolgccbgmnlkbaaPx14
namespace Go.Proofs.Ytolgccbgmnlkbaa.R
open Go.RowKit Go.Proofs.Ytolgccbgmnlkbaa.P Go.Proofs.Ytolgccbgmnlkbaa.B Go.Proofs.Ytolgccbgmnlkbaa.C Go.Proofs.Ytolgccbgmnlkbaa.L Go.Proofs.Ytolgccbgmnlkbaa.A Go.Proofs.Ytolgccbgmnlkbaa.O Go.Proofs.Ytolgccbgmnlkbaa.O2 Go.Proofs.Ytolgccbgmnlkbaa.O3 Go.Proofs.YtolgccbgmnlkbaaW.PrintWords Go.Proofs.YtolgccbgmnlkbaaW.PrintLast Go.Proofs.YtolgccbgmnlkbaaW.PrintMore
set_option linter.unusedVariables false
set_option linter.unusedSimpArgs false

/-- A lock of rings. -/
def RK (W D : Int) : Prop := LK W D ∧ cnt W D ≤ 1000
instance (W D : Int) : Decidable (RK W D) := by unfold RK; infer_instance
theorem isRounded_ev (W D : Int) : Ev (fun k => impl_isRounded.f k W D) (decide (RK W D)) := by
  unfold impl_isRounded.f
  exact Ev.bind (isSmall_ev W D 1000) (Ev.now _)
theorem riGood_ev (W D : Int) : Ev (fun k => spec_riGood.f k W D) (decide (RK W D)) := by
  unfold spec_riGood.f
  simp only [whGood_eq, Option.bind_some]
  by_cases h : LK W D
  · simp only [decide_eq_true h, if_true]
    rw [show decide (RK W D) = decide (cnt W D ≤ 1000) by rw [decide_eq_decide]; simp [RK, h]]
    exact Ev.bind (whCount_ev h) (Ev.now _)
  · rw [show decide (RK W D) = false by rw [decide_eq_false_iff_not]; simp [RK, h]]
    simp only [decide_eq_false h, Bool.false_eq_true, if_false]
    exact Ev.now _
/-! ### The codes that are met -/
def wins (w : Nat) (s : ByteArray) : List ByteArray := (List.range (s.size + 1 - w)).map fun k => s.extract k (k + w)
theorem wins_len (w : Nat) (s : ByteArray) : (wins w s).length = s.size + 1 - w := by simp [wins]
theorem win_data (s : ByteArray) (k w : Nat) : (s.extract k (k + w)).data.toList = (s.data.toList.drop k).take w := by
  rw [ByteArray.data_extract, Array.toList_extract, List.extract_eq_take_drop, Nat.add_sub_cancel_left]
theorem win_size (s : ByteArray) (k w : Nat) (h : k + w ≤ s.size) : (s.extract k (k + w)).size = w := by
  rw [size_len, win_data, List.length_take, List.length_drop, ← size_len]; omega
theorem win_isT {D : Int} {s : ByteArray} (h : isT D s = true) (k w : Nat) : isT D (s.extract k (k + w)) = true := by
  unfold isT at h ⊢
  rw [List.all_eq_true] at h ⊢
  intro b hb
  rw [win_data] at hb
  exact h b (List.mem_of_mem_drop (List.mem_of_mem_take hb))
theorem wins_get (w : Nat) (s : ByteArray) (k : Nat) (h : k < (wins w s).length) : (wins w s)[k] = s.extract k (k + w) := by simp [wins]
theorem wins_isC {W D : Int} (hW : 1 ≤ W) {s : ByteArray} (h : isT D s = true) : ∀ c ∈ wins W.toNat s, isC W D c = true := by
  intro c hc
  unfold wins at hc
  obtain ⟨k, hk, rfl⟩ := List.mem_map.mp hc
  have hk' := List.mem_range.mp hk
  unfold isC
  rw [win_isT h, Bool.and_true, win_size _ _ _ (by omega)]
  exact decide_eq_true (by omega)

theorem byte_inj {s t : ByteArray} (h : s.data.toList = t.data.toList) : s = t := ByteArray.ext (Array.ext' h)
theorem win_occ {s c : ByteArray} {w k : Nat} (hc : c.size = w) (hk : k + w ≤ s.size) : s.extract k (k + w) = c ↔ Lib.occAt s.data.toList c.data.toList k = true := by
  unfold Lib.occAt
  rw [List.isPrefixOf_iff_prefix, List.prefix_iff_eq_take, ← size_len, hc, ← win_data]
  exact ⟨fun h => by rw [h], fun h => byte_inj h.symm⟩
theorem occ_room {s c : ByteArray} {k : Nat} (h : Lib.occAt s.data.toList c.data.toList k = true) (hc : 0 < c.size) : k + c.size ≤ s.size := by
  unfold Lib.occAt at h
  rw [List.isPrefixOf_iff_prefix] at h
  have := h.length_le
  rw [List.length_drop, ← size_len, ← size_len] at this
  omega

/-- The first one that is not so. -/
theorem first_false (p : Nat → Bool) : ∀ C : Nat, (∃ n, n < C ∧ p n = false ∧ ∀ j, j < n → p j = true) ∨ ∀ j, j < C → p j = true
  | 0 => .inr fun j hj => by omega
  | C + 1 => by
    rcases first_false p C with ⟨n, h1, h2, h3⟩ | h
    · exact .inl ⟨n, by omega, h2, h3⟩
    · by_cases hp : p C = true
      · right
        intro j hj
        by_cases e : j = C
        · rw [e]; exact hp
        · exact h j (by omega)
      · exact .inl ⟨C, by omega, by rwa [Bool.not_eq_true] at hp, h⟩

end Go.Proofs.Ytolgccbgmnlkbaa.R
