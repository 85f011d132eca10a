/- Rings of digits: what the functions answer that cut texts into codes and look for codes in texts. No conditions. -/
import Derived.Test.YtblccaaahicneaaO3
import Derived.Lib.IndexMore
import Derived.Test.YtblccaaahicneaaPx4
import Derived.Test.YtblccaaahicneaaPx39
import Derived.Test.YtblccaaahicneaaPx45
namespace Go.Proofs.Ytblccaaahicneaa.R
open Go.RowKit Go.Proofs.Ytblccaaahicneaa.P Go.Proofs.Ytblccaaahicneaa.B Go.Proofs.Ytblccaaahicneaa.C Go.Proofs.Ytblccaaahicneaa.L Go.Proofs.Ytblccaaahicneaa.A Go.Proofs.Ytblccaaahicneaa.O Go.Proofs.Ytblccaaahicneaa.O2 Go.Proofs.Ytblccaaahicneaa.O3 Go.Proofs.YtblccaaahicneaaW.PrintWords Go.Proofs.YtblccaaahicneaaW.PrintLast Go.Proofs.YtblccaaahicneaaW.PrintMore
set_option linter.unusedVariables false
set_option linter.unusedSimpArgs false

/-- A lock of rings. -/
def RK (W D : Int) : Prop := LK W D ∧ cnt W D ≤ 1000
instance (W D : Int) : Decidable (RK W D) := by unfold RK; infer_instance
theorem isRounded_ev (W D : Int) : Ev (fun k => impl_isRounded.f k W D) (decide (RK W D)) := by
  unfold impl_isRounded.f
  exact Ev.bind (isSmall_ev W D 1000) (Ev.now _)
theorem riGood_ev (W D : Int) : Ev (fun k => spec_riGood.f k W D) (decide (RK W D)) := by
  unfold spec_riGood.f
  simp only [whGood_eq, Option.bind_some]
  by_cases h : LK W D
  · simp only [decide_eq_true h, if_true]
    rw [show decide (RK W D) = decide (cnt W D ≤ 1000) by rw [decide_eq_decide]; simp [RK, h]]
    exact Ev.bind (whCount_ev h) (Ev.now _)
  · rw [show decide (RK W D) = false by rw [decide_eq_false_iff_not]; simp [RK, h]]
    simp only [decide_eq_false h, Bool.false_eq_true, if_false]
    exact Ev.now _
theorem riText_eq {W D : Int} (hD : 2 ≤ D ∧ D ≤ 10) (s : ByteArray) : spec_riText.f W D s = some (isT D s) := by
  unfold spec_riText.f
  rw [if_pos hD]; rfl

/-! ### The codes that are met -/
def wins (w : Nat) (s : ByteArray) : List ByteArray := (List.range (s.size + 1 - w)).map fun k => s.extract k (k + w)
theorem wins_len (w : Nat) (s : ByteArray) : (wins w s).length = s.size + 1 - w := by simp [wins]
theorem win_data (s : ByteArray) (k w : Nat) : (s.extract k (k + w)).data.toList = (s.data.toList.drop k).take w := by
  rw [ByteArray.data_extract, Array.toList_extract, List.extract_eq_take_drop, Nat.add_sub_cancel_left]
theorem win_size (s : ByteArray) (k w : Nat) (h : k + w ≤ s.size) : (s.extract k (k + w)).size = w := by
  rw [size_len, win_data, List.length_take, List.length_drop, ← size_len]; omega
theorem win_isT {D : Int} {s : ByteArray} (h : isT D s = true) (k w : Nat) : isT D (s.extract k (k + w)) = true := by
  unfold isT at h ⊢
  rw [List.all_eq_true] at h ⊢
  intro b hb
  rw [win_data] at hb
  exact h b (List.mem_of_mem_drop (List.mem_of_mem_take hb))
theorem wins_get (w : Nat) (s : ByteArray) (k : Nat) (h : k < (wins w s).length) : (wins w s)[k] = s.extract k (k + w) := by simp [wins]
theorem wins_isC {W D : Int} (hW : 1 ≤ W) {s : ByteArray} (h : isT D s = true) : ∀ c ∈ wins W.toNat s, isC W D c = true := by
  intro c hc
  unfold wins at hc
  obtain ⟨k, hk, rfl⟩ := List.mem_map.mp hc
  have hk' := List.mem_range.mp hk
  unfold isC
  rw [win_isT h, Bool.and_true, win_size _ _ _ (by omega)]
  exact decide_eq_true (by omega)

theorem byte_inj {s t : ByteArray} (h : s.data.toList = t.data.toList) : s = t := ByteArray.ext (Array.ext' h)
theorem win_occ {s c : ByteArray} {w k : Nat} (hc : c.size = w) (hk : k + w ≤ s.size) : s.extract k (k + w) = c ↔ Lib.occAt s.data.toList c.data.toList k = true := by
  unfold Lib.occAt
  rw [List.isPrefixOf_iff_prefix, List.prefix_iff_eq_take, ← size_len, hc, ← win_data]
  exact ⟨fun h => by rw [h], fun h => byte_inj h.symm⟩
theorem occ_room {s c : ByteArray} {k : Nat} (h : Lib.occAt s.data.toList c.data.toList k = true) (hc : 0 < c.size) : k + c.size ≤ s.size := by
  unfold Lib.occAt at h
  rw [List.isPrefixOf_iff_prefix] at h
  have := h.length_le
  rw [List.length_drop, ← size_len, ← size_len] at this
  omega

theorem riCodes_ev {W D : Int} (hW : 1 ≤ W ∧ W ≤ 6) (s : ByteArray) (hs : s.size ≤ 1000000) : Ev (fun k => spec_riCodes.j1 k s W D) (wins W.toNat s) := by
  refine Ev.succ ?_
  simp only [spec_riCodes.j1]
  have key : ∀ m j : Nat, s.size + 1 - W.toNat - j = m → j ≤ s.size + 1 - W.toNat → Ev (fun k => spec_riCodes.l1 k s ((wins W.toNat s).take j) (j : Int) W D) (wins W.toNat s) := by
    intro m
    induction m with
    | zero =>
      intro j hm hj
      refine Ev.succ ?_
      simp only [spec_riCodes.l1, w64 (x := (j : Int) + W) (by omega) (by omega), if_neg (show ¬ (j : Int) + W ≤ (s.size : Int) by omega)]
      rw [List.take_of_length_le (by rw [wins_len]; omega)]
      exact Ev.now _
    | succ m ih =>
      intro j hm hj
      have hl : j < (wins W.toNat s).length := by rw [wins_len]; omega
      have ht : ((wins W.toNat s).take j).length = j := by rw [List.length_take]; omega
      refine Ev.succ ?_
      simp only [spec_riCodes.l1, w64 (x := (j : Int) + W) (by omega) (by omega), if_pos (show (j : Int) + W ≤ (s.size : Int) by omega), if_pos (show (0 : Int) ≤ (j : Int) by omega), if_pos (show (j : Int) ≤ (j : Int) + W by omega), ht, if_pos (show j < 8796093022208 by omega), w64 (x := (j : Int) + 1) (by omega) (by omega)]
      have := ih (j + 1) (by omega) (by omega)
      rw [List.take_succ_eq_append_getElem hl, wins_get] at this
      rw [show ((j : Int) + W).toNat = j + W.toNat by omega]
      exact this
  exact key _ 0 rfl (by omega)
theorem riCodesOpen_ev {W D : Int} (hW : 1 ≤ W ∧ W ≤ 6) (s : ByteArray) (hs : s.size ≤ 1000000) : Ev (fun k => spec_riCodes.f k W D s false) (wins W.toNat s) := by
  unfold spec_riCodes.f
  simp only [Bool.false_eq_true, if_false]
  exact riCodes_ev hW s hs

/-- The first one that is not so. -/
theorem first_false (p : Nat → Bool) : ∀ C : Nat, (∃ n, n < C ∧ p n = false ∧ ∀ j, j < n → p j = true) ∨ ∀ j, j < C → p j = true
  | 0 => .inr fun j hj => by omega
  | C + 1 => by
    rcases first_false p C with ⟨n, h1, h2, h3⟩ | h
    · exact .inl ⟨n, by omega, h2, h3⟩
    · by_cases hp : p C = true
      · right
        intro j hj
        by_cases e : j = C
        · rw [e]; exact hp
        · exact h j (by omega)
      · exact .inl ⟨C, by omega, by rwa [Bool.not_eq_true] at hp, h⟩

end Go.Proofs.Ytblccaaahicneaa.R
