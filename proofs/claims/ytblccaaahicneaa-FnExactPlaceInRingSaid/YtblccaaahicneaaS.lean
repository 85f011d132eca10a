/- Lists of texts put in order, each once: how many they are. No conditions. -/
import Derived.Test.YtblccaaahicneaaRS
import Derived.Test.YtblccaaahicneaaPx38
import Derived.Test.YtblccaaahicneaaPx39
import Derived.Test.YtblccaaahicneaaPx41
import Derived.Test.YtblccaaahicneaaPx74
import Derived.Test.YtblccaaahicneaaPx97
namespace Go.Proofs.Ytblccaaahicneaa.S
open Go.RowKit Go.Proofs.Ytblccaaahicneaa.P Go.Proofs.Ytblccaaahicneaa.B Go.Proofs.Ytblccaaahicneaa.C Go.Proofs.Ytblccaaahicneaa.L Go.Proofs.Ytblccaaahicneaa.A Go.Proofs.Ytblccaaahicneaa.O Go.Proofs.Ytblccaaahicneaa.O2 Go.Proofs.Ytblccaaahicneaa.O3 Go.Proofs.Ytblccaaahicneaa.R Go.Proofs.Ytblccaaahicneaa.RS Go.Proofs.YtblccaaahicneaaW.PrintWords Go.Proofs.YtblccaaahicneaaW.PrintLast Go.Proofs.YtblccaaahicneaaW.PrintMore
set_option linter.unusedVariables false
set_option linter.unusedSimpArgs false

/-! ### Rows with each element once -/
theorem comp_mem (zs : List (List UInt8)) (x : List UInt8) : ∀ m, (x ∈ Lib.compactUpTo zs.toArray m ↔ ∃ j, j < m ∧ zs.toArray[j]! = x)
  | 0 => by
    constructor
    · intro h; simp [Lib.compactUpTo] at h
    · rintro ⟨j, hj, _⟩; omega
  | m + 1 => by
    rw [Lib.compactUpTo_succ, List.mem_append, comp_mem zs x m]
    constructor
    · rintro (⟨j, hj, e⟩ | h)
      · exact ⟨j, by omega, e⟩
      · by_cases hk : Lib.keeps zs.toArray m = true
        · rw [if_pos hk, List.mem_singleton] at h
          exact ⟨m, by omega, h.symm⟩
        · rw [if_neg hk] at h; cases h
    · rintro ⟨j, hj, e⟩
      by_cases hm : j = m
      · subst hm
        by_cases hk : Lib.keeps zs.toArray j = true
        · right; rw [if_pos hk, List.mem_singleton]; exact e.symm
        · left
          unfold Lib.keeps at hk
          rw [decide_eq_true_eq] at hk
          refine ⟨j - 1, by omega, ?_⟩
          by_cases q : zs.toArray[j]! = zs.toArray[j - 1]!
          · rw [← q]; exact e
          · exact absurd (Or.inr q) hk
      · exact .inl ⟨j, by omega, e⟩

theorem asc {zs : List (List UInt8)} (h : zs.Pairwise (· ≤ ·)) {i j : Nat} (hij : i ≤ j) (hj : j < zs.length) : zs.toArray[i]! ≤ zs.toArray[j]! := by
  have hi : i < zs.length := by omega
  have e : ∀ k, k < zs.length → zs.toArray[k]! = zs.getD k default := by
    intro k hk
    simp [hk]
  rw [e i hi, e j hj, List.getD_eq_getElem?_getD, List.getD_eq_getElem?_getD, List.getElem?_eq_getElem hi, List.getElem?_eq_getElem hj]
  by_cases q : i = j
  · subst q; exact List.le_refl _
  · exact List.pairwise_iff_getElem.mp h i j hi hj (by omega)

theorem comp_nodup {zs : List (List UInt8)} (h : zs.Pairwise (· ≤ ·)) : ∀ m, m ≤ zs.length → (Lib.compactUpTo zs.toArray m).Nodup
  | 0, _ => by simp [Lib.compactUpTo]
  | m + 1, hm => by
    rw [Lib.compactUpTo_succ]
    by_cases hk : Lib.keeps zs.toArray m = true
    · rw [if_pos hk]
      rw [List.nodup_append]
      refine ⟨comp_nodup h m (by omega), by simp, ?_⟩
      intro a ha b hb e
      rw [List.mem_singleton] at hb
      subst hb
      obtain ⟨j, hj, q⟩ := (comp_mem zs a m).mp ha
      unfold Lib.keeps at hk
      rw [decide_eq_true_eq] at hk
      rcases hk with hk | hk
      · omega
      · have h1 := asc h (show j ≤ m - 1 by omega) (by omega)
        have h2 := asc h (show m - 1 ≤ m by omega) (by omega)
        rw [q, e] at h1
        exact hk (List.le_antisymm h1 h2)
    · rw [if_neg hk, List.append_nil]
      exact comp_nodup h m (by omega)

theorem bs_sorted (l : List ByteArray) : (impl_sorted.bs l).Pairwise (· ≤ ·) := by
  unfold impl_sorted.bs
  have := List.pairwise_mergeSort (le := fun x y : List UInt8 => decide (x ≤ y)) (fun a b c h1 h2 => by
    rw [decide_eq_true_eq] at *
    exact List.le_trans h1 h2) (fun a b => by
    rw [Bool.or_eq_true, decide_eq_true_eq, decide_eq_true_eq]
    exact List.le_total a b) (l.map fun s => s.data.toList)
  exact this.imp fun h => of_decide_eq_true h

theorem val_mem (l : List ByteArray) (s : ByteArray) : s ∈ impl_sorted.val l ↔ s ∈ l := by
  unfold impl_sorted.val Lib.compact
  rw [List.mem_map]
  have key : ∀ x : List UInt8, x ∈ Lib.compactUpTo (impl_sorted.bs l).toArray (impl_sorted.bs l).length ↔ x ∈ l.map fun s => s.data.toList := by
    intro x
    rw [comp_mem]
    have : (x ∈ l.map fun s => s.data.toList) ↔ x ∈ impl_sorted.bs l := by unfold impl_sorted.bs; rw [List.mem_mergeSort]
    rw [this, List.mem_iff_getElem]
    constructor
    · rintro ⟨j, hj, e⟩
      refine ⟨j, hj, ?_⟩
      rw [← e]; simp [hj]
    · rintro ⟨j, hj, e⟩
      refine ⟨j, hj, ?_⟩
      rw [← e]; simp [hj]
  constructor
  · rintro ⟨b, hb, rfl⟩
    obtain ⟨t, ht, e⟩ := List.mem_map.mp ((key b).mp hb)
    rw [← e]
    exact ht
  · intro hs
    exact ⟨s.data.toList, (key _).mpr (List.mem_map.mpr ⟨s, hs, rfl⟩), by rfl⟩
theorem val_nodup (l : List ByteArray) : (impl_sorted.val l).Nodup := by
  unfold impl_sorted.val Lib.compact
  refine List.Pairwise.map _ ?_ (comp_nodup (bs_sorted l) _ (Nat.le_refl _))
  intro a b hne e
  apply hne
  have := congrArg (fun s : ByteArray => s.data.toList) e
  exact this

/-! ### How many -/
theorem nodup_map {α β : Type} (f : α → β) : ∀ l : List α, l.Nodup → (∀ a ∈ l, ∀ b ∈ l, f a = f b → a = b) → (l.map f).Nodup
  | [], _, _ => by simp
  | x :: xs, h, hi => by
    rw [List.nodup_cons] at h
    rw [List.map_cons, List.nodup_cons]
    refine ⟨?_, nodup_map f xs h.2 fun a ha b hb => hi a (List.mem_cons_of_mem _ ha) b (List.mem_cons_of_mem _ hb)⟩
    intro hm
    obtain ⟨y, hy, e⟩ := List.mem_map.mp hm
    have := hi y (List.mem_cons_of_mem _ hy) x (List.mem_cons_self ..) e
    exact h.1 (this ▸ hy)
theorem range_filter (ns : List Int) (C : Nat) : ((tabl ns C).filter id).length = ((List.range C).filter fun n : Nat => decide ((n : Int) ∈ ns)).length := by
  unfold tabl
  rw [List.filter_map, List.length_map]
  rfl
theorem sorted_count {W D : Int} (h : LK W D) (l : List ByteArray) (hc : ∀ c ∈ l, isC W D c = true) : (impl_sorted.val l).length = ((tabl (l.map (nu D)) (cnt W D).toNat).filter id).length := by
  rw [range_filter]
  have a1 : (impl_sorted.val l).length = ((impl_sorted.val l).map (nu D)).length := by rw [List.length_map]
  have a2 : ((List.range (cnt W D).toNat).filter fun n : Nat => decide ((n : Int) ∈ l.map (nu D))).length = (((List.range (cnt W D).toNat).filter fun n : Nat => decide ((n : Int) ∈ l.map (nu D))).map fun n : Nat => (n : Int)).length := by rw [List.length_map]
  rw [a1, a2]
  refine List.Perm.length_eq ((List.perm_ext_iff_of_nodup ?_ ?_).mpr ?_)
  · exact nodup_map _ _ (val_nodup l) fun a ha b hb e => nu_inj h (hc a ((val_mem l a).mp ha)) (hc b ((val_mem l b).mp hb)) e
  · exact nodup_map _ _ (List.Pairwise.filter _ List.nodup_range) fun a _ b _ e => by omega
  · intro n
    rw [List.mem_map, List.mem_map]
    constructor
    · rintro ⟨s, hs, rfl⟩
      have hs' := (val_mem l s).mp hs
      have b := nu_bd h (hc s hs')
      refine ⟨(nu D s).toNat, List.mem_filter.mpr ⟨List.mem_range.mpr (by omega), ?_⟩, by omega⟩
      rw [decide_eq_true_eq, show (((nu D s).toNat : Nat) : Int) = nu D s by omega]
      exact List.mem_map.mpr ⟨s, hs', rfl⟩
    · rintro ⟨m, hm, rfl⟩
      obtain ⟨h1, h2⟩ := List.mem_filter.mp hm
      rw [decide_eq_true_eq] at h2
      obtain ⟨s, hs, e⟩ := List.mem_map.mp h2
      exact ⟨s, (val_mem l s).mpr hs, e⟩

/-! ### The codes met, by the program -/
theorem met_ev {W D : Int} (hW : 1 ≤ W ∧ W ≤ 6) (s : ByteArray) (hs : s.size ≤ 1000000) : Ev (fun k => impl_Lock_met.f k W D s) (wins W.toNat s) := by
  unfold impl_Lock_met.f
  have key : ∀ m j : Nat, s.size + 1 - W.toNat - j = m → j ≤ s.size + 1 - W.toNat → Ev (fun k => impl_Lock_met.l0 k s ((wins W.toNat s).take j) (j : Int) W D) (wins W.toNat s) := by
    intro m
    induction m with
    | zero =>
      intro j hm hj
      refine Ev.succ ?_
      simp only [impl_Lock_met.l0, w64 (x := (j : Int) + W) (by omega) (by omega), if_neg (show ¬ (j : Int) + W ≤ (s.size : Int) by omega)]
      rw [List.take_of_length_le (by rw [wins_len]; omega)]
      exact Ev.now _
    | succ m ih =>
      intro j hm hj
      have hl : j < (wins W.toNat s).length := by rw [wins_len]; omega
      have ht : ((wins W.toNat s).take j).length = j := by rw [List.length_take]; omega
      refine Ev.succ ?_
      simp only [impl_Lock_met.l0, w64 (x := (j : Int) + W) (by omega) (by omega), if_pos (show (j : Int) + W ≤ (s.size : Int) by omega), if_pos (show (0 : Int) ≤ (j : Int) by omega), if_pos (show (j : Int) ≤ (j : Int) + W by omega), ht, if_pos (show j < 8796093022208 by omega), w64 (x := (j : Int) + 1) (by omega) (by omega)]
      have := ih (j + 1) (by omega) (by omega)
      rw [List.take_succ_eq_append_getElem hl, wins_get] at this
      rw [show ((j : Int) + W).toNat = j + W.toNat by omega]
      exact this
  exact key _ 0 rfl (by omega)

/-! ### Around -/
def arnd (w : Nat) (s : ByteArray) : ByteArray := s ++ s.extract 0 (w - 1)
theorem arnd_isT {D : Int} {s : ByteArray} (h : isT D s = true) (w : Nat) : isT D (arnd w s) = true := by
  unfold arnd
  unfold isT at h ⊢
  rw [List.all_eq_true] at h ⊢
  intro b hb
  rw [ByteArray.data_append, Array.toList_append, List.mem_append] at hb
  rcases hb with hb | hb
  · exact h b hb
  · rw [ByteArray.data_extract, Array.toList_extract, List.extract_eq_take_drop] at hb
    exact h b (List.mem_of_mem_drop (List.mem_of_mem_take hb))
theorem arnd_size {s : ByteArray} {w : Nat} (h : w - 1 ≤ s.size) : (arnd w s).size = s.size + (w - 1) := by
  unfold arnd; rw [ByteArray.size_append, ByteArray.size_extract]; omega
theorem big {W D : Int} (h : LK W D) : W ≤ cnt W D := by
  have := for_good (p := fun W D => decide (W ≤ cnt W D)) (by decide +kernel) h
  exact of_decide_eq_true this
theorem rounded_ev {W D : Int} (h : LK W D) (s : ByteArray) (hs : s.size ≤ 2000) (hl : W ≤ s.size) : Ev (fun k => impl_Lock_rounded.f k W D s) (wins W.toNat (arnd W.toNat s)) := by
  have h' := h
  obtain ⟨h1, h2, _⟩ := h'
  unfold impl_Lock_rounded.f
  have e : (wrap64 (W - 1)).toNat = W.toNat - 1 := by rw [w64 (by omega) (by omega)]; omega
  have az := arnd_size (s := s) (w := W.toNat) (by omega)
  have ez : (s.extract 0 (W.toNat - 1)).size = W.toNat - 1 := by rw [ByteArray.size_extract]; omega
  rw [e, w64 (by omega) (by omega)]
  simp only [if_pos (show 0 ≤ W - 1 by omega), if_pos (show W - 1 ≤ (s.size : Int) by omega), ez, if_pos (show s.size + (W.toNat - 1) ≤ 9223372036854775807 by omega)]
  exact Ev.bind (met_ev ⟨h1, h2⟩ (arnd W.toNat s) (by omega)) (Ev.now _)
theorem riCodesAround_ev {W D : Int} (h : LK W D) (s : ByteArray) (hs : s.size ≤ 2000) (hl : W ≤ s.size) : Ev (fun k => spec_riCodes.f k W D s true) (wins W.toNat (arnd W.toNat s)) := by
  have h' := h
  obtain ⟨h1, h2, _⟩ := h'
  unfold spec_riCodes.f
  have az := arnd_size (s := s) (w := W.toNat) (by omega)
  have ez : (s.extract 0 (W.toNat - 1)).size = W.toNat - 1 := by rw [ByteArray.size_extract]; omega
  simp only [if_true]
  have fin : Ev (fun k => spec_riCodes.l0 k (arnd W.toNat s) (s.size : Int) W D) (wins W.toNat (arnd W.toNat s)) := by
    refine Ev.succ ?_
    simp only [spec_riCodes.l0, w64 (x := (s.size : Int) + W) (by omega) (by omega), w64 (x := (s.size : Int) + W - 1) (by omega) (by omega), az]
    simp only [if_neg (show ¬ ((s.size + (W.toNat - 1) : Nat) : Int) < (s.size : Int) + W - 1 by omega)]
    exact riCodes_ev ⟨h1, h2⟩ _ (by omega)
  by_cases hw : W = 1
  · subst hw
    have : arnd (1 : Int).toNat s = s := by
      unfold arnd
      apply byte_inj
      simp [ByteArray.data_append, ByteArray.data_extract]
    rw [this] at fin ⊢
    exact fin
  · refine Ev.succ ?_
    simp only [spec_riCodes.l0, w64 (x := (s.size : Int) + W) (by omega) (by omega), w64 (x := (s.size : Int) + W - 1) (by omega) (by omega)]
    have l1 : spec_l1Least.f (s.size : Int) (W - 1) = some (W - 1) := by
      unfold spec_l1Least.f
      by_cases q : (s.size : Int) < W - 1
      · omega
      · rw [if_neg q]
    simp only [if_pos (show (s.size : Int) < (s.size : Int) + W - 1 by omega), show (s.size : Int) + W - 1 - (s.size : Int) = W - 1 by omega, w64 (x := W - 1) (by omega) (by omega), l1, Option.bind_some, if_pos (show 0 ≤ W - 1 by omega), if_pos (show W - 1 ≤ (s.size : Int) by omega), show (W - 1).toNat = W.toNat - 1 by omega, ez, if_pos (show s.size + (W.toNat - 1) ≤ 9223372036854775807 by omega)]
    exact fin

/-! ### CountOpened -/
theorem count_loop (t : List Bool) (hl : t.length ≤ 2000000) : Ev (fun k => spec_CountOpened.l0 k 0 t (t.length : Int) 0) (((t.filter id).length : Int), true) := by
  refine ev_loop (g := fun j k => spec_CountOpened.l0 k (((t.take j).filter id).length : Int) t (t.length : Int) (j : Int)) t.length ?_ ?_
  · intro j hj ih
    have e : rdOf false t (j : Int) = t[j] := by unfold rdOf; rw [Int.toNat_natCast, List.getD_eq_getElem?_getD, List.getElem?_eq_getElem hj]; rfl
    have b : ((t.take j).filter id).length ≤ j := Nat.le_trans (List.length_filter_le _ _) (by rw [List.length_take]; omega)
    refine Ev.succ ?_
    simp only [spec_CountOpened.l0, if_pos (show (j : Int) < (t.length : Int) by omega), if_pos (show (0 : Int) ≤ (j : Int) by omega), e, w64 (x := (j : Int) + 1) (by omega) (by omega)]
    rw [List.take_succ_eq_append_getElem hj, List.filter_append, List.length_append] at ih
    by_cases q : t[j] = true
    · simp only [q, if_true, w64 (x := (((t.take j).filter id).length : Int) + 1) (by omega) (by omega)]
      simp only [q, List.filter_cons, id, if_true, List.filter_nil, List.length_cons, List.length_nil] at ih
      exact ih
    · rw [Bool.not_eq_true] at q
      simp only [q, Bool.false_eq_true, if_false]
      simp only [q, List.filter_cons, id, Bool.false_eq_true, if_false, List.filter_nil, List.length_nil] at ih
      exact ih
  · refine Ev.succ ?_
    simp only [spec_CountOpened.l0, if_neg (show ¬ ((t.length : Nat) : Int) < (t.length : Int) by omega)]
    rw [List.take_of_length_le (Nat.le_refl _)]
    exact Ev.now _

end Go.Proofs.Ytblccaaahicneaa.S
