/- Which codes are in a list of codes: what the reference's table of them is. No conditions. -/
import Derived.Test.YtblccaaahicneaaR
import Derived.Test.YtblccaaahicneaaPx63
namespace Go.Proofs.Ytblccaaahicneaa.RS
open Go.RowKit Go.Proofs.Ytblccaaahicneaa.P Go.Proofs.Ytblccaaahicneaa.B Go.Proofs.Ytblccaaahicneaa.C Go.Proofs.Ytblccaaahicneaa.L Go.Proofs.Ytblccaaahicneaa.A Go.Proofs.Ytblccaaahicneaa.O Go.Proofs.Ytblccaaahicneaa.O2 Go.Proofs.Ytblccaaahicneaa.O3 Go.Proofs.Ytblccaaahicneaa.R Go.Proofs.YtblccaaahicneaaW.PrintWords Go.Proofs.YtblccaaahicneaaW.PrintLast Go.Proofs.YtblccaaahicneaaW.PrintMore
set_option linter.unusedVariables false
set_option linter.unusedSimpArgs false

theorem whNumber_ev (W : Int) {D : Int} (hD : 2 ≤ D ∧ D ≤ 10) (s : ByteArray) (hs : s.size ≤ 15) (h : isT D s = true) : Ev (fun k => spec_whNumber.f k W D s) (num D (digs s)) := by
  unfold spec_whNumber.f
  refine Ev.bind (whDigits_ev s (by omega)) ?_
  have hd := digs_isD hD h (W := W)
  have hl : (digs s).length ≤ 15 := by rw [digs_len]; exact hs
  generalize digs s = d at *
  refine ev_loop (g := fun j k => spec_whNumber.l0 k (num D (d.take j)) d (d.length : Int) (j : Int) W D) d.length ?_ ?_
  · intro j hj ih
    have b := num_small hD (IsD.take hd j) (by rw [List.length_take]; omega)
    have x := IsD.get hd hj
    have hm : num D (d.take j) * D ≤ num D (d.take j) * 10 := Int.mul_le_mul_of_nonneg_left hD.2 b.1
    have hm0 : 0 ≤ num D (d.take j) * D := Int.mul_nonneg b.1 (by omega)
    refine Ev.succ ?_
    simp only [spec_whNumber.l0, if_pos (show (j : Int) < (d.length : Int) by omega), if_pos (show (0 : Int) ≤ (j : Int) by omega), rd_get d j hj, w64 (x := num D (d.take j) * D) (by omega) (by omega), w64 (x := num D (d.take j) * D + d[j]) (by omega) (by omega), w64 (x := (j : Int) + 1) (by omega) (by omega)]
    rw [List.take_succ_eq_append_getElem hj, num_snoc] at ih
    exact ih
  · refine Ev.succ ?_
    simp only [spec_whNumber.l0, if_neg (show ¬ ((d.length : Nat) : Int) < (d.length : Int) by omega)]
    rw [List.take_of_length_le (Nat.le_refl _)]
    exact Ev.now _

/-- The number of a code. -/
def nu (D : Int) (s : ByteArray) : Int := num D (digs s)
theorem nu_bd {W D : Int} (h : LK W D) {s : ByteArray} (hc : isC W D s = true) : 0 ≤ nu D s ∧ nu D s < cnt W D := by
  obtain ⟨h1, h2, h3⟩ := codeOf h hc
  have := num_bd (show 0 < D by have := LK.d h; omega) _ h2
  rw [h1] at this
  unfold nu cnt
  omega
theorem nu_cod {W D : Int} (h : LK W D) {s : ByteArray} (hc : isC W D s = true) : s = txt (cod D W.toNat (nu D s)) := by
  obtain ⟨h1, h2, h3⟩ := codeOf h hc
  unfold nu
  rw [← h1, cod_num (show 0 < D by have := LK.d h; omega) _ h2, h3]
theorem nu_txt {W D : Int} (h : LK W D) {n : Int} (h0 : 0 ≤ n) (h1 : n < cnt W D) : nu D (txt (cod D W.toNat n)) = n := by
  have hD := LK.d h
  have hD0 : 0 < D := by omega
  unfold nu
  rw [digs_txt (IsD.mono (cod_isD hD0 _ _) hD.2), num_cod hD0]
  exact Int.emod_eq_of_lt h0 h1
theorem cod_isC {W D : Int} (h : LK W D) (n : Int) : isC W D (txt (cod D W.toNat n)) = true := by
  have hD := LK.d h
  obtain ⟨hw, _⟩ := LK.w h
  unfold isC
  rw [txt_isT hD (cod_isD (by omega) _ _), txt_size, cod_len, Bool.and_true]
  exact decide_eq_true hw
theorem nu_inj {W D : Int} (h : LK W D) {s t : ByteArray} (hs : isC W D s = true) (ht : isC W D t = true) (e : nu D s = nu D t) : s = t := by
  rw [nu_cod h hs, nu_cod h ht, e]

/-! ### The table -/
def tabl (ns : List Int) (C : Nat) : List Bool := (List.range C).map fun n : Nat => decide ((n : Int) ∈ ns)
theorem tabl_len (ns : List Int) (C : Nat) : (tabl ns C).length = C := by simp [tabl]
theorem tabl_set (ns : List Int) (C : Nat) (m : Int) (h0 : 0 ≤ m) (h1 : m < (C : Int)) : (tabl ns C).set m.toNat true = tabl (ns ++ [m]) C := by
  apply List.ext_getElem
  · simp [tabl]
  · intro i hi hi'
    rw [List.length_set, tabl_len] at hi
    rw [List.getElem_set]
    by_cases e : m.toNat = i
    · rw [if_pos e]
      simp only [tabl, List.getElem_map, List.getElem_range]
      symm
      refine decide_eq_true (List.mem_append_right _ ?_)
      rw [List.mem_singleton]; omega
    · rw [if_neg e]
      simp only [tabl, List.getElem_map, List.getElem_range]
      rw [decide_eq_decide, List.mem_append, List.mem_singleton]
      constructor
      · exact fun h => .inl h
      · rintro (h | h)
        · exact h
        · omega
theorem tabl_get (ns : List Int) (C : Nat) {n : Nat} (h : n < C) : (tabl ns C).getD n false = decide ((n : Int) ∈ ns) := by
  rw [List.getD_eq_getElem?_getD, List.getElem?_eq_getElem (by rw [tabl_len]; exact h)]
  simp [tabl]

theorem riSeen_ev {W D : Int} (h : LK W D) (l : List ByteArray) (hl : l.length ≤ 1000000) (hc : ∀ c ∈ l, isC W D c = true) :
    Ev (fun k => spec_riSeen.f k W D l) (tabl (l.map (nu D)) (cnt W D).toNat) := by
  have cb := cnt_bd h
  obtain ⟨hw, hw6, hw0⟩ := LK.w h
  unfold spec_riSeen.f
  refine Ev.bind (whCount_ev h) ?_
  simp only [if_pos (show 0 ≤ cnt W D by omega), if_pos (show (cnt W D).toNat ≤ 281474976710656 by omega)]
  have e0 : List.replicate (cnt W D).toNat false = tabl ((l.map (nu D)).take 0) (cnt W D).toNat := by
    apply List.ext_getElem
    · simp [tabl]
    · intro i hi hi'; simp [tabl]
  rw [e0]
  refine ev_loop (g := fun j k => spec_riSeen.l0 k (tabl ((l.map (nu D)).take j) (cnt W D).toNat) l (l.length : Int) (j : Int) W D) l.length ?_ ?_
  · intro j hj ih
    have hcj := hc _ (List.getElem_mem hj)
    have z := isC_size hcj
    have b := nu_bd h hcj
    have e : rdOf ByteArray.empty l (j : Int) = l[j] := by unfold rdOf; rw [Int.toNat_natCast, List.getD_eq_getElem?_getD, List.getElem?_eq_getElem hj]; rfl
    refine Ev.succ ?_
    simp only [spec_riSeen.l0, if_pos (show (j : Int) < (l.length : Int) by omega), if_pos (show (0 : Int) ≤ (j : Int) by omega), e, tabl_len, w64 (x := (j : Int) + 1) (by omega) (by omega)]
    refine Ev.bind (whNumber_ev W (LK.d h) l[j] (by omega) (isC_isT hcj)) ?_
    have b' : 0 ≤ num D (digs l[j]) ∧ num D (digs l[j]) < cnt W D := b
    simp only [if_pos b'.1, if_pos (show num D (digs l[j]) < (((cnt W D).toNat : Nat) : Int) by omega)]
    rw [tabl_set _ _ _ b'.1 (by omega)]
    rw [List.take_succ_eq_append_getElem (by rw [List.length_map]; exact hj), List.getElem_map] at ih
    exact ih
  · refine Ev.succ ?_
    simp only [spec_riSeen.l0, if_neg (show ¬ ((l.length : Nat) : Int) < (l.length : Int) by omega)]
    rw [List.take_of_length_le (by rw [List.length_map]; exact Nat.le_refl _)]
    exact Ev.now _

end Go.Proofs.Ytblccaaahicneaa.RS
