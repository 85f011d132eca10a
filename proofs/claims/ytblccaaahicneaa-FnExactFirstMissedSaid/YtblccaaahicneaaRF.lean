/- The first code that a text does not open: what both functions answer. No conditions. -/
import Derived.Test.YtblccaaahicneaaRS
import Derived.Test.YtblccaaahicneaaRO
import Derived.Test.YtblccaaahicneaaPx1
import Derived.Test.YtblccaaahicneaaPx39
import Derived.Test.YtblccaaahicneaaPx46
import Derived.Test.YtblccaaahicneaaPx50
import Derived.Test.YtblccaaahicneaaPx64
import Derived.Test.YtblccaaahicneaaPx66
import Derived.Test.YtblccaaahicneaaPx68
import Derived.Test.YtblccaaahicneaaPx69
namespace Go.Proofs.Ytblccaaahicneaa.RF
open Go.RowKit Go.Proofs.Ytblccaaahicneaa.P Go.Proofs.Ytblccaaahicneaa.B Go.Proofs.Ytblccaaahicneaa.C Go.Proofs.Ytblccaaahicneaa.L Go.Proofs.Ytblccaaahicneaa.A Go.Proofs.Ytblccaaahicneaa.O Go.Proofs.Ytblccaaahicneaa.O2 Go.Proofs.Ytblccaaahicneaa.O3 Go.Proofs.Ytblccaaahicneaa.R Go.Proofs.Ytblccaaahicneaa.RS Go.Proofs.Ytblccaaahicneaa.RO Go.Proofs.YtblccaaahicneaaW.PrintWords Go.Proofs.YtblccaaahicneaaW.PrintLast Go.Proofs.YtblccaaahicneaaW.PrintMore
set_option linter.unusedVariables false
set_option linter.unusedSimpArgs false

/-- Is the code with a number met in a text? -/
def has_ (W D : Int) (s : ByteArray) (n : Nat) : Bool := Lib.contains s.data.toList (txt (cod D W.toNat n)).data.toList

theorem has_iff {W D : Int} (h : LK W D) {s : ByteArray} (hT : isT D s = true) {n : Nat} (hn : (n : Int) < cnt W D) : has_ W D s n = true ↔ (n : Int) ∈ (wins W.toNat s).map (nu D) := by
  obtain ⟨hw, hw6, hw0⟩ := LK.w h
  have hcs : (txt (cod D W.toNat n)).size = W.toNat := by rw [txt_size, cod_len]
  unfold has_ Lib.contains
  rw [decide_eq_true_eq, List.mem_map]
  constructor
  · intro hi
    rcases Lib.index_spec s.data.toList (txt (cod D W.toNat n)).data.toList with ⟨e, hno⟩ | ⟨i, e, hi', ho, hno⟩
    · omega
    · have room := occ_room ho (by omega)
      have eq := (win_occ hcs (by omega)).mpr ho
      refine ⟨s.extract i (i + W.toNat), ?_, ?_⟩
      · unfold wins; exact List.mem_map.mpr ⟨i, List.mem_range.mpr (by omega), rfl⟩
      · rw [eq]; exact nu_txt h (by omega) hn
  · rintro ⟨c, hc, hn'⟩
    have hcC := wins_isC h.1 hT c hc
    obtain ⟨k, hk, rfl⟩ := List.mem_map.mp hc
    have hk' := List.mem_range.mp hk
    have eq : s.extract k (k + W.toNat) = txt (cod D W.toNat n) := by rw [nu_cod h hcC, hn']
    have ho := (win_occ hcs (by omega)).mp eq
    rcases Lib.index_spec s.data.toList (txt (cod D W.toNat n)).data.toList with ⟨e, hno⟩ | ⟨i, e, hi', ho, hno⟩
    · have := hno k (by rw [← size_len]; omega)
      rw [ho] at this; exact absurd this (by simp)
    · omega

theorem missed_both (W D : Int) (s : ByteArray) (hs : s.size ≤ 140737488351232) : ∃ r, Ev (fun k => spec_FirstMissed.f k W D s) r ∧ Ev (fun k => impl_FirstMissed.f k W D s) r := by
  unfold spec_FirstMissed.f impl_FirstMissed.f
  by_cases h : opB W D s = true
  · have h' := opB_iff.mp h
    have lk := h'.1.1
    have cb := cnt_bd lk
    obtain ⟨hw, hw6, hw0⟩ := LK.w lk
    have hC := wins_isC lk.1 h'.2.2
    have hlen := wins_len W.toNat s
    have sp : ∀ r, Ev (fun k => spec_FirstMissed.l0 k (tabl ((wins W.toNat s).map (nu D)) (cnt W D).toNat) ((tabl ((wins W.toNat s).map (nu D)) (cnt W D).toNat).length : Int) 0 W D) r → Ev (fun k => (spec_riAsked.f k W D s).bind fun t309 => (if t309 = true then ((spec_riCodes.f k W D s false).bind fun t310 => ((spec_riSeen.f k W D t310).bind fun t313 => (spec_FirstMissed.l0 k t313 (t313.length : Int) 0 W D))) else (some ((⟨#[]⟩ : ByteArray), false)))) r := by
      intro r hr
      refine Ev.bind (riAsked_ev W D s) ?_
      simp only [h, if_true]
      exact Ev.bind (riCodesOpen_ev ⟨lk.1, lk.2.1⟩ s (by omega)) (Ev.bind (riSeen_ev lk _ (by omega) hC) hr)
    have im : ∀ r, Ev (fun k => impl_FirstMissed.l0 k s (cnt W D) 0 W D) r → Ev (fun k => (impl_isOpeningText.f k W D s).bind fun t325 => (if t325 = true then ((impl_Lock_count.f k W D).bind fun t326 => (impl_FirstMissed.l0 k s t326 0 W D)) else (some ((⟨#[]⟩ : ByteArray), false)))) r := by
      intro r hr
      refine Ev.bind (isOpening_ev W D s) ?_
      simp only [h, if_true]
      exact Ev.bind (count_ev lk) hr
    have rg : ∀ j, j < (cnt W D).toNat → rdOf false (tabl ((wins W.toNat s).map (nu D)) (cnt W D).toNat) (j : Int) = has_ W D s j := by
      intro j hj
      unfold rdOf
      rw [Int.toNat_natCast, tabl_get _ _ hj]
      by_cases g : has_ W D s j = true
      · rw [g]; exact decide_eq_true ((has_iff lk h'.2.2 (by omega)).mp g)
      · rw [Bool.not_eq_true] at g
        rw [g]; refine decide_eq_false fun q => ?_
        rw [(has_iff lk h'.2.2 (by omega)).mpr q] at g; exact absurd g (by simp)
    have ml := tabl_len ((wins W.toNat s).map (nu D)) (cnt W D).toNat
    have s1 : ∀ j, j < (cnt W D).toNat → has_ W D s j = true → ∀ r, Ev (fun k => spec_FirstMissed.l0 k (tabl ((wins W.toNat s).map (nu D)) (cnt W D).toNat) ((tabl ((wins W.toNat s).map (nu D)) (cnt W D).toNat).length : Int) ((j + 1 : Nat) : Int) W D) r → Ev (fun k => spec_FirstMissed.l0 k (tabl ((wins W.toNat s).map (nu D)) (cnt W D).toNat) ((tabl ((wins W.toNat s).map (nu D)) (cnt W D).toNat).length : Int) (j : Int) W D) r := by
      intro j hj hp r ih
      refine Ev.succ ?_
      simp only [spec_FirstMissed.l0, ml, if_pos (show (j : Int) < (((cnt W D).toNat : Nat) : Int) by omega), if_pos (show (0 : Int) ≤ (j : Int) by omega), rg j hj, hp, if_true, w64 (x := (j : Int) + 1) (by omega) (by omega)]
      rw [ml] at ih
      exact ih
    have i1 : ∀ j, j < (cnt W D).toNat → has_ W D s j = true → ∀ r, Ev (fun k => impl_FirstMissed.l0 k s (cnt W D) ((j + 1 : Nat) : Int) W D) r → Ev (fun k => impl_FirstMissed.l0 k s (cnt W D) (j : Int) W D) r := by
      intro j hj hp r ih
      refine Ev.succ ?_
      simp only [impl_FirstMissed.l0, if_pos (show (j : Int) < cnt W D by omega), w64 (x := (j : Int) + 1) (by omega) (by omega)]
      refine Ev.bind (code_ev lk (n := (j : Int)) (by omega) (by omega)) ?_
      have hp' : Lib.contains s.data.toList (txt (cod D W.toNat j)).data.toList = true := hp
      simp only [strings_Contains.f, if_pos (show s.size < 4294967281 by omega), Option.bind_some, hp', if_true]
      exact ih
    rcases first_false (has_ W D s) (cnt W D).toNat with ⟨n, hn, hp, hall⟩ | hall
    · refine ⟨(txt (cod D W.toNat n), true), sp _ ?_, im _ ?_⟩
      · refine ev_loop (g := fun j k => spec_FirstMissed.l0 k (tabl ((wins W.toNat s).map (nu D)) (cnt W D).toNat) ((tabl ((wins W.toNat s).map (nu D)) (cnt W D).toNat).length : Int) (j : Int) W D) n (fun j hj ih => s1 j (by omega) (hall j hj) _ ih) ?_
        refine Ev.succ ?_
        simp only [spec_FirstMissed.l0, ml, if_pos (show (n : Int) < (((cnt W D).toNat : Nat) : Int) by omega), if_pos (show (0 : Int) ≤ (n : Int) by omega), rg n hn, hp, Bool.false_eq_true, if_false]
        exact Ev.bind (whOf_ev lk (n := (n : Int)) (by omega) (by omega)) (Ev.now _)
      · refine ev_loop (g := fun j k => impl_FirstMissed.l0 k s (cnt W D) (j : Int) W D) n (fun j hj ih => i1 j (by omega) (hall j hj) _ ih) ?_
        refine Ev.succ ?_
        simp only [impl_FirstMissed.l0, if_pos (show (n : Int) < cnt W D by omega)]
        refine Ev.bind (code_ev lk (n := (n : Int)) (by omega) (by omega)) ?_
        have hp' : Lib.contains s.data.toList (txt (cod D W.toNat n)).data.toList = false := hp
        simp only [strings_Contains.f, if_pos (show s.size < 4294967281 by omega), Option.bind_some, hp', Bool.false_eq_true, if_false]
        exact Ev.now _
    · refine ⟨(⟨#[]⟩, false), sp _ ?_, im _ ?_⟩
      · refine ev_loop (g := fun j k => spec_FirstMissed.l0 k (tabl ((wins W.toNat s).map (nu D)) (cnt W D).toNat) ((tabl ((wins W.toNat s).map (nu D)) (cnt W D).toNat).length : Int) (j : Int) W D) (cnt W D).toNat (fun j hj ih => s1 j hj (hall j hj) _ ih) ?_
        refine Ev.succ ?_
        simp only [spec_FirstMissed.l0, ml, if_neg (show ¬ (((cnt W D).toNat : Nat) : Int) < (((cnt W D).toNat : Nat) : Int) by omega)]
        exact Ev.now _
      · refine ev_loop (g := fun j k => impl_FirstMissed.l0 k s (cnt W D) (j : Int) W D) (cnt W D).toNat (fun j hj ih => i1 j hj (hall j hj) _ ih) ?_
        refine Ev.succ ?_
        simp only [impl_FirstMissed.l0, if_neg (show ¬ (((cnt W D).toNat : Nat) : Int) < cnt W D by omega)]
        exact Ev.now _
  · rw [Bool.not_eq_true] at h
    refine ⟨(⟨#[]⟩, false), Ev.bind (riAsked_ev W D s) ?_, Ev.bind (isOpening_ev W D s) ?_⟩
    · simp only [h, Bool.false_eq_true, if_false]; exact Ev.now _
    · simp only [h, Bool.false_eq_true, if_false]; exact Ev.now _

end Go.Proofs.Ytblccaaahicneaa.RF
