/- Orders of codes: when both functions take a list for one, and its turns. No conditions. -/
import Derived.Test.YtihhiolflbieaaaNcD1
import Derived.Test.YtihhiolflbieaaaPx1
namespace Go.Proofs.Ytihhiolflbieaaa.D2
open Go.RowKit Go.Proofs.Ytihhiolflbieaaa.P Go.Proofs.Ytihhiolflbieaaa.B Go.Proofs.Ytihhiolflbieaaa.C Go.Proofs.Ytihhiolflbieaaa.L Go.Proofs.Ytihhiolflbieaaa.A Go.Proofs.Ytihhiolflbieaaa.O Go.Proofs.Ytihhiolflbieaaa.O2 Go.Proofs.Ytihhiolflbieaaa.R Go.Proofs.Ytihhiolflbieaaa.RS Go.Proofs.Ytihhiolflbieaaa.D1 Go.Proofs.YtihhiolflbieaaaW.PrintWords Go.Proofs.YtihhiolflbieaaaW.PrintLast Go.Proofs.YtihhiolflbieaaaW.PrintMore
set_option linter.unusedVariables false
set_option linter.unusedSimpArgs false

def gt (l : List ByteArray) (j : Nat) : ByteArray := l.getD j ByteArray.empty
theorem rd_gt (l : List ByteArray) (j : Nat) : rdOf ByteArray.empty l (j : Int) = gt l j := by unfold rdOf gt; rw [Int.toNat_natCast]
theorem gt_get (l : List ByteArray) {j : Nat} (h : j < l.length) : gt l j = l[j] := by unfold gt; rw [List.getD_eq_getElem?_getD, List.getElem?_eq_getElem h]; rfl
theorem gt_mem (l : List ByteArray) {j : Nat} (h : j < l.length) : gt l j ∈ l := by rw [gt_get l h]; exact List.getElem_mem h
def hasS (l : List ByteArray) (s : ByteArray) : Bool := l.any fun t => decide (t.data.toList = s.data.toList)
theorem hasS_iff (l : List ByteArray) (s : ByteArray) : hasS l s = true ↔ s ∈ l := by
  unfold hasS
  rw [List.any_eq_true]
  constructor
  · rintro ⟨t, ht, e⟩; rw [← byte_inj (of_decide_eq_true e)]; exact ht
  · intro h; exact ⟨s, h, decide_eq_true rfl⟩
instance : Nonempty S66 := ⟨⟨0, 0⟩⟩
theorem sz_ev (l : List ByteArray) (hl : l.length ≤ 8796093022208) (hs : ∀ s ∈ l, s.size ≤ 9223372036854775807) :
    ∃ r, Ev (fun k => laws_szStringS.f k l 1048576) r ∧ (0 ≤ r → l.length ≤ 1048576 ∧ ∀ s ∈ l, s.size ≤ 1048576) := by
  unfold laws_szStringS.f
  rw [w64 (x := 1048576 - (l.length : Int)) (by omega) (by omega)]
  by_cases h0 : 1048576 - (l.length : Int) < 0
  · refine ⟨-1, ?_, by omega⟩
    simp only [if_pos h0]; exact Ev.now _
  · simp only [if_neg h0]
    have key : ∀ m j : Nat, l.length - j = m → j ≤ l.length → ∀ x : Int, 0 ≤ x → x ≤ 1048576 → (∀ s ∈ l.take j, s.size ≤ 1048576) → ∃ r, Ev (fun k => laws_szStringS.l0 k l x (j : Int)) r ∧ (0 ≤ r → ∀ s ∈ l, s.size ≤ 1048576) := by
      intro m
      induction m with
      | zero =>
        intro j hm hj x hx hx2 ht
        obtain rfl : j = l.length := by omega
        refine ⟨x, Ev.succ ?_, fun _ => by rw [List.take_of_length_le (Nat.le_refl _)] at ht; exact ht⟩
        simp only [laws_szStringS.l0, if_neg (show ¬ ((l.length : Nat) : Int) < (l.length : Int) by omega)]
        exact Ev.now _
      | succ m ih =>
        intro j hm hj x hx hx2 ht
        have hj' : j < l.length := by omega
        have hz := hs _ (gt_mem l hj')
        have ex : wrap64 (x - ((gt l j).size : Int)) = x - ((gt l j).size : Int) := w64 (by omega) (by omega)
        by_cases hn : x - ((gt l j).size : Int) < 0
        · refine ⟨-1, Ev.succ ?_, by omega⟩
          simp only [laws_szStringS.l0, if_pos (show (j : Int) < (l.length : Int) by omega), if_pos (show (0 : Int) ≤ (j : Int) by omega), rd_gt, ex, if_pos hn]
          exact Ev.now _
        · obtain ⟨r, h1, h2⟩ := ih (j + 1) (by omega) (by omega) (x - ((gt l j).size : Int)) (by omega) (by omega) (fun s hs' => by
            rw [List.take_succ_eq_append_getElem hj', List.mem_append, List.mem_singleton] at hs'
            rcases hs' with q | q
            · exact ht s q
            · rw [q, ← gt_get l hj']; omega)
          refine ⟨r, Ev.succ ?_, h2⟩
          simp only [laws_szStringS.l0, if_pos (show (j : Int) < (l.length : Int) by omega), if_pos (show (0 : Int) ≤ (j : Int) by omega), rd_gt, ex, if_neg hn, w64 (x := (j : Int) + 1) (by omega) (by omega)]
          exact h1
    obtain ⟨r, h1, h2⟩ := key l.length 0 (by omega) (by omega) (1048576 - (l.length : Int)) (by omega) (by omega) (by simp)
    exact ⟨r, h1, fun q => ⟨by omega, h2 q⟩⟩
theorem toS_ev (l : List ByteArray) (hl : l.length ≤ 8796093022208) : Ev (fun k => laws_toStringS.f k l) l := by
  unfold laws_toStringS.f
  simp only [if_pos (show 0 ≤ (l.length : Int) by omega), Int.toNat_natCast, if_pos (show l.length ≤ 17592186044416 by omega)]
  refine ev_loop (g := fun j k => laws_toStringS.l0 k l (l.take j ++ List.replicate (l.length - j) (⟨#[]⟩ : ByteArray)) (j : Int)) l.length ?_ ?_
  · intro j hj ih
    refine Ev.succ ?_
    have e : (l.take j ++ List.replicate (l.length - j) (⟨#[]⟩ : ByteArray)).length = l.length := by simp; omega
    simp only [laws_toStringS.l0, if_pos (show (j : Int) < (l.length : Int) by omega), if_pos (show (0 : Int) ≤ (j : Int) by omega), e, rd_gt, Int.toNat_natCast, w64 (x := (j : Int) + 1) (by omega) (by omega)]
    have st : (l.take j ++ List.replicate (l.length - j) (⟨#[]⟩ : ByteArray)).set j (gt l j) = l.take (j + 1) ++ List.replicate (l.length - (j + 1)) (⟨#[]⟩ : ByteArray) := by
      have lt : (l.take j).length = j := by rw [List.length_take]; omega
      rw [List.set_append_right _ _ (by omega), lt, Nat.sub_self, show l.length - j = (l.length - (j + 1)) + 1 by omega, List.replicate_succ, List.set_cons_zero, List.take_succ_eq_append_getElem hj, gt_get l hj, List.append_assoc]
      rfl
    rw [st]
    exact ih
  · refine Ev.succ ?_
    have e : (l.take l.length ++ List.replicate (l.length - l.length) (⟨#[]⟩ : ByteArray)) = l := by simp
    rw [e]
    simp only [laws_toStringS.l0, if_neg (show ¬ ((l.length : Nat) : Int) < (l.length : Int) by omega)]
    exact Ev.now _

end Go.Proofs.Ytihhiolflbieaaa.D2
