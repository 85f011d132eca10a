/- The codes at the distance 1, in order: both functions answer the same list. No conditions. -/
import Derived.Test.YtihhiolflbieaaaNcS
import Derived.Test.YtihhiolflbieaaaNcD2
import Derived.Test.YtihhiolflbieaaaPx62
import Derived.Test.YtihhiolflbieaaaPx71
namespace Go.Proofs.Ytihhiolflbieaaa.NX
open Go.RowKit Go.Proofs.Ytihhiolflbieaaa.P Go.Proofs.Ytihhiolflbieaaa.B Go.Proofs.Ytihhiolflbieaaa.C Go.Proofs.Ytihhiolflbieaaa.L Go.Proofs.Ytihhiolflbieaaa.A Go.Proofs.Ytihhiolflbieaaa.O Go.Proofs.Ytihhiolflbieaaa.O2 Go.Proofs.Ytihhiolflbieaaa.R Go.Proofs.Ytihhiolflbieaaa.RS Go.Proofs.Ytihhiolflbieaaa.S Go.Proofs.Ytihhiolflbieaaa.D1 Go.Proofs.Ytihhiolflbieaaa.D2 Go.Proofs.YtihhiolflbieaaaW.PrintWords Go.Proofs.YtihhiolflbieaaaW.PrintLast Go.Proofs.YtihhiolflbieaaaW.PrintMore
set_option linter.unusedVariables false
set_option linter.unusedSimpArgs false

/-- Texts in order, each once. -/
def Asc (l : List ByteArray) : Prop := l.Pairwise fun s t => s.data.toList < t.data.toList
theorem asc_eq : ∀ a b : List ByteArray, Asc a → Asc b → (∀ x, x ∈ a ↔ x ∈ b) → a = b
  | [], [], _, _, _ => rfl
  | [], y :: b, _, _, h => absurd ((h y).mpr (List.mem_cons_self ..)) (by simp)
  | x :: a, [], _, _, h => absurd ((h x).mp (List.mem_cons_self ..)) (by simp)
  | x :: a, y :: b, ha, hb, h => by
    obtain ⟨ha1, ha2⟩ := List.pairwise_cons.mp ha
    obtain ⟨hb1, hb2⟩ := List.pairwise_cons.mp hb
    have e : x = y := by
      rcases List.mem_cons.mp ((h x).mp (List.mem_cons_self ..)) with e | e
      · exact e
      · rcases List.mem_cons.mp ((h y).mpr (List.mem_cons_self ..)) with f | f
        · exact f.symm
        · exact absurd (List.lt_trans (hb1 x e) (ha1 y f)) (List.lt_irrefl _)
    subst e
    congr 1
    refine asc_eq a b ha2 hb2 fun z => ?_
    constructor
    · intro hz
      rcases List.mem_cons.mp ((h z).mp (List.mem_cons_of_mem _ hz)) with e | e
      · subst e; exact absurd (ha1 z hz) (List.lt_irrefl _)
      · exact e
    · intro hz
      rcases List.mem_cons.mp ((h z).mpr (List.mem_cons_of_mem _ hz)) with e | e
      · subst e; exact absurd (hb1 z hz) (List.lt_irrefl _)
      · exact e
theorem comp_asc {zs : List (List UInt8)} (h : zs.Pairwise (· ≤ ·)) : ∀ m, m ≤ zs.length → (Lib.compactUpTo zs.toArray m).Pairwise (· ≤ ·)
  | 0, _ => by simp [Lib.compactUpTo]
  | m + 1, hm => by
    rw [Lib.compactUpTo_succ, List.pairwise_append]
    refine ⟨comp_asc h m (by omega), by split <;> simp, ?_⟩
    intro a ha b hb
    split at hb
    · rw [List.mem_singleton] at hb
      subst hb
      obtain ⟨j, hj, rfl⟩ := (comp_mem zs a m).mp ha
      exact asc h (by omega) (by omega)
    · cases hb
theorem val_asc (l : List ByteArray) : Asc (impl_sorted.val l) := by
  have nd := comp_nodup (bs_sorted l) (impl_sorted.bs l).length (Nat.le_refl _)
  have pw := comp_asc (bs_sorted l) (impl_sorted.bs l).length (Nat.le_refl _)
  unfold Asc impl_sorted.val Lib.compact
  rw [List.pairwise_map]
  refine List.Pairwise.imp₂ ?_ pw nd
  intro a b h1 h2
  show a < b
  rcases Classical.em (a < b) with q | q
  · exact q
  · exact absurd (List.le_antisymm h1 (List.not_lt.mp q)) h2

/-- How many texts at the head are less. -/
def pl (l : List ByteArray) (s : ByteArray) : Nat := (l.takeWhile fun t => Op.bytesLess t.toList s.toList).length
theorem tw_nil {α : Type} (p : α → Bool) : ∀ l : List α, (l.takeWhile p).length ≤ l.length ∧ (∀ j (h : j < (l.takeWhile p).length) (h' : j < l.length), p l[j] = true) ∧ (∀ h : (l.takeWhile p).length < l.length, p (l[(l.takeWhile p).length]) = false)
  | [] => by simp
  | x :: l => by
    obtain ⟨h1, h2, h3⟩ := tw_nil p l
    by_cases q : p x = true
    · rw [List.takeWhile_cons_of_pos q]
      refine ⟨by simp only [List.length_cons]; omega, ?_, ?_⟩
      · intro j hj hj'
        cases j with
        | zero => exact q
        | succ j => exact h2 j (by simp only [List.length_cons] at hj; omega) (by simp only [List.length_cons] at hj'; omega)
      · intro h; simp only [List.length_cons] at h ⊢; exact h3 (by omega)
    · rw [List.takeWhile_cons_of_neg q]
      refine ⟨by simp, by simp, ?_⟩
      intro h; simp only [List.length_nil, List.getElem_cons_zero]; exact Bool.eq_false_iff.mpr q
theorem pl_le (l : List ByteArray) (s : ByteArray) : pl l s ≤ l.length := (tw_nil _ l).1
theorem pl_lt (l : List ByteArray) (s : ByteArray) {j : Nat} (h : j < pl l s) (h' : j < l.length) : Op.bytesLess l[j].toList s.toList = true := (tw_nil _ l).2.1 j h h'
theorem pl_at (l : List ByteArray) (s : ByteArray) (h : pl l s < l.length) : Op.bytesLess (l[pl l s]).toList s.toList = false := (tw_nil _ l).2.2 h
def nbs (W D : Int) (s : ByteArray) : List ByteArray := (trns W.toNat).map fun t => txt (tur D t.f0.toNat t.f1 (digs s))
def nx (W D : Int) (s : ByteArray) : List ByteArray := impl_sorted.val (nbs W D s)
theorem nbs_len (W D : Int) (s : ByteArray) : (nbs W D s).length = 2 * W.toNat := by simp [nbs, trns]
theorem nx_mem' {W D : Int} {s x : ByteArray} : x ∈ nx W D s ↔ x ∈ nbs W D s := val_mem _ _
theorem trn_f {m : Nat} : (trn m).f0.toNat = m / 2 ∧ ((trn m).f0 = ((m / 2 : Nat) : Int)) ∧ ((trn m).f1 = 1 ∨ (trn m).f1 = -1) := by
  refine ⟨by simp only [trn]; omega, rfl, ?_⟩
  simp only [trn]; split <;> simp
theorem nbs_range (W D : Int) (s : ByteArray) : nbs W D s = (List.range (2 * W.toNat)).map fun m => txt (tur D (m / 2) (trn m).f1 (digs s)) := by
  unfold nbs trns
  rw [List.map_map]
  refine List.map_congr_left fun m _ => ?_
  show txt (tur D (trn m).f0.toNat (trn m).f1 (digs s)) = _
  rw [trn_f.1]
theorem nbs_get {W D : Int} {s : ByteArray} {m : Nat} (h : m < (nbs W D s).length) : (nbs W D s)[m] = txt (tur D (m / 2) (trn m).f1 (digs s)) :=
  (List.getElem_of_eq (nbs_range W D s) h).trans (by rw [List.getElem_map, List.getElem_range])
theorem nbs_isC {W D : Int} (h : LK W D) {s : ByteArray} (hs : isC W D s = true) : ∀ x ∈ nbs W D s, isC W D x = true := by
  intro x hx
  obtain ⟨m, hm, rfl⟩ := List.mem_iff_getElem.mp hx
  obtain ⟨c1, c2, _⟩ := codeOf h hs
  rw [nbs_get]
  have hd := tur_isD (D := D) (by have := (LK.d h); omega) c2 (m / 2) (trn m).f1
  unfold isC
  rw [Bool.and_eq_true, decide_eq_true_eq]
  refine ⟨by rw [txt_size, tur_len, c1]; have := (LK.w h); omega, txt_isT (LK.d h) hd⟩
theorem nx_mem {W D : Int} (h : LK W D) {s x : ByteArray} (hs : isC W D s = true) : x ∈ nx W D s ↔ isC W D x = true ∧ Nx D (digs s) (digs x) := by
  obtain ⟨c1, c2, c3⟩ := codeOf h hs
  rw [nx_mem']
  constructor
  · intro hx
    have hc := nbs_isC h hs x hx
    obtain ⟨m, hm, e⟩ := List.mem_iff_getElem.mp hx
    rw [nbs_len] at hm
    refine ⟨hc, ?_⟩
    rw [nbs_get] at e
    rw [← e, digs_txt (IsD.mono (tur_isD (by have := (LK.d h); omega) c2 _ _) (LK.d h).2)]
    exact tur_nx (LK.d h).1 c2 (by omega) trn_f.2.2
  · rintro ⟨hc, hn⟩
    obtain ⟨d1, d2, d3⟩ := codeOf h hc
    obtain ⟨i, hi, hb, _, _, hq⟩ := nx_at (by omega) hn
    have g : (digs s).getD i 0 = (digs s)[i] := by rw [List.getD_eq_getElem?_getD, List.getElem?_eq_getElem hi]; rfl
    have key : ∀ m, m < 2 * W.toNat → digs x = tur D (m / 2) (trn m).f1 (digs s) → x ∈ nbs W D s := by
      intro m hm e
      have hm' : m < (nbs W D s).length := by rw [nbs_len]; exact hm
      have := List.getElem_mem hm'
      rw [nbs_get, ← e, d3] at this
      exact this
    rcases hq with ⟨_, e⟩ | ⟨_, e⟩
    · refine key (2 * i) (by omega) ?_
      rw [e, show 2 * i / 2 = i by omega]
      simp only [trn, tur, g, show 2 * i % 2 = 0 by omega, if_true]
    · refine key (2 * i + 1) (by omega) ?_
      rw [e, show (2 * i + 1) / 2 = i by omega]
      simp only [trn, tur, g, show (2 * i + 1) % 2 = 1 by omega, show ¬ (1 : Nat) = 0 by omega, if_false, Int.sub_eq_add_neg]
theorem whMake_ev {W D : Int} (hD : 2 ≤ D ∧ D ≤ 10) {a : List Int} (ha : IsD D a) (hl : a.length ≤ 1000) {i : Nat} (hi : i < a.length) {e : Int} (he : -1000 ≤ e ∧ e ≤ 1000) :
    Ev (fun k => spec_whMake.f k W D (txt a) (i : Int) e) (txt (tur D i e a)) := by
  unfold spec_whMake.f
  refine Ev.bind (whDigits_ev _ (by rw [txt_size]; omega)) ?_
  rw [digs_txt (IsD.mono ha hD.2)]
  have x := IsD.get ha hi
  have g : a.getD i 0 = a[i] := by rw [List.getD_eq_getElem?_getD, List.getElem?_eq_getElem hi]; rfl
  simp only [if_pos (show (0 : Int) ≤ (i : Int) by omega), if_pos (show (i : Int) < (a.length : Int) by omega), rd_get a i hi, w64 (x := a[i] + e) (by omega) (by omega), l1Mod_eq (D := D) (by omega), Option.bind_some, Int.toNat_natCast]
  have t := whText_ev (tur D i e a) (by rw [tur_len]; omega) (IsD.mono (tur_isD (by omega) ha i e) hD.2)
  unfold tur at t ⊢
  rw [g] at t ⊢
  exact Ev.bind t (Ev.now _)
end Go.Proofs.Ytihhiolflbieaaa.NX
