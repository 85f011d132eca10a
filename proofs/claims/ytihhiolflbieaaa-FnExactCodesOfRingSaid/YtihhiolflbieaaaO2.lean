/- The turn from a code to a next one: what the functions that look for it answer, told on lists of digits. No conditions. -/
import Derived.Test.YtihhiolflbieaaaO
import Derived.Test.YtihhiolflbieaaaPx20
import Derived.Test.YtihhiolflbieaaaPx24
import Derived.Test.YtihhiolflbieaaaPx25
import Derived.Test.YtihhiolflbieaaaPx44
namespace Go.Proofs.Ytihhiolflbieaaa.O2
open Go.RowKit Go.Proofs.Ytihhiolflbieaaa.P Go.Proofs.Ytihhiolflbieaaa.B Go.Proofs.Ytihhiolflbieaaa.C Go.Proofs.Ytihhiolflbieaaa.L Go.Proofs.Ytihhiolflbieaaa.A Go.Proofs.Ytihhiolflbieaaa.O Go.Proofs.YtihhiolflbieaaaW.PrintWords Go.Proofs.YtihhiolflbieaaaW.PrintLast Go.Proofs.YtihhiolflbieaaaW.PrintMore
set_option linter.unusedVariables false
set_option linter.unusedSimpArgs false

/-- Where two codes at the distance 1 part. -/
theorem nx_at {D : Int} : ∀ {a b : List Int}, a.length = b.length → Nx D a b → ∃ i, ∃ (hi : i < a.length) (hb : i < b.length), a[i] ≠ b[i] ∧ (∀ j, j < i → a[j]? = b[j]?) ∧ ((b[i] = (a[i] + 1) % D ∧ b = a.set i ((a[i] + 1) % D)) ∨ (b[i] ≠ (a[i] + 1) % D ∧ b = a.set i ((a[i] - 1) % D)))
  | [], [], _, h => h.elim
  | [], _ :: _, _, h => h.elim
  | _ :: _, [], _, h => h.elim
  | x :: xs, y :: ys, hl, h => by
    rcases h with ⟨rfl, h⟩ | ⟨rfl, hne, h⟩
    · obtain ⟨i, hi, hb, h1, h2, h3⟩ := nx_at (by simpa using hl) h
      refine ⟨i + 1, by simpa using hi, by simpa using hb, by simpa using h1, ?_, ?_⟩
      · intro j hj
        cases j with
        | zero => rfl
        | succ j => simpa using h2 j (by omega)
      · simpa using h3
    · refine ⟨0, by simp, by simp, by simpa using hne, fun j hj => by omega, ?_⟩
      by_cases e : y = (x + 1) % D
      · left; simp [e]
      · right; rcases h with h | h
        · exact absurd h e
        · exact ⟨by simpa using e, by simp [h]⟩

def trn (m : Nat) : S66 := ⟨((m / 2 : Nat) : Int), if m % 2 = 0 then 1 else -1⟩
def trns (W : Nat) : List S66 := (List.range (2 * W)).map trn
theorem turns_ev {W : Nat} (h : W ≤ 6) : Ev (fun k => impl_turns.f k (W : Int)) (trns W) := by
  have : W = 0 ∨ W = 1 ∨ W = 2 ∨ W = 3 ∨ W = 4 ∨ W = 5 ∨ W = 6 := by omega
  rcases this with rfl | rfl | rfl | rfl | rfl | rfl | rfl <;> exact Ev.of (fun k => impl_turns.mono _ k) (k := 10) (by kernel_rfl)

def tur (D : Int) (i : Nat) (by_ : Int) (a : List Int) : List Int := a.set i ((a.getD i 0 + by_) % D)
theorem tur_isD {D : Int} (hD : 0 < D) {a : List Int} (h : IsD D a) (i : Nat) (e : Int) : IsD D (tur D i e a) := by
  intro x hx
  unfold tur at hx
  rcases List.mem_or_eq_of_mem_set hx with hx | rfl
  · exact h x hx
  · exact ⟨Int.emod_nonneg _ (by omega), Int.emod_lt_of_pos _ hD⟩
theorem tur_len (D : Int) (i : Nat) (e : Int) (a : List Int) : (tur D i e a).length = a.length := by simp [tur]

theorem turned_ev {W D : Int} (hD : 2 ≤ D ∧ D ≤ 10) {a : List Int} (ha : IsD D a) (hl : a.length ≤ 1000) {i : Nat} (hi : i < a.length) {e : Int} (he : -1000 ≤ e ∧ e ≤ 1000) :
    Ev (fun k => impl_Lock_turned.f k W D (txt a) (i : Int) e) (txt (tur D i e a)) := by
  unfold impl_Lock_turned.f
  refine Ev.bind (digits_ev _ (by rw [txt_size]; omega)) ?_
  rw [digs_txt (IsD.mono ha hD.2)]
  have x := IsD.get ha hi
  have g : a.getD i 0 = a[i] := by rw [List.getD_eq_getElem?_getD, List.getElem?_eq_getElem hi]; rfl
  simp only [if_pos (show (0 : Int) ≤ (i : Int) by omega), if_pos (show (i : Int) < (a.length : Int) by omega), rd_get a i hi, w64 (x := a[i] + e) (by omega) (by omega), around_eq (D := D) (by omega), Option.bind_some, Int.toNat_natCast]
  have t := text_ev (tur D i e a) (by rw [tur_len]; omega) (IsD.mono (tur_isD (by omega) ha i e) hD.2)
  unfold tur at t ⊢
  rw [g] at t ⊢
  exact Ev.bind t (Ev.now _)

theorem toList_inj {s t : ByteArray} : s.toList = t.toList ↔ s = t := by
  constructor
  · intro h
    rw [ByteArray.toList_eq, ByteArray.toList_eq] at h
    exact ByteArray.ext (Array.ext' h)
  · exact fun h => by rw [h]

/-- The first turn that leads from one code to another one: its wheel and how far. -/
theorem orTurn_ev {W D : Int} (hD : 2 ≤ D ∧ D ≤ 10) {a b : List Int} (ha : IsD D a) (hb : IsD D b) (hl : a.length ≤ 1000) (hlb : b.length ≤ 1000) {i : Nat} (hi : i < a.length) (hib : i < b.length)
    (hne : a[i] ≠ b[i]) (hj : ∀ j, j < i → a[j]? = b[j]?) :
    Ev (fun k => spec_orTurn.f k W D (txt a) (txt b)) ((i : Int), if (a[i] + 1) % D = b[i] then 1 else -1) := by
  unfold spec_orTurn.f
  refine Ev.bind (whDigits_ev _ (by rw [txt_size]; omega)) (Ev.bind (whDigits_ev _ (by rw [txt_size]; omega)) ?_)
  rw [digs_txt (IsD.mono ha hD.2), digs_txt (IsD.mono hb hD.2)]
  refine ev_loop (g := fun j k => spec_orTurn.l0 k a b (a.length : Int) (j : Int) W D) i ?_ ?_
  · intro j hji ih
    have e := hj j hji
    rw [List.getElem?_eq_getElem (by omega), List.getElem?_eq_getElem (by omega)] at e
    have e' := Option.some.inj e
    refine Ev.succ ?_
    simp only [spec_orTurn.l0, if_pos (show (j : Int) < (a.length : Int) by omega), if_pos (show (0 : Int) ≤ (j : Int) by omega), if_pos (show (j : Int) < (b.length : Int) by omega), rd_get a j (by omega), rd_get b j (by omega), if_pos e', w64 (x := (j : Int) + 1) (by omega) (by omega)]
    exact ih
  · have x := IsD.get ha hi
    refine Ev.succ ?_
    simp only [spec_orTurn.l0, if_pos (show (i : Int) < (a.length : Int) by omega), if_pos (show (0 : Int) ≤ (i : Int) by omega), if_pos (show (i : Int) < (b.length : Int) by omega), rd_get a i hi, rd_get b i hib, if_neg hne, w64 (x := a[i] + 1) (by omega) (by omega), l1Mod_eq (D := D) (by omega), Option.bind_some]
    split
    · exact Ev.now _
    · exact Ev.now _

theorem between_ev {W D : Int} (h : LK W D) {a b : List Int} (ha : IsD D a) (hb : IsD D b) (hl : a.length = W.toNat) (hlb : b.length = W.toNat) {i : Nat} (hi : i < a.length) (hib : i < b.length)
    (hne : a[i] ≠ b[i]) (hj : ∀ j, j < i → a[j]? = b[j]?) (hset : (b[i] = (a[i] + 1) % D ∧ b = a.set i ((a[i] + 1) % D)) ∨ (b[i] ≠ (a[i] + 1) % D ∧ b = a.set i ((a[i] - 1) % D))) :
    Ev (fun k => impl_Lock_between.f k W D (txt a) (txt b)) ((i : Int), (if (a[i] + 1) % D = b[i] then 1 else -1), true) := by
  obtain ⟨hw, hw6, hw0⟩ := LK.w h
  have hD := LK.d h
  have hD0 : 0 < D := by omega
  unfold impl_Lock_between.f
  have ht := turns_ev hw6
  rw [hw] at ht
  refine Ev.bind ht ?_
  have tl : (trns W.toNat).length = 2 * W.toNat := by simp [trns]
  have tg : ∀ m, m < 2 * W.toNat → rd_T66 (trns W.toNat) (m : Int) = trn m := by
    intro m hm
    unfold rd_T66 trns
    rw [Int.toNat_natCast, List.getD_eq_getElem?_getD, List.getElem?_map, List.getElem?_range hm]; rfl
  have ga : a.getD i 0 = a[i] := by rw [List.getD_eq_getElem?_getD, List.getElem?_eq_getElem hi]; rfl
  have miss : ∀ m, m < 2 * i → tur D (m / 2) (trn m).f1 a ≠ b := by
    intro m hm e
    apply hne
    have : (tur D (m / 2) (trn m).f1 a)[i]? = a[i]? := by unfold tur; rw [List.getElem?_set_ne (by omega)]
    rw [e, List.getElem?_eq_getElem hi, List.getElem?_eq_getElem hib] at this
    exact (Option.some.inj this).symm
  have one : ∀ m, m < 2 * W.toNat → ∀ {R : Int × Int × Bool}, (tur D (m / 2) (trn m).f1 a = b → R = ((trn m).f0, (trn m).f1, true)) → (tur D (m / 2) (trn m).f1 a ≠ b → Ev (fun k => impl_Lock_between.l0 k (txt a) (txt b) (trns W.toNat) ((trns W.toNat).length : Int) ((m + 1 : Nat) : Int) W D) R) →
      Ev (fun k => impl_Lock_between.l0 k (txt a) (txt b) (trns W.toNat) ((trns W.toNat).length : Int) (m : Int) W D) R := by
    intro m hm R h1 h2
    refine Ev.succ ?_
    have f0 : (trn m).f0 = ((m / 2 : Nat) : Int) := rfl
    have f1 : (trn m).f1 = 1 ∨ (trn m).f1 = -1 := by unfold trn; by_cases q : m % 2 = 0 <;> simp [q]
    simp only [impl_Lock_between.l0, tl, if_pos (show (m : Int) < ((2 * W.toNat : Nat) : Int) by omega), if_pos (show (0 : Int) ≤ (m : Int) by omega), tg m hm, f0, w64 (x := (m : Int) + 1) (by omega) (by omega)]
    refine Ev.bind (turned_ev hD ha (by omega) (i := m / 2) (by omega) (by omega)) ?_
    by_cases e : tur D (m / 2) (trn m).f1 a = b
    · simp only [if_pos (toList_inj.mpr (congrArg txt e)), h1 e, f0]
      exact Ev.now _
    · simp only [if_neg (show ¬ (txt (tur D (m / 2) (trn m).f1 a)).toList = (txt b).toList from fun q => e (txt_inj (IsD.mono (tur_isD hD0 ha _ _) hD.2) (IsD.mono hb hD.2) (toList_inj.mp q)))]
      have := h2 e
      rw [tl] at this
      exact this
  refine ev_loop (g := fun m k => impl_Lock_between.l0 k (txt a) (txt b) (trns W.toNat) ((trns W.toNat).length : Int) (m : Int) W D) (2 * i) ?_ ?_
  · intro m hm ih
    exact one m (by omega) (fun e => absurd e (miss m hm)) (fun _ => ih)
  · have e0 : (2 * i) / 2 = i := by omega
    have f1 : (trn (2 * i)).f1 = 1 := by unfold trn; simp
    refine one (2 * i) (by omega) ?_ ?_
    · intro e
      rw [e0, f1] at e
      have e3 : b[i] = (a[i] + 1) % D := by
        have q : (tur D i 1 a)[i]? = b[i]? := by rw [e]
        unfold tur at q
        rw [List.getElem?_set_self hi, ga, List.getElem?_eq_getElem hib] at q
        exact (Option.some.inj q).symm
      rw [if_pos e3.symm, f1]
      simp only [trn, e0]
    · intro e
      rw [e0, f1] at e
      have e3 : b[i] ≠ (a[i] + 1) % D := by
        intro q
        rcases hset with ⟨_, g⟩ | ⟨g, _⟩
        · apply e; unfold tur; rw [ga]; exact g.symm
        · exact g q
      have o0 : (2 * i + 1) / 2 = i := by omega
      have o1 : (trn (2 * i + 1)).f1 = -1 := by
        unfold trn
        simp only [show ¬ ((2 * i + 1) % 2 = 0) by omega, if_false]
      refine one (2 * i + 1) (by omega) ?_ ?_
      · intro _
        rw [if_neg (fun q => e3 q.symm), o1]
        simp only [trn, o0]
      · intro q
        exfalso
        apply q
        rw [o0, o1]
        rcases hset with ⟨g, _⟩ | ⟨_, g⟩
        · exact absurd g e3
        · unfold tur; rw [ga]; exact g.symm

/-- Both, from a code to one at the distance 1. -/
theorem both_turn {W D : Int} (h : LK W D) {a b : List Int} (ha : IsD D a) (hb : IsD D b) (hl : a.length = W.toNat) (hlb : b.length = W.toNat) (hn : Nx D a b) :
    ∃ i e : Int, Ev (fun k => spec_orTurn.f k W D (txt a) (txt b)) (i, e) ∧ Ev (fun k => impl_Lock_between.f k W D (txt a) (txt b)) (i, e, true) := by
  obtain ⟨hw, hw6, hw0⟩ := LK.w h
  obtain ⟨i, hi, hib, h1, h2, h3⟩ := nx_at (hl.trans hlb.symm) hn
  exact ⟨_, _, orTurn_ev (LK.d h) ha hb (by omega) (by omega) hi hib h1 h2, between_ev h ha hb hl hlb hi hib h1 h2 h3⟩

end Go.Proofs.Ytihhiolflbieaaa.O2
