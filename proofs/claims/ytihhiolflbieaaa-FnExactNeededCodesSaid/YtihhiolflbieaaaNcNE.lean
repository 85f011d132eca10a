/- Codes that each way needs: both functions give the same codes. No conditions. -/
import Derived.Test.YtihhiolflbieaaaNcND
import Derived.Test.YtihhiolflbieaaaPx71
import Derived.Test.YtihhiolflbieaaaPx75
import Derived.Test.YtihhiolflbieaaaPx132
import Derived.Test.YtihhiolflbieaaaPx164
import Derived.Test.YtihhiolflbieaaaPx171
import Derived.Test.YtihhiolflbieaaaPx172
namespace Go.Proofs.Ytihhiolflbieaaa.NE
open Go.RowKit Go.Proofs.Ytihhiolflbieaaa.P Go.Proofs.Ytihhiolflbieaaa.B Go.Proofs.Ytihhiolflbieaaa.C Go.Proofs.Ytihhiolflbieaaa.L Go.Proofs.Ytihhiolflbieaaa.A Go.Proofs.Ytihhiolflbieaaa.O Go.Proofs.Ytihhiolflbieaaa.O2 Go.Proofs.Ytihhiolflbieaaa.O3 Go.Proofs.Ytihhiolflbieaaa.R Go.Proofs.Ytihhiolflbieaaa.RS Go.Proofs.Ytihhiolflbieaaa.S Go.Proofs.Ytihhiolflbieaaa.D1 Go.Proofs.Ytihhiolflbieaaa.D2 Go.Proofs.Ytihhiolflbieaaa.NX Go.Proofs.Ytihhiolflbieaaa.DE Go.Proofs.Ytihhiolflbieaaa.Q Go.Proofs.Ytihhiolflbieaaa.FF Go.Proofs.Ytihhiolflbieaaa.FS Go.Proofs.Ytihhiolflbieaaa.ND Go.Proofs.YtihhiolflbieaaaW.PrintWords Go.Proofs.YtihhiolflbieaaaW.PrintLast Go.Proofs.YtihhiolflbieaaaW.PrintMore
set_option linter.unusedVariables false
set_option linter.unusedSimpArgs false

theorem less_at : ∀ (a b : List UInt8) (i : Nat) (ha : i < a.length) (hb : i < b.length), a.take i = b.take i → a[i] < b[i] → a < b
  | [], _, i, ha, _, _, _ => absurd ha (by simp)
  | _ :: _, [], i, _, hb, _, _ => absurd hb (by simp)
  | x :: xs, y :: ys, 0, _, _, _, h => List.cons_lt_cons_iff.mpr (.inl h)
  | x :: xs, y :: ys, i + 1, ha, hb, ht, h => by
    simp only [List.take_succ_cons, List.cons.injEq] at ht
    exact List.cons_lt_cons_iff.mpr (.inr ⟨ht.1, less_at xs ys i (by simpa using ha) (by simpa using hb) ht.2 (by simpa using h)⟩)
theorem first_less {D : Int} (hD : 0 < D) : ∀ (a b : List Int), IsD D a → IsD D b → a.length = b.length → num D a < num D b → ∃ i, ∃ (ha : i < a.length) (hb : i < b.length), a.take i = b.take i ∧ a[i] < b[i]
  | [], [], _, _, _, h => absurd h (by simp)
  | [], _ :: _, _, _, hl, _ => absurd hl (by simp)
  | _ :: _, [], _, _, hl, _ => absurd hl (by simp)
  | x :: a, y :: b, h1, h2, hl, h => by
    have hl' : a.length = b.length := by simpa using hl
    obtain ⟨x0, h1'⟩ := IsD.cons h1
    obtain ⟨y0, h2'⟩ := IsD.cons h2
    by_cases q : x < y
    · exact ⟨0, by simp, by simp, rfl, q⟩
    · by_cases e : x = y
      · subst e
        simp only [num, hl'] at h
        obtain ⟨i, ha, hb, t, g⟩ := first_less hD a b h1' h2' hl' (by omega)
        exact ⟨i + 1, by simpa using ha, by simpa using hb, by rw [List.take_succ_cons, List.take_succ_cons, t], by simpa using g⟩
      · exfalso
        have n1 := num_bd hD a h1'
        have n2 := num_bd hD b h2'
        have hp := pw_pos hD b.length
        have m : (y + 1) * D ^ b.length ≤ x * D ^ b.length := Int.mul_le_mul_of_nonneg_right (by omega) (by omega)
        rw [Int.add_mul, Int.one_mul] at m
        simp only [num, hl'] at h
        omega
theorem txt_less {D : Int} (hD : 2 ≤ D ∧ D ≤ 10) {a b : List Int} (ha : IsD D a) (hb : IsD D b) (hl : a.length = b.length) (h : num D a < num D b) : (txt a).data.toList < (txt b).data.toList := by
  obtain ⟨i, h1, h2, t, g⟩ := first_less (by omega) a b ha hb hl h
  have key : ∀ (u : List Int), IsD D u → ∀ j (hj : j < u.length) (hj' : j < (txt u).data.toList.length), u[j] = (((txt u).data.toList[j]).toNat : Int) - 48 := by
    intro u hu j hj hj'
    have ti := txt_isT hD hu
    unfold isT at ti
    rw [List.all_eq_true] at ti
    have := of_decide_eq_true (ti _ (List.getElem_mem hj'))
    have d := digs_txt (IsD.mono hu hD.2)
    have e := List.getElem_of_eq d (i := j) (by rw [d]; exact hj)
    rw [← e]
    simp only [digs, List.getElem_map]
    omega
  have la : ∀ u : List Int, (txt u).data.toList.length = u.length := fun u => by rw [← size_len, txt_size]
  refine less_at _ _ i (by rw [la]; exact h1) (by rw [la]; exact h2) ?_ ?_
  · apply List.ext_getElem
    · simp only [List.length_take, la]; omega
    · intro j q1 q2
      rw [List.length_take, la] at q1 q2
      rw [List.getElem_take, List.getElem_take]
      have k1 := key a ha j (by omega) (by rw [la]; omega)
      have k2 := key b hb j (by omega) (by rw [la]; omega)
      have : a[j]'(by omega) = b[j]'(by omega) := by
        have q : (a.take i)[j]? = (b.take i)[j]? := by rw [t]
        rw [List.getElem?_eq_getElem (by rw [List.length_take]; omega), List.getElem?_eq_getElem (by rw [List.length_take]; omega), List.getElem_take, List.getElem_take] at q
        exact Option.some.inj q
      apply UInt8.toNat_inj.mp
      omega
  · have k1 := key a ha i h1 (by rw [la]; exact h1)
    have k2 := key b hb i h2 (by rw [la]; exact h2)
    rw [UInt8.lt_iff_toNat_lt]
    omega
theorem co_less {W D : Int} (h : LK W D) {u v : Nat} (hu : u < NN W D) (hv : v < NN W D) (huv : u < v) : (co W D u).data.toList < (co W D v).data.toList := by
  have dd := LK.d h
  have n1 := co_nu h hu
  have n2 := co_nu h hv
  unfold nu at n1 n2
  rw [co_digs h] at n1 n2
  exact txt_less dd (cod_isD (by omega) _ _) (cod_isD (by omega) _ _) (by rw [cod_len, cod_len]) (by omega)
theorem co_asc {W D : Int} (h : LK W D) (p : Nat → Bool) : Asc (((List.range (NN W D)).filter p).map (co W D)) := by
  unfold Asc
  rw [List.pairwise_map]
  have pw : ((List.range (NN W D)).filter p).Pairwise (· < ·) := List.Pairwise.filter _ List.pairwise_lt_range
  refine List.Pairwise.imp_of_mem ?_ pw
  intro a b ha hb hab
  exact co_less h (List.mem_range.mp (List.mem_filter.mp ha |>.1)) (List.mem_range.mp (List.mem_filter.mp hb |>.1)) hab

theorem deFew_ev {W D : Int} (h : LK W D) (l : List ByteArray) (hl : l.length ≤ 1000000) {f t : Nat} (hf : f < NN W D) (ht : t < NN W D) : Ev (fun k => spec_deFew.f k W D l (co W D f) (co W D t)) (dt (tb W D l f) t) := by
  unfold spec_deFew.f
  refine Ev.bind (deFar_ev h l hl hf) (Ev.bind (whNumber_co h ht) ?_)
  have len : (tb W D l f).length = NN W D := (tb_tab h l hf).len
  have e : (tabW W D l f).1 = tb W D l f := tabW_tab W D l f
  simp only [e, len, if_pos (show (0 : Int) ≤ (t : Int) by omega), if_pos (show (t : Int) < ((NN W D : Nat) : Int) by omega), rd_dt (show t < (tb W D l f).length by omega)]
  exact Ev.now _
def wth (l : List ByteArray) (c : ByteArray) : List ByteArray := (l.take (pl l c) ++ [c]) ++ l.drop (pl l c)
theorem ownS_eq (l : List ByteArray) (h : l.length < 8796093022208) : spec_l1OwnS.f l = some l := by
  unfold spec_l1OwnS.f
  simp only [Option.bind_some, List.length_nil, Nat.zero_add, if_pos h, List.nil_append]
theorem wth_len (l : List ByteArray) (c : ByteArray) : (wth l c).length ≤ l.length + 1 := by
  unfold wth
  simp only [List.length_append, List.length_take, List.length_drop, List.length_cons, List.length_nil]
  omega
theorem wth_mem (l : List ByteArray) (c x : ByteArray) : x ∈ wth l c ↔ x ∈ l ∨ x = c := by
  unfold wth
  rw [List.mem_append, List.mem_append, List.mem_singleton]
  have := List.take_append_drop (pl l c) l
  have m : x ∈ l ↔ x ∈ l.take (pl l c) ∨ x ∈ l.drop (pl l c) := by rw [← List.mem_append, this]
  rw [m]
  constructor
  · rintro ((a | a) | a)
    · exact .inl (.inl a)
    · exact .inr a
    · exact .inl (.inr a)
  · rintro ((a | a) | a)
    · exact .inl (.inl a)
    · exact .inr a
    · exact .inl (.inr a)
theorem deWith_ev (l : List ByteArray) (c : ByteArray) (hl : l.length ≤ 1000000) : Ev (fun k => spec_deWith.f k l c) (wth l c) := by
  unfold spec_deWith.f
  have pe := pl_le l c
  have tk : (l.take (pl l c)).length = pl l c := by rw [List.length_take]; omega
  have dk : (l.drop (pl l c)).length = l.length - pl l c := List.length_drop ..
  refine ev_loop (g := fun j k => spec_deWith.l0 k l c (j : Int)) (pl l c) ?_ ?_
  · intro j hj ih
    have g : rdOf ByteArray.empty l (j : Int) = l[j] := by rw [rd_gt, gt_get l (by omega)]
    have b := pl_lt l c hj (by omega)
    refine Ev.succ ?_
    simp only [spec_deWith.l0, if_pos (show (j : Int) < (l.length : Int) by omega), if_pos (show (0 : Int) ≤ (j : Int) by omega), g, if_pos b, w64 (x := (j : Int) + 1) (by omega) (by omega)]
    exact ih
  · refine Ev.succ ?_
    by_cases q : pl l c < l.length
    · have g : rdOf ByteArray.empty l ((pl l c : Nat) : Int) = l[pl l c] := by rw [rd_gt, gt_get l q]
      have b := pl_at l c q
      simp only [spec_deWith.l0, if_pos (show ((pl l c : Nat) : Int) < (l.length : Int) by omega), if_pos (show (0 : Int) ≤ ((pl l c : Nat) : Int) by omega), g, b, Bool.false_eq_true, if_false, if_pos (show ((pl l c : Nat) : Int) ≤ (l.length : Int) by omega), Int.toNat_natCast, ownS_eq (l.take (pl l c)) (by omega), Option.bind_some, List.length_append, tk, dk, List.length_cons, List.length_nil, if_pos (show pl l c + (0 + 1) < 8796093022208 by omega), if_pos (show pl l c + (0 + 1) + (l.length - pl l c) < 8796093022208 by omega)]
      exact Ev.now _
    · simp only [spec_deWith.l0, if_neg (show ¬ ((pl l c : Nat) : Int) < (l.length : Int) by omega), if_pos (show (0 : Int) ≤ ((pl l c : Nat) : Int) by omega), if_pos (show ((pl l c : Nat) : Int) ≤ (l.length : Int) by omega), Int.toNat_natCast, ownS_eq (l.take (pl l c)) (by omega), Option.bind_some, List.length_append, tk, dk, List.length_cons, List.length_nil, if_pos (show pl l c + (0 + 1) < 8796093022208 by omega), if_pos (show pl l c + (0 + 1) + (l.length - pl l c) < 8796093022208 by omega)]
      exact Ev.now _
theorem liv_wth {W D : Int} (h : LK W D) (l : List ByteArray) {v : Nat} (hv : v < NN W D) : liv W D (wth l (co W D v)) = les (liv W D l) v := by
  funext w
  unfold les liv
  by_cases hw : w < NN W D
  · simp only [if_pos hw]
    rw [Bool.eq_iff_iff, Bool.and_eq_true, Bool.not_eq_true', Bool.not_eq_true', decide_eq_true_eq, ← Bool.not_eq_true, ← Bool.not_eq_true, hasS_iff, hasS_iff, wth_mem]
    constructor
    · exact fun q => ⟨fun a => q (.inl a), fun a => q (.inr (by rw [a]))⟩
    · rintro ⟨a, b⟩ (c | c)
      · exact a c
      · exact b (co_inj h hw hv c)
  · simp only [if_neg hw, Bool.true_and]
    exact (decide_eq_true (by omega)).symm

def cutB (W D : Int) (l : List ByteArray) (f t v : Nat) : Bool := decide (dt (tab (nbF W D) (les (liv W D l) v) (NN W D) f) t < 0)
def ndP (W D : Int) (l : List ByteArray) (f t v : Nat) : Bool := (!(decide (v = f) || (decide (v = t) || hasS l (co W D v)))) && cutB W D l f t v
def ndL (W D : Int) (l : List ByteArray) (f t : Nat) : List ByteArray := ((List.range (NN W D)).filter (ndP W D l f t)).map (co W D)
theorem ndL_len (W D : Int) (l : List ByteArray) (f t : Nat) : (ndL W D l f t).length ≤ NN W D := by
  unfold ndL
  rw [List.length_map]
  exact Nat.le_trans (List.length_filter_le _ _) (by rw [List.length_range]; exact Nat.le_refl _)
theorem specLoop_ev {W D : Int} (h : LK W D) (l : List ByteArray) (hl : l.length ≤ 1000) {f t : Nat} (hf : f < NN W D) (ht : t < NN W D) : Ev (fun k => spec_NeededCodes.l0 k l (co W D f) (co W D t) [] 0 W D) (ndL W D l f t, true) := by
  have hc := NN_cnt h
  have cb := cnt_bd h
  unfold ndL
  refine ev_loop (g := fun j k => spec_NeededCodes.l0 k l (co W D f) (co W D t) (((List.range j).filter (ndP W D l f t)).map (co W D)) (j : Int) W D) (NN W D) ?_ ?_
  · intro j hj ih
    have ol : (((List.range j).filter (ndP W D l f t)).map (co W D)).length ≤ j := by
      rw [List.length_map]
      exact Nat.le_trans (List.length_filter_le _ _) (by rw [List.length_range]; exact Nat.le_refl _)
    have wo := whOf_ev h (n := (j : Int)) (by omega) (by omega)
    rw [show txt (cod D W.toNat (j : Int)) = co W D j from rfl] at wo
    rw [List.range_succ, List.filter_append, List.map_append] at ih
    have wl := wth_len l (co W D j)
    have few := deFew_ev h (wth l (co W D j)) (by omega) hf ht
    have et : tb W D (wth l (co W D j)) f = tab (nbF W D) (les (liv W D l) j) (NN W D) f := by unfold tb; rw [liv_wth h l hj]
    rw [et] at few
    have back : ∀ x48 : Bool, x48 = (decide (j = f) || (decide (j = t) || hasS l (co W D j))) → Ev (fun k => spec_NeededCodes.j2 k l (co W D f) (co W D t) (((List.range j).filter (ndP W D l f t)).map (co W D)) (j : Int) (co W D j) x48 W D) (((List.range (NN W D)).filter (ndP W D l f t)).map (co W D), true) := by
      intro x48 hx
      refine Ev.succ ?_
      by_cases q : x48 = true
      · have np : ndP W D l f t j = false := by unfold ndP; rw [← hx, q]; rfl
        simp only [List.filter_cons, np, Bool.false_eq_true, if_false, List.filter_nil, List.map_nil, List.append_nil] at ih
        simp only [spec_NeededCodes.j2, q, if_true, w64 (x := (j : Int) + 1) (by omega) (by omega)]
        exact ih
      · have q' := Bool.eq_false_iff.mpr q
        simp only [spec_NeededCodes.j2, q', Bool.false_eq_true, if_false, w64 (x := (j : Int) + 1) (by omega) (by omega)]
        refine Ev.bind (deWith_ev l (co W D j) (by omega)) (Ev.bind few ?_)
        by_cases c : dt (tab (nbF W D) (les (liv W D l) j) (NN W D) f) t < 0
        · have np : ndP W D l f t j = true := by unfold ndP cutB; rw [← hx, q', decide_eq_true c]; rfl
          simp only [List.filter_cons, np, if_true, List.filter_nil, List.map_cons, List.map_nil] at ih
          simp only [if_pos c, if_pos (show (((List.range j).filter (ndP W D l f t)).map (co W D)).length < 8796093022208 by omega)]
          exact ih
        · have np : ndP W D l f t j = false := by unfold ndP cutB; rw [decide_eq_false c, Bool.and_false]
          simp only [List.filter_cons, np, Bool.false_eq_true, if_false, List.filter_nil, List.map_nil, List.append_nil] at ih
          simp only [if_neg c]
          exact ih
    refine Ev.succ ?_
    simp only [spec_NeededCodes.l0]
    refine Ev.bind (whCount_ev h) ?_
    simp only [if_pos (show (j : Int) < cnt W D by omega)]
    refine Ev.bind wo ?_
    by_cases e1 : j = f
    · subst e1
      simp only [if_true]
      exact back true (by simp)
    · have n1 : ¬ (co W D j).toList = (co W D f).toList := fun q => e1 (co_inj h hj hf (toList_inj.mp q))
      simp only [if_neg n1]
      by_cases e2 : j = t
      · subst e2
        simp only [if_true]
        exact back true (by simp)
      · have n2 : ¬ (co W D j).toList = (co W D t).toList := fun q => e2 (co_inj h hj ht (toList_inj.mp q))
        simp only [if_neg n2]
        refine Ev.bind (hasS_ev l (co W D j) (by omega)) ?_
        exact back _ (by rw [decide_eq_false e1, decide_eq_false e2, Bool.false_or, Bool.false_or])
  · refine Ev.succ ?_
    simp only [spec_NeededCodes.l0]
    refine Ev.bind (whCount_ev h) ?_
    simp only [if_neg (show ¬ ((NN W D : Nat) : Int) < cnt W D by omega)]
    exact Ev.now _

def wyP (W D : Int) (l : List ByteArray) (f t v : Nat) : Bool := (!decide (v = t)) && cutB W D l f t v
theorem sorted_ev (x : List ByteArray) (h : x.length ≤ 1000000000) : impl_sorted.f x = some (impl_sorted.val x) := by
  unfold impl_sorted.f; rw [if_pos h]
theorem way_ev {W D : Int} (h : LK W D) (l : List ByteArray) {f t : Nat} (hf : f < NN W D) (ht : t < NN W D) : ∀ (n a : Nat) (pre : List S66) (out : List ByteArray), a < NN W D → dt (tb W D l t) a = (n : Int) → pre.length + n ≤ 100000000 → out.length + n ≤ 100000000 →
    Ev (fun k => impl_NeededCodes.l0 k (co W D f) (co W D t) out (co W D a) (pre ++ (gwy (nbF W D) (tb W D l t) n a).map trn) ((pre ++ (gwy (nbF W D) (tb W D l t) n a).map trn).length : Int) (pre.length : Int) W D W D (Td W D l)) (impl_sorted.val (out ++ ((gwn (nbF W D) (tb W D l t) n a).filter (wyP W D l f t)).map (co W D)), true)
  | 0, a, pre, out, ha, hd, hp, ho => by
    refine Ev.succ ?_
    simp only [impl_NeededCodes.l0, gwy, gwn, List.map_nil, List.append_nil, List.filter_nil, if_neg (show ¬ (pre.length : Int) < (pre.length : Int) by omega), sorted_ev out (by omega), Option.bind_some]
    exact Ev.now _
  | n + 1, a, pre, out, ha, hd, hp, ho => by
    have T := tb_tab h l ht
    have dd := LK.d h
    have hw := LK.w h
    have hc := NN_cnt h
    have cb := cnt_bd h
    obtain ⟨hj, e, d1, m, lt, _⟩ := g_at (sy_nb h) T ha hd
    obtain ⟨j, ej⟩ : ∃ j, gj (nbF W D) (tb W D l t) n a = j := ⟨_, rfl⟩
    obtain ⟨v, ev⟩ : ∃ v, gnx (nbF W D) (tb W D l t) n a = v := ⟨_, rfl⟩
    have wy : gwy (nbF W D) (tb W D l t) (n + 1) a = j :: gwy (nbF W D) (tb W D l t) n v := by rw [← ej, ← ev]; rfl
    have wn : gwn (nbF W D) (tb W D l t) (n + 1) a = v :: gwn (nbF W D) (tb W D l t) n v := by rw [← ev]; rfl
    rw [wy, wn]
    rw [ev] at e d1 m lt
    have lf := nbF_len W D a
    obtain ⟨c1, c2, c3⟩ := codeOf h (co_isC h a)
    have cv := nbF_co h a hj
    rw [e] at cv
    simp only [ej] at cv hj
    have tu := turned_ev (W := W) dd c2 (by omega) (i := j / 2) (by omega) (e := (trn j).f1) (by rcases (trn_f (m := j)).2.2 with q | q <;> rw [q] <;> omega)
    rw [c3, ← (trn_f (m := j)).2.1, ← cv] at tu
    have gl : (gwy (nbF W D) (tb W D l t) n v).length = n := gwy_len _ _ _ _
    have al : (pre ++ (j :: gwy (nbF W D) (tb W D l t) n v).map trn).length = pre.length + (n + 1) := by simp [gl]
    have rt : rd_T66 (pre ++ (j :: gwy (nbF W D) (tb W D l t) n v).map trn) (pre.length : Int) = trn j := by
      unfold rd_T66
      rw [Int.toNat_natCast, List.getD_eq_getElem?_getD, List.getElem?_append_right (Nat.le_refl _), Nat.sub_self]
      rfl
    have ap : pre ++ (j :: gwy (nbF W D) (tb W D l t) n v).map trn = (pre ++ [trn j]) ++ (gwy (nbF W D) (tb W D l t) n v).map trn := by simp
    refine Ev.succ ?_
    simp only [impl_NeededCodes.l0, al, if_pos (show (pre.length : Int) < ((pre.length + (n + 1) : Nat) : Int) by omega), if_pos (show (0 : Int) ≤ (pre.length : Int) by omega), rt]
    refine Ev.bind tu ?_
    by_cases q : v = t
    · have n0 : n = 0 := by
        have := T.start
        rw [q, this] at d1
        omega
      have wp : wyP W D l f t v = false := by unfold wyP; rw [decide_eq_true q]; rfl
      subst n0
      simp only [if_pos (show (co W D v).toList = (co W D t).toList by rw [q]), sorted_ev out (by omega), Option.bind_some]
      simp only [gwn, List.filter_cons, wp, Bool.false_eq_true, if_false, List.filter_nil, List.map_nil, List.append_nil]
      exact Ev.now _
    · have nq : ¬ (co W D v).toList = (co W D t).toList := fun y => q (co_inj h lt ht (toList_inj.mp y))
      have lv : liv W D l v = true := (T.pred v (by
        by_cases z : dt (tb W D l t) v = 0
        · exact absurd (T.zero v z) q
        · omega)).1
      have tl := Td_len W D l
      have fe := far_ev h (T := (Td W D l).set v true) (by rw [List.length_set, tl]) hf
      rw [liT_set (by omega), liT_Td] at fe
      have T2 : Tab (NN W D) (nbF W D) (les (liv W D l) v) f (tab (nbF W D) (les (liv W D l) v) (NN W D) f) := tab_tab (fun u _ => nbF_lt h u) hf
      have fl := T2.len
      have bk : ((Td W D l).set v true).set v false = Td W D l := by
        rw [List.set_set]
        refine List.ext_getElem (by rw [List.length_set]) fun i h1 h2 => ?_
        rw [List.getElem_set]
        by_cases z : v = i
        · subst z
          rw [if_pos rfl]
          have := Td_get W D l lt
          rw [List.getD_eq_getElem?_getD, List.getElem?_eq_getElem h2] at this
          rw [liv_lt lt] at lv
          have l2 : hasS l (co W D v) = false := by simpa using lv
          rw [l2] at this
          exact this.symm
        · rw [if_neg z]
      have w1 : wrap64 ((pre.length : Int) + 1) = ((pre ++ [trn j]).length : Int) := by
        rw [w64 (by omega) (by omega), List.length_append]; simp
      have ih := fun (o : List ByteArray) (ho' : o.length + n ≤ 100000000) => way_ev h l hf ht n v (pre ++ [trn j]) o lt d1 (by rw [List.length_append]; simp only [List.length_cons, List.length_nil]; omega) ho'
      rw [← ap] at ih
      simp only [al] at ih
      simp only [if_neg nq]
      refine Ev.bind (number_co h lt) ?_
      simp only [tl, if_pos (show (0 : Int) ≤ (v : Int) by omega), if_pos (show (v : Int) < ((NN W D : Nat) : Int) by omega), Int.toNat_natCast, Option.bind_some, bk, w1]
      refine Ev.bind (number_co h hf) (Ev.bind fe (Ev.bind (number_co h ht) ?_))
      simp only [fl, if_pos (show (0 : Int) ≤ (t : Int) by omega), if_pos (show (t : Int) < ((NN W D : Nat) : Int) by omega), rd_dt (show t < (tab (nbF W D) (les (liv W D l) v) (NN W D) f).length by omega)]
      by_cases c : dt (tab (nbF W D) (les (liv W D l) v) (NN W D) f) t < 0
      · have wp : wyP W D l f t v = true := by unfold wyP cutB; rw [decide_eq_false q, decide_eq_true c]; rfl
        have r := ih (out ++ [co W D v]) (by rw [List.length_append]; simp only [List.length_cons, List.length_nil]; omega)
        rw [List.append_assoc] at r
        simp only [if_pos c, if_pos (show out.length < 8796093022208 by omega), List.filter_cons, wp, if_true, List.map_cons]
        exact r
      · have wp : wyP W D l f t v = false := by unfold wyP cutB; rw [decide_eq_false c, Bool.and_false]
        have r := ih out (by omega)
        simp only [if_neg c, List.filter_cons, wp, Bool.false_eq_true, if_false]
        exact r

theorem nd_same {W D : Int} (h : LK W D) (l : List ByteArray) {f t : Nat} (hf : f < NN W D) (ht : t < NN W D) (lt : liv W D l t = true) {n : Nat} (hd : dt (tb W D l t) f = (n : Int)) :
    impl_sorted.val (((gwn (nbF W D) (tb W D l t) n f).filter (wyP W D l f t)).map (co W D)) = ndL W D l f t := by
  have T := tb_tab h l ht
  obtain ⟨g1, g2⟩ := gwn_ok (sy_nb h) T n f hf hd
  have gl : (gwn (nbF W D) (tb W D l t) n f).length = n := gwn_len _ _ _ _
  have lv : ∀ u ∈ gwn (nbF W D) (tb W D l t) n f, liv W D l u = true := by
    intro u hu
    obtain ⟨i, hi, e⟩ := List.mem_iff_getElem.mp hu
    have := (g1 i hi).2
    rw [e] at this
    by_cases z : dt (tb W D l t) u = 0
    · rw [T.zero u z]; exact lt
    · exact (T.pred u (by omega)).1
  refine asc_eq _ _ (val_asc _) (co_asc h _) fun x => ?_
  rw [val_mem, ndL]
  simp only [List.mem_map, List.mem_filter, List.mem_range]
  constructor
  · rintro ⟨v, ⟨hv, hp⟩, rfl⟩
    obtain ⟨i, hi, e⟩ := List.mem_iff_getElem.mp hv
    have gi := g1 i hi
    rw [e] at gi
    unfold wyP at hp
    rw [Bool.and_eq_true, Bool.not_eq_true', decide_eq_false_iff_not] at hp
    refine ⟨v, ⟨gi.1, ?_⟩, rfl⟩
    unfold ndP
    have nf : v ≠ f := by rintro rfl; omega
    have ll := lv v hv
    rw [liv_lt gi.1] at ll
    have l2 : hasS l (co W D v) = false := by simpa using ll
    rw [decide_eq_false nf, decide_eq_false hp.1, l2, hp.2]; rfl
  · rintro ⟨v, ⟨hv, hp⟩, rfl⟩
    unfold ndP at hp
    rw [Bool.and_eq_true, Bool.not_eq_true', Bool.or_eq_false_iff, Bool.or_eq_false_iff, decide_eq_false_iff_not, decide_eq_false_iff_not] at hp
    obtain ⟨⟨a, b, c⟩, hc⟩ := hp
    refine ⟨v, ⟨?_, ?_⟩, rfl⟩
    · by_cases q : v ∈ gwn (nbF W D) (tb W D l t) n f
      · exact q
      · exfalso
        have w := g2 (les (liv W D l) v) fun u hu => by
          unfold les
          rw [lv u hu, Bool.true_and, decide_eq_true_eq]
          rintro rfl; exact q hu
        have T2 : Tab (NN W D) (nbF W D) (les (liv W D l) v) f (tab (nbF W D) (les (liv W D l) v) (NN W D) f) := tab_tab (fun u _ => nbF_lt h u) hf
        have := (T2.few w).1
        have := of_decide_eq_true hc
        omega
    · unfold wyP; rw [decide_eq_false b, hc]; rfl
theorem reach_same {W D : Int} (h : LK W D) (l : List ByteArray) {f t : Nat} (hf : f < NN W D) (ht : t < NN W D) (lf : liv W D l f = true) (lt : liv W D l t = true) : dt (tb W D l f) t < 0 ↔ dt (tb W D l t) f < 0 := by
  have sy := sy_nb h
  have T1 := tb_tab h l hf
  have T2 := tb_tab h l ht
  have a := T1.iff t
  have b := T2.iff f
  have key : 0 ≤ dt (tb W D l f) t ↔ 0 ≤ dt (tb W D l t) f := by
    rw [a, b]
    exact ⟨fun ⟨n, w⟩ => ⟨n, (way_rev sy.symm sy.lt hf lf w).2.2⟩, fun ⟨n, w⟩ => ⟨n, (way_rev sy.symm sy.lt ht lt w).2.2⟩⟩
  omega

def ndOk (W D : Int) (l : List ByteArray) (c d : ByteArray) : Bool := decide (RK W D) && (deadB W D l && (liveB W D l c && liveB W D l d))
def ndR (W D : Int) (l : List ByteArray) (c d : ByteArray) : List ByteArray × Bool := if ndOk W D l c d = true then (if dt (tb W D l (no D d)) (no D c) < 0 then ([], false) else (ndL W D l (no D c) (no D d), true)) else ([], false)
theorem deTwo_ev (W D : Int) (l : List ByteArray) (c d : ByteArray) (hs : ∀ s ∈ l, s.size ≤ 140737488351232) (hc : c.size ≤ 140737488351232) (hd : d.size ≤ 140737488351232) : Ev (fun k => spec_deTwo.f k W D l c d) (ndOk W D l c d) := by
  unfold spec_deTwo.f ndOk
  refine Ev.bind (asked_ev W D l c hs hc) ?_
  have a2 := asked_ev W D l d hs hd
  by_cases q : (decide (RK W D) && (deadB W D l && liveB W D l c)) = true
  · simp only [q, if_true]
    refine Ev.bind a2 ?_
    have e : (decide (RK W D) && (deadB W D l && liveB W D l d)) = (decide (RK W D) && (deadB W D l && (liveB W D l c && liveB W D l d))) := by
      rw [Bool.and_eq_true, Bool.and_eq_true] at q
      rw [q.2.2, Bool.true_and]
    rw [e]; exact Ev.now _
  · simp only [if_neg q]
    have e : (decide (RK W D) && (deadB W D l && (liveB W D l c && liveB W D l d))) = false := by
      rw [Bool.eq_false_iff]
      intro y
      rw [Bool.and_eq_true, Bool.and_eq_true, Bool.and_eq_true] at y
      exact q (by rw [y.1, y.2.1, y.2.2.1]; rfl)
    rw [e]; exact Ev.now _
theorem needed_both (W D : Int) (l : List ByteArray) (c d : ByteArray) (hl : l.length ≤ 140737488351232) (hs : ∀ s ∈ l, s.size ≤ 140737488351232) (hc : c.size ≤ 140737488351232) (hd : d.size ≤ 140737488351232) :
    Ev (fun k => spec_NeededCodes.f k W D l c d) (ndR W D l c d) ∧ Ev (fun k => impl_NeededCodes.f k W D l c d) (ndR W D l c d) := by
  have a1 := deTwo_ev W D l c d hs hc hd
  unfold spec_NeededCodes.f impl_NeededCodes.f ndR
  by_cases q : ndOk W D l c d = true
  · rw [q] at a1
    simp only [if_pos q]
    unfold ndOk at q
    rw [Bool.and_eq_true, Bool.and_eq_true, Bool.and_eq_true, decide_eq_true_eq] at q
    obtain ⟨hr, hdd, hv1, hv2⟩ := q
    have h := hr.1
    have dl := deadB_len hdd
    have i1 : isC W D c = true := by unfold liveB at hv1; rw [Bool.and_eq_true] at hv1; exact hv1.1
    have i2 : isC W D d = true := by unfold liveB at hv2; rw [Bool.and_eq_true] at hv2; exact hv2.1
    have s1 : hasS l c = false := by unfold liveB at hv1; rw [Bool.and_eq_true] at hv1; simpa using hv1.2
    have s2 : hasS l d = false := by unfold liveB at hv2; rw [Bool.and_eq_true] at hv2; simpa using hv2.2
    have hf := no_lt h i1
    have ht := no_lt h i2
    have e1 := co_no h i1
    have e2 := co_no h i2
    obtain ⟨f, ef⟩ : ∃ f, no D c = f := ⟨_, rfl⟩
    obtain ⟨t, et⟩ : ∃ t, no D d = t := ⟨_, rfl⟩
    rw [ef] at hf e1 ⊢
    rw [et] at ht e2 ⊢
    have lf : liv W D l f = true := by rw [liv_lt hf, e1, s1]; rfl
    have lt : liv W D l t = true := by rw [liv_lt ht, e2, s2]; rfl
    rw [← e1, ← e2] at a1 ⊢
    rw [← e1] at hv1
    rw [← e2] at hv2
    have rs := reach_same h l hf ht lf lt
    have T := tb_tab h l ht
    constructor
    · refine Ev.bind a1 ?_
      simp only [if_true]
      refine Ev.bind (deFew_ev h l (by omega) hf ht) (Ev.succ ?_)
      by_cases y : dt (tb W D l t) f < 0
      · simp only [spec_NeededCodes.j0, decide_eq_true (rs.mpr y), if_true, if_pos y]
        exact Ev.now _
      · simp only [spec_NeededCodes.j0, decide_eq_false (fun z => y (rs.mp z)), Bool.false_eq_true, if_false, if_neg y]
        exact specLoop_ev h l (by omega) hf ht
    · refine Ev.bind (firstAround_ev hr l hdd hf ht hv1 hv2) ?_
      by_cases y : dt (tb W D l t) f < 0
      · simp only [if_pos y, Bool.false_eq_true, if_false]
        exact Ev.now _
      · simp only [if_neg y, if_true]
        have hc := NN_cnt h
        have cb := cnt_bd h
        have bd := T.bd f
        obtain ⟨n, hn⟩ : ∃ n : Nat, dt (tb W D l t) f = (n : Int) := ⟨(dt (tb W D l t) f).toNat, by omega⟩
        refine Ev.bind (fieldOf_ev h l (by omega) (deadB_C hdd)) ?_
        have w := way_ev h l hf ht n f [] [] hf hn (by simp only [List.length_nil]; omega) (by simp only [List.length_nil]; omega)
        rw [List.nil_append, List.nil_append, nd_same h l hf ht lt hn] at w
        rw [hn, Int.toNat_natCast]
        exact w
  · rw [Bool.eq_false_iff.mpr q] at a1
    simp only [if_neg q]
    constructor
    · refine Ev.bind a1 ?_
      simp only [Bool.false_eq_true, if_false]
      refine Ev.succ ?_
      simp only [spec_NeededCodes.j0, if_true]
      exact Ev.now _
    · have a2 := areLive_ev W D l [c, d] hl hs (by simp) (fun s hs' => by
        simp only [List.mem_cons, List.not_mem_nil, or_false] at hs'
        rcases hs' with rfl | rfl
        · exact hc
        · exact hd)
      have e : (decide (RK W D) && (deadB W D l && [c, d].all (liveB W D l))) = ndOk W D l c d := by unfold ndOk; simp
      rw [e, Bool.eq_false_iff.mpr q] at a2
      refine Ev.bind (a := (([] : List S66), false)) ?_ ?_
      · unfold impl_FirstAround.f
        refine Ev.bind a2 ?_
        simp only [Bool.false_eq_true, if_false]
        exact Ev.now _
      · simp only [Bool.false_eq_true, if_false]
        exact Ev.now _
theorem ndR_len (W D : Int) (l : List ByteArray) (c d : ByteArray) : (ndR W D l c d).1.length ≤ 1000 := by
  unfold ndR
  by_cases q : ndOk W D l c d = true
  · rw [if_pos q]
    unfold ndOk at q
    rw [Bool.and_eq_true, decide_eq_true_eq] at q
    have hr := q.1
    have hc := NN_cnt hr.1
    have := ndL_len W D l (no D c) (no D d)
    have := hr.2
    split
    · simp
    · show (ndL W D l (no D c) (no D d)).length ≤ 1000
      omega
  · rw [if_neg q]; simp
end Go.Proofs.Ytihhiolflbieaaa.NE
