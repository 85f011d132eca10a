/- Codes that each way needs: first ways, the table of dead codes, both functions. No conditions. -/
import Derived.Test.YtihhiolflbieaaaNcFS
import Derived.Test.YtihhiolflbieaaaPx164
import Derived.Test.YtihhiolflbieaaaPx169
import Derived.Test.YtihhiolflbieaaaPx171
namespace Go.Proofs.Ytihhiolflbieaaa.ND
open Go.RowKit Go.Proofs.Ytihhiolflbieaaa.P Go.Proofs.Ytihhiolflbieaaa.B Go.Proofs.Ytihhiolflbieaaa.C Go.Proofs.Ytihhiolflbieaaa.L Go.Proofs.Ytihhiolflbieaaa.A Go.Proofs.Ytihhiolflbieaaa.O Go.Proofs.Ytihhiolflbieaaa.O2 Go.Proofs.Ytihhiolflbieaaa.O3 Go.Proofs.Ytihhiolflbieaaa.R Go.Proofs.Ytihhiolflbieaaa.RS Go.Proofs.Ytihhiolflbieaaa.S Go.Proofs.Ytihhiolflbieaaa.D1 Go.Proofs.Ytihhiolflbieaaa.D2 Go.Proofs.Ytihhiolflbieaaa.NX Go.Proofs.Ytihhiolflbieaaa.DE Go.Proofs.Ytihhiolflbieaaa.Q Go.Proofs.Ytihhiolflbieaaa.FF Go.Proofs.Ytihhiolflbieaaa.FS Go.Proofs.YtihhiolflbieaaaW.PrintWords Go.Proofs.YtihhiolflbieaaaW.PrintLast Go.Proofs.YtihhiolflbieaaaW.PrintMore
set_option linter.unusedVariables false
set_option linter.unusedSimpArgs false

theorem nb_nx {W D : Int} (h : LK W D) {u v : Nat} (hv : v < NN W D) : v ∈ nbF W D u ↔ Nx D (digs (co W D u)) (digs (co W D v)) := by
  have cu := co_isC h u
  have cv := co_isC h v
  have key : v ∈ nbF W D u ↔ co W D v ∈ nbs W D (co W D u) := by
    constructor
    · intro hm
      obtain ⟨m, hl, e⟩ := List.mem_iff_getElem.mp hm
      have hl2 : m < (nbs W D (co W D u)).length := by rw [nbs_len]; rw [nbF_len] at hl; exact hl
      have := List.getElem_mem hl2
      rw [nbs_get hl2, ← nbF_co h u hl, e] at this
      exact this
    · intro hm
      obtain ⟨m, hl, e⟩ := List.mem_iff_getElem.mp hm
      have hl2 : m < (nbF W D u).length := by rw [nbF_len]; rw [nbs_len] at hl; exact hl
      rw [nbs_get hl, ← nbF_co h u hl2] at e
      have := co_inj h (nbF_lt h u _ (List.getElem_mem hl2)) hv e
      rw [← this]; exact List.getElem_mem hl2
  rw [key, ← nx_mem', nx_mem h cu]
  exact ⟨fun q => q.2, fun q => ⟨cv, q⟩⟩
theorem nb_symm {W D : Int} (h : LK W D) {u v : Nat} (hu : u < NN W D) (hm : v ∈ nbF W D u) : u ∈ nbF W D v := by
  have hv := nbF_lt h u v hm
  have n1 := (nb_nx h hv).mp hm
  rw [nb_nx h hu]
  rw [co_digs h, co_digs h] at n1 ⊢
  exact Nx.symm (cod_isD (by have := LK.d h; omega) _ _) (cod_isD (by have := LK.d h; omega) _ _) n1

theorem way_cons {nb : Nat → List Nat} {live : Nat → Bool} {a b : Nat} (hb : b ∈ nb a) (hl : live b = true) : ∀ {v n : Nat}, Q.Way nb live b v n → Q.Way nb live a v (n + 1) := by
  intro v n w
  induction w with
  | nil => exact .snoc (.nil a) hb hl
  | snoc w hv hl' ih => exact .snoc ih hv hl'
theorem way_rev {nb : Nat → List Nat} {live : Nat → Bool} {N : Nat} (hs : ∀ u v, u < N → v ∈ nb u → u ∈ nb v) (hN : ∀ u, u < N → ∀ v ∈ nb u, v < N) {s : Nat} (hsN : s < N) (hl : live s = true) : ∀ {v n : Nat}, Q.Way nb live s v n → v < N ∧ live v = true ∧ Q.Way nb live v s n := by
  intro v n w
  induction w with
  | nil => exact ⟨hsN, hl, .nil s⟩
  | snoc w hv hl' ih =>
    obtain ⟨h1, h2, h3⟩ := ih
    exact ⟨hN _ h1 _ hv, hl', way_cons (hs _ _ h1 hv) h2 h3⟩

def gj (nb : Nat → List Nat) (far : List Int) (n : Nat) (a : Nat) : Nat := (nb a).findIdx fun w => decide (dt far w = (n : Int))
def gnx (nb : Nat → List Nat) (far : List Int) (n : Nat) (a : Nat) : Nat := (nb a).getD (gj nb far n a) 0
def gwy (nb : Nat → List Nat) (far : List Int) : Nat → Nat → List Nat
  | 0, _ => []
  | n + 1, a => gj nb far n a :: gwy nb far n (gnx nb far n a)
def gwn (nb : Nat → List Nat) (far : List Int) : Nat → Nat → List Nat
  | 0, _ => []
  | n + 1, a => gnx nb far n a :: gwn nb far n (gnx nb far n a)
theorem gwy_len (nb : Nat → List Nat) (far : List Int) : ∀ n a, (gwy nb far n a).length = n
  | 0, _ => rfl
  | n + 1, a => by simp [gwy, gwy_len nb far n]
theorem gwn_len (nb : Nat → List Nat) (far : List Int) : ∀ n a, (gwn nb far n a).length = n
  | 0, _ => rfl
  | n + 1, a => by simp [gwn, gwn_len nb far n]
/-- What a table from an end says of a next code. -/
structure Sy (N : Nat) (nb : Nat → List Nat) : Prop where
  symm : ∀ u v, u < N → v ∈ nb u → u ∈ nb v
  lt : ∀ u, u < N → ∀ v ∈ nb u, v < N
theorem g_at {N : Nat} {nb : Nat → List Nat} {live : Nat → Bool} {t : Nat} {far : List Int} (sy : Sy N nb) (T : Tab N nb live t far) {n a : Nat} (ha : a < N) (hd : dt far a = ((n + 1 : Nat) : Int)) :
    ∃ hj : gj nb far n a < (nb a).length, (nb a)[gj nb far n a] = gnx nb far n a ∧ dt far (gnx nb far n a) = (n : Int) ∧ gnx nb far n a ∈ nb a ∧ gnx nb far n a < N ∧ ∀ j (h : j < (nb a).length), j < gj nb far n a → ¬ (0 ≤ dt far (nb a)[j] ∧ dt far (nb a)[j] < dt far a) := by
  obtain ⟨la, u, hu, eu⟩ := T.pred a (by omega)
  have uN : u < N := by rw [← T.len]; exact dt_lt (by omega)
  have um := sy.symm u a uN hu
  have hj : gj nb far n a < (nb a).length := List.findIdx_lt_length_of_exists ⟨u, um, decide_eq_true (by omega)⟩
  have e : (nb a)[gj nb far n a] = gnx nb far n a := by unfold gnx; rw [List.getD_eq_getElem?_getD, List.getElem?_eq_getElem hj]; rfl
  have p := List.findIdx_getElem (w := hj)
  have p2 : dt far (nb a)[gj nb far n a] = (n : Int) := of_decide_eq_true p
  have m : gnx nb far n a ∈ nb a := by rw [← e]; exact List.getElem_mem hj
  refine ⟨hj, e, by rw [← e]; exact p2, m, sy.lt a ha _ m, fun j h hlt q => ?_⟩
  have np := List.not_of_lt_findIdx hlt
  have wm := List.getElem_mem h
  have back := sy.symm a _ ha wm
  have st := T.step _ a q.1 back la
  have : dt far (nb a)[j] = (n : Int) := by omega
  rw [decide_eq_true this] at np
  exact absurd np (by decide)
theorem gwn_ok {N : Nat} {nb : Nat → List Nat} {live : Nat → Bool} {t : Nat} {far : List Int} (sy : Sy N nb) (T : Tab N nb live t far) : ∀ (n a : Nat), a < N → dt far a = (n : Int) → (∀ i (h : i < (gwn nb far n a).length), (gwn nb far n a)[i] < N ∧ dt far (gwn nb far n a)[i] = ((n - 1 - i : Nat) : Int)) ∧ (∀ live' : Nat → Bool, (∀ v ∈ gwn nb far n a, live' v = true) → Q.Way nb live' a t n)
  | 0, a, ha, hd => ⟨fun i h => absurd h (by simp [gwn]), fun live' _ => by rw [T.zero a hd]; exact .nil t⟩
  | n + 1, a, ha, hd => by
    obtain ⟨hj, e, d1, m, lt, _⟩ := g_at sy T ha hd
    obtain ⟨h1, h2⟩ := gwn_ok sy T n (gnx nb far n a) lt d1
    constructor
    · intro i h
      cases i with
      | zero => exact ⟨lt, by rw [show (gwn nb far (n + 1) a)[0] = gnx nb far n a from rfl, d1, show n + 1 - 1 - 0 = n by omega]⟩
      | succ i =>
        have := h1 i (by simp only [gwn, List.length_cons] at h; omega)
        rw [show n + 1 - 1 - (i + 1) = n - 1 - i by omega]
        exact this
    · intro live' hl
      exact way_cons m (hl _ (List.mem_cons_self ..)) (h2 live' fun v hv => hl v (List.mem_cons_of_mem _ hv))

def Td (W D : Int) (l : List ByteArray) : List Bool := (List.range (NN W D)).map fun v => hasS l (co W D v)
theorem Td_len (W D : Int) (l : List ByteArray) : (Td W D l).length = NN W D := by simp [Td]
theorem Td_get (W D : Int) (l : List ByteArray) {v : Nat} (h : v < NN W D) : (Td W D l).getD v false = hasS l (co W D v) := by
  unfold Td
  rw [List.getD_eq_getElem?_getD, List.getElem?_eq_getElem (by simpa using h), List.getElem_map, List.getElem_range]; rfl
theorem liT_Td (W D : Int) (l : List ByteArray) : liT (Td W D l) = liv W D l := by
  funext v
  unfold liT liv
  by_cases h : v < NN W D
  · rw [if_pos h, Td_get W D l h]
  · rw [if_neg h, List.getD_eq_getElem?_getD, List.getElem?_eq_none (by rw [Td_len]; omega)]; rfl
/-- One number more is dead. -/
def les (live : Nat → Bool) (n : Nat) (v : Nat) : Bool := live v && decide (v ≠ n)
theorem liT_set {T : List Bool} {n : Nat} (hn : n < T.length) : liT (T.set n true) = les (liT T) n := by
  funext v
  show (!(T.set n true).getD v false) = ((!T.getD v false) && decide (v ≠ n))
  simp only [List.getD_eq_getElem?_getD, List.getElem?_set]
  by_cases e : n = v
  · subst e; simp [hn]
  · rw [if_neg e, decide_eq_true (show v ≠ n from fun q => e q.symm), Bool.and_true]
theorem hasS_snoc (l : List ByteArray) (s x : ByteArray) : hasS (l ++ [s]) x = (hasS l x || decide (x = s)) := by
  rw [Bool.eq_iff_iff, hasS_iff, Bool.or_eq_true, hasS_iff, decide_eq_true_eq, List.mem_append, List.mem_singleton]
theorem fieldOf_ev {W D : Int} (h : LK W D) (l : List ByteArray) (hl : l.length ≤ 1000000) (hc : ∀ s ∈ l, isC W D s = true) : Ev (fun k => impl_fieldOf.f k W D l) (W, D, Td W D l) := by
  have cb := cnt_bd h
  have hN := NN_cnt h
  unfold impl_fieldOf.f
  refine Ev.bind (count_ev h) ?_
  rw [← hN]
  simp only [if_pos (show (0 : Int) ≤ ((NN W D : Nat) : Int) by omega), Int.toNat_natCast, if_pos (show NN W D ≤ 281474976710656 by omega)]
  have t0 : List.replicate (NN W D) false = Td W D (l.take 0) := by
    unfold Td
    refine List.ext_getElem (by simp) fun i h1 h2 => ?_
    rw [List.getElem_replicate, List.getElem_map]; rfl
  rw [t0]
  refine ev_loop (g := fun j k => impl_fieldOf.l0 k l (l.length : Int) (j : Int) W D W D (Td W D (l.take j))) l.length ?_ ?_
  · intro j hj ih
    have g : rdOf ByteArray.empty l (j : Int) = l[j] := by rw [rd_gt, gt_get l hj]
    have cj := hc _ (List.getElem_mem hj)
    have nl := no_lt h cj
    have nm := number_co h nl
    rw [co_no h cj] at nm
    have st : (Td W D (l.take j)).set (no D l[j]) true = Td W D (l.take (j + 1)) := by
      rw [List.take_succ_eq_append_getElem hj]
      refine List.ext_getElem (by rw [List.length_set, Td_len, Td_len]) fun v h1 h2 => ?_
      rw [List.length_set, Td_len] at h1
      rw [List.getElem_set]
      have e1 : (Td W D (l.take j ++ [l[j]]))[v] = hasS (l.take j ++ [l[j]]) (co W D v) := (List.getElem_of_eq (show Td W D (l.take j ++ [l[j]]) = (List.range (NN W D)).map fun v => hasS (l.take j ++ [l[j]]) (co W D v) from rfl) h2).trans (by rw [List.getElem_map, List.getElem_range])
      have e2 : (Td W D (l.take j))[v]'(by rw [Td_len]; exact h1) = hasS (l.take j) (co W D v) := (List.getElem_of_eq (show Td W D (l.take j) = (List.range (NN W D)).map fun v => hasS (l.take j) (co W D v) from rfl) (by rw [Td_len]; exact h1)).trans (by rw [List.getElem_map, List.getElem_range])
      rw [e1, e2, hasS_snoc]
      by_cases q : no D l[j] = v
      · rw [if_pos q, ← q, co_no h cj, decide_eq_true rfl, Bool.or_true]
      · rw [if_neg q, decide_eq_false (fun q_ => q (by rw [← no_co h h1, q_])), Bool.or_false]
    refine Ev.succ ?_
    simp only [impl_fieldOf.l0, if_pos (show (j : Int) < (l.length : Int) by omega), if_pos (show (0 : Int) ≤ (j : Int) by omega), g, w64 (x := (j : Int) + 1) (by omega) (by omega)]
    refine Ev.bind nm ?_
    simp only [if_pos (show (0 : Int) ≤ ((no D l[j] : Nat) : Int) by omega), Td_len, if_pos (show ((no D l[j] : Nat) : Int) < ((NN W D : Nat) : Int) by omega), Int.toNat_natCast, st]
    exact ih
  · refine Ev.succ ?_
    simp only [impl_fieldOf.l0, if_neg (show ¬ ((l.length : Nat) : Int) < (l.length : Int) by omega)]
    rw [List.take_length]; exact Ev.now _
theorem sy_nb {W D : Int} (h : LK W D) : Sy (NN W D) (nbF W D) := ⟨fun u v hu hv => nb_symm h hu hv, fun u _ => nbF_lt h u⟩
theorem farOf_ev {W D : Int} (h : LK W D) (l : List ByteArray) (hl : l.length ≤ 1000000) (hc : ∀ s ∈ l, isC W D s = true) {s : Nat} (hs : s < NN W D) : Ev (fun k => impl_farOf.f k W D l (co W D s)) (W, D, Td W D l, tab (nbF W D) (liv W D l) (NN W D) s) := by
  unfold impl_farOf.f
  refine Ev.bind (fieldOf_ev h l hl hc) (Ev.bind (number_co h hs) ?_)
  have := far_ev h (Td_len W D l) hs
  rw [liT_Td] at this
  exact Ev.bind this (Ev.now _)

theorem fa_ev {W D : Int} (h : LK W D) (T : List Bool) {t : Nat} {live : Nat → Bool} {far : List Int} (tb : Tab (NN W D) (nbF W D) live t far) : ∀ (n a : Nat) (out : List S66), a < NN W D → dt far a = (n : Int) → out.length + n ≤ 100000000 →
    Ev (fun k => impl_FirstAround.l0 k far (a : Int) out (trns W.toNat) W D T) (out ++ (gwy (nbF W D) far n a).map trn, true)
  | 0, a, out, ha, hd, ho => by
    have len := tb.len
    refine Ev.succ ?_
    simp only [impl_FirstAround.l0, len, if_pos (show (0 : Int) ≤ (a : Int) by omega), if_pos (show (a : Int) < ((NN W D : Nat) : Int) by omega), rd_dt (show a < far.length by omega), hd, if_neg (show ¬ (((0 : Nat) : Int) > 0) by omega)]
    simp only [gwy, List.map_nil, List.append_nil]
    exact Ev.now _
  | n + 1, a, out, ha, hd, ho => by
    have len := tb.len
    have hw := LK.w h
    have lz := nbZ_len W D a
    have lf := nbF_len W D a
    have tl : (trns W.toNat).length = 2 * W.toNat := by simp [trns]
    obtain ⟨hj, e, d1, m, lt, bef⟩ := g_at (sy_nb h) tb ha hd
    refine Ev.succ ?_
    simp only [impl_FirstAround.l0, len, if_pos (show (0 : Int) ≤ (a : Int) by omega), if_pos (show (a : Int) < ((NN W D : Nat) : Int) by omega), rd_dt (show a < far.length by omega), hd, if_pos (show (((n + 1 : Nat) : Int) > 0) by omega)]
    refine Ev.bind (steps_ev h T ha) ?_
    refine ev_loop (g := fun j k => impl_FirstAround.l1 k far (a : Int) out (trns W.toNat) (nbZ W D a) ((nbZ W D a).length : Int) (j : Int) W D T) (gj (nbF W D) far n a) ?_ ?_
    · intro j hjl ih
      have jf : j < (nbF W D a).length := by omega
      have gz := nbF_get h a jf
      obtain ⟨v, hv⟩ : ∃ v, (nbF W D a)[j] = v := ⟨_, rfl⟩
      have nb := bef j jf hjl
      rw [hv] at gz nb
      have vN : v < NN W D := by rw [← hv]; exact nbF_lt h a _ (List.getElem_mem jf)
      have gr : rd (nbZ W D a) (j : Int) = (v : Int) := by rw [rd_get _ j (by omega), ← gz]
      rw [hd] at nb
      refine Ev.succ ?_
      simp only [impl_FirstAround.l1, lz, if_pos (show (j : Int) < ((2 * W.toNat : Nat) : Int) by omega), if_pos (show (0 : Int) ≤ (j : Int) by omega), gr, len, if_pos (show (0 : Int) ≤ (v : Int) by omega), if_pos (show (v : Int) < ((NN W D : Nat) : Int) by omega), rd_dt (show v < far.length by omega), if_pos (show (0 : Int) ≤ (a : Int) by omega), if_pos (show (a : Int) < ((NN W D : Nat) : Int) by omega), rd_dt (show a < far.length by omega), hd, w64 (x := (j : Int) + 1) (by omega) (by omega)]
      rw [lz] at ih
      by_cases q : dt far v ≥ 0
      · simp only [if_pos q, if_neg (show ¬ dt far v < ((n + 1 : Nat) : Int) by omega)]; exact ih
      · simp only [if_neg q]; exact ih
    · have gz := nbF_get h a hj
      rw [e] at gz
      have gr : rd (nbZ W D a) ((gj (nbF W D) far n a : Nat) : Int) = ((gnx (nbF W D) far n a : Nat) : Int) := by rw [rd_get _ _ (by omega), ← gz]
      have jt : gj (nbF W D) far n a < (trns W.toNat).length := by omega
      have et : rd_T66 (trns W.toNat) ((gj (nbF W D) far n a : Nat) : Int) = trn (gj (nbF W D) far n a) := by
        unfold rd_T66
        rw [Int.toNat_natCast, List.getD_eq_getElem?_getD, List.getElem?_eq_getElem jt]
        simp [trns]
      have ih := fa_ev h T tb n (gnx (nbF W D) far n a) (out ++ [trn (gj (nbF W D) far n a)]) lt d1 (by rw [List.length_append]; simp only [List.length_cons, List.length_nil]; omega)
      refine Ev.succ ?_
      simp only [impl_FirstAround.l1, lz, if_pos (show ((gj (nbF W D) far n a : Nat) : Int) < ((2 * W.toNat : Nat) : Int) by omega), if_pos (show (0 : Int) ≤ ((gj (nbF W D) far n a : Nat) : Int) by omega), gr, len, if_pos (show (0 : Int) ≤ ((gnx (nbF W D) far n a : Nat) : Int) by omega), if_pos (show ((gnx (nbF W D) far n a : Nat) : Int) < ((NN W D : Nat) : Int) by omega), rd_dt (show gnx (nbF W D) far n a < far.length by omega), d1, if_pos (show ((n : Nat) : Int) ≥ 0 by omega), if_pos (show (0 : Int) ≤ (a : Int) by omega), if_pos (show (a : Int) < ((NN W D : Nat) : Int) by omega), rd_dt (show a < far.length by omega), hd, if_pos (show ((n : Nat) : Int) < ((n + 1 : Nat) : Int) by omega), tl, et, if_pos (show out.length < 8796093022208 by omega)]
      rw [show gwy (nbF W D) far (n + 1) a = gj (nbF W D) far n a :: gwy (nbF W D) far n (gnx (nbF W D) far n a) from rfl, List.map_cons]
      rw [List.append_assoc] at ih
      exact ih
/-- The table from an end. -/
def tb (W D : Int) (l : List ByteArray) (s : Nat) : List Int := tab (nbF W D) (liv W D l) (NN W D) s
theorem tb_tab {W D : Int} (h : LK W D) (l : List ByteArray) {s : Nat} (hs : s < NN W D) : Tab (NN W D) (nbF W D) (liv W D l) s (tb W D l s) := tab_tab (fun u _ => nbF_lt h u) hs
theorem firstAround_ev {W D : Int} (hr : RK W D) (l : List ByteArray) (hd : deadB W D l = true) {f t : Nat} (hf : f < NN W D) (ht : t < NN W D) (lf : liveB W D l (co W D f) = true) (lt : liveB W D l (co W D t) = true) :
    Ev (fun k => impl_FirstAround.f k W D l (co W D f) (co W D t)) (if dt (tb W D l t) f < 0 then ([], false) else ((gwy (nbF W D) (tb W D l t) (dt (tb W D l t) f).toNat f).map trn, true)) := by
  have h := hr.1
  have dl := deadB_len hd
  have hw := LK.w h
  have hc := NN_cnt h
  have cb := cnt_bd h
  have sz : ∀ v, (co W D v).size ≤ 100 := fun v => by have := isC_size (co_isC h v); omega
  have al := areLive_ev W D l [co W D f, co W D t] (by omega) (fun s hs => by have := isC_size (deadB_C hd s hs); omega) (by simp) (fun s hs => by
    simp only [List.mem_cons, List.not_mem_nil, or_false] at hs
    rcases hs with rfl | rfl
    · have := sz f; omega
    · have := sz t; omega)
  rw [decide_eq_true hr, hd, show [co W D f, co W D t].all (liveB W D l) = true by simp [lf, lt]] at al
  have T := tb_tab h l ht
  unfold impl_FirstAround.f
  refine Ev.bind al ?_
  simp only [Bool.and_self, if_true]
  refine Ev.bind (farOf_ev h l (by omega) (deadB_C hd) ht) (Ev.bind (number_co h hf) ?_)
  have tn := turns_ev (W := W.toNat) hw.2.1
  rw [hw.1] at tn
  refine Ev.bind tn ?_
  have len : (tab (nbF W D) (liv W D l) (NN W D) t).length = NN W D := T.len
  simp only [len, if_pos (show (0 : Int) ≤ (f : Int) by omega), if_pos (show (f : Int) < ((NN W D : Nat) : Int) by omega), rd_dt (show f < (tab (nbF W D) (liv W D l) (NN W D) t).length by omega)]
  show Ev _ (if dt (tab (nbF W D) (liv W D l) (NN W D) t) f < 0 then _ else _)
  by_cases q : dt (tab (nbF W D) (liv W D l) (NN W D) t) f < 0
  · simp only [if_pos q]; exact Ev.now _
  · simp only [if_neg q]
    have bd := T.bd f
    have bd' : dt (tab (nbF W D) (liv W D l) (NN W D) t) f ≤ (NN W D : Int) := bd
    have := fa_ev h (Td W D l) T (dt (tb W D l t) f).toNat f [] hf (by show dt (tab (nbF W D) (liv W D l) (NN W D) t) f = _; unfold tb; omega) (by unfold tb; simp only [List.length_nil]; omega)
    rw [List.nil_append] at this
    exact this
end Go.Proofs.Ytihhiolflbieaaa.ND
