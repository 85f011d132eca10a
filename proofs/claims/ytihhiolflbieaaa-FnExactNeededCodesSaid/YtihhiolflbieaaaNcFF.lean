/- Locks with dead codes: the search by breadth, by both functions. No conditions. -/
import Derived.Test.YtihhiolflbieaaaNcDE
import Derived.Test.YtihhiolflbieaaaNcO3
import Derived.Test.YtihhiolflbieaaaNcQ
import Derived.Test.YtihhiolflbieaaaPx9
import Derived.Test.YtihhiolflbieaaaPx75
import Derived.Test.YtihhiolflbieaaaPx164
import Derived.Test.YtihhiolflbieaaaPx169
namespace Go.Proofs.Ytihhiolflbieaaa.FF
open Go.RowKit Go.Proofs.Ytihhiolflbieaaa.P Go.Proofs.Ytihhiolflbieaaa.B Go.Proofs.Ytihhiolflbieaaa.C Go.Proofs.Ytihhiolflbieaaa.L Go.Proofs.Ytihhiolflbieaaa.A Go.Proofs.Ytihhiolflbieaaa.O Go.Proofs.Ytihhiolflbieaaa.O2 Go.Proofs.Ytihhiolflbieaaa.O3 Go.Proofs.Ytihhiolflbieaaa.R Go.Proofs.Ytihhiolflbieaaa.RS Go.Proofs.Ytihhiolflbieaaa.S Go.Proofs.Ytihhiolflbieaaa.D1 Go.Proofs.Ytihhiolflbieaaa.D2 Go.Proofs.Ytihhiolflbieaaa.NX Go.Proofs.Ytihhiolflbieaaa.DE Go.Proofs.Ytihhiolflbieaaa.Q Go.Proofs.YtihhiolflbieaaaW.PrintWords Go.Proofs.YtihhiolflbieaaaW.PrintLast Go.Proofs.YtihhiolflbieaaaW.PrintMore
set_option linter.unusedVariables false
set_option linter.unusedSimpArgs false

theorem cod_get (D : Int) : ∀ (j : Nat) (n : Int) (i : Nat) (h : i < j), (cod D j n)[i]'(by rw [cod_len]; exact h) = n / D ^ (j - 1 - i) % D
  | 0, _, _, h => absurd h (by omega)
  | j + 1, n, 0, h => by simp [cod]
  | j + 1, n, i + 1, h => by
    have := cod_get D j n i (by omega)
    simp only [cod, List.getElem_cons_succ, this]
    rw [show j + 1 - 1 - (i + 1) = j - 1 - i by omega]
theorem num_set (D : Int) : ∀ (a : List Int) (i : Nat) (h : i < a.length) (x : Int), num D (a.set i x) = num D a + (x - a[i]) * D ^ (a.length - 1 - i)
  | [], _, h, _ => absurd h (by simp)
  | y :: ys, 0, h, x => by
    simp only [List.set_cons_zero, num, List.getElem_cons_zero, List.length_cons, Int.sub_mul]
    rw [show ys.length + 1 - 1 - 0 = ys.length by omega]
    omega
  | y :: ys, i + 1, h, x => by
    have := num_set D ys i (by simpa using h) x
    simp only [List.set_cons_succ, num, List.length_set, List.getElem_cons_succ, List.length_cons, this]
    rw [show ys.length + 1 - 1 - (i + 1) = ys.length - 1 - i by omega]
    omega
def NN (W D : Int) : Nat := (cnt W D).toNat
theorem NN_cnt {W D : Int} (h : LK W D) : (NN W D : Int) = cnt W D := by have := cnt_bd h; unfold NN; omega
/-- The code with a number. -/
def co (W D : Int) (v : Nat) : ByteArray := txt (cod D W.toNat (v : Int))
theorem co_isC {W D : Int} (h : LK W D) (v : Nat) : isC W D (co W D v) = true := cod_isC h _
theorem co_digs {W D : Int} (h : LK W D) (v : Nat) : digs (co W D v) = cod D W.toNat (v : Int) := digs_txt (IsD.mono (cod_isD (by have := LK.d h; omega) _ _) (LK.d h).2)
theorem co_nu {W D : Int} (h : LK W D) {v : Nat} (hv : v < NN W D) : nu D (co W D v) = (v : Int) := nu_txt h (by omega) (by have := NN_cnt h; omega)
/-- The number of a code. -/
def no (D : Int) (s : ByteArray) : Nat := (nu D s).toNat
theorem no_nu {W D : Int} (h : LK W D) {s : ByteArray} (hs : isC W D s = true) : (no D s : Int) = nu D s := by have := nu_bd h hs; unfold no; omega
theorem no_lt {W D : Int} (h : LK W D) {s : ByteArray} (hs : isC W D s = true) : no D s < NN W D := by have := nu_bd h hs; have := no_nu h hs; have := NN_cnt h; omega
theorem co_no {W D : Int} (h : LK W D) {s : ByteArray} (hs : isC W D s = true) : co W D (no D s) = s := by unfold co; rw [no_nu h hs]; exact (nu_cod h hs).symm
theorem no_co {W D : Int} (h : LK W D) {v : Nat} (hv : v < NN W D) : no D (co W D v) = v := by unfold no; rw [co_nu h hv]; omega
theorem co_inj {W D : Int} (h : LK W D) {u v : Nat} (hu : u < NN W D) (hv : v < NN W D) (e : co W D u = co W D v) : u = v := by rw [← no_co h hu, ← no_co h hv, e]
theorem number_co {W D : Int} (h : LK W D) {v : Nat} (hv : v < NN W D) : Ev (fun k => impl_Lock_number.f k W D (co W D v)) (v : Int) := by
  have hc := co_isC h v
  have := number_ev W (LK.d h) (co W D v) (by have := isC_size hc; have := LK.w h; omega) (isC_isT hc)
  rw [show num D (digs (co W D v)) = (v : Int) from co_nu h hv] at this
  exact this
theorem whNumber_co {W D : Int} (h : LK W D) {v : Nat} (hv : v < NN W D) : Ev (fun k => spec_whNumber.f k W D (co W D v)) (v : Int) := by
  have hc := co_isC h v
  have := whNumber_ev W (LK.d h) (co W D v) (by have := isC_size hc; have := LK.w h; omega) (isC_isT hc)
  rw [show num D (digs (co W D v)) = (v : Int) from co_nu h hv] at this
  exact this

def nbZ (W D : Int) (v : Nat) : List Int := (List.range (2 * W.toNat)).map fun m => num D (tur D (m / 2) (trn m).f1 (cod D W.toNat (v : Int)))
def nbF (W D : Int) (v : Nat) : List Nat := (nbZ W D v).map Int.toNat
theorem nbZ_len (W D : Int) (v : Nat) : (nbZ W D v).length = 2 * W.toNat := by simp [nbZ]
theorem nbF_len (W D : Int) (v : Nat) : (nbF W D v).length = 2 * W.toNat := by simp [nbF, nbZ]
theorem nbZ_get (W D : Int) (v : Nat) {m : Nat} (h : m < (nbZ W D v).length) : (nbZ W D v)[m] = num D (tur D (m / 2) (trn m).f1 (cod D W.toNat (v : Int))) :=
  (List.getElem_of_eq (show nbZ W D v = (List.range (2 * W.toNat)).map (fun m => num D (tur D (m / 2) (trn m).f1 (cod D W.toNat (v : Int)))) from rfl) h).trans (by rw [List.getElem_map, List.getElem_range])
theorem nbZ_bd {W D : Int} (h : LK W D) (v : Nat) {m : Nat} (hm : m < (nbZ W D v).length) : 0 ≤ (nbZ W D v)[m] ∧ (nbZ W D v)[m] < cnt W D := by
  have d := LK.d h
  rw [nbZ_get]
  have := num_bd (D := D) (by omega) _ (tur_isD (by omega) (cod_isD (by omega) W.toNat (v : Int)) (m / 2) (trn m).f1)
  rw [tur_len, cod_len] at this
  unfold cnt
  omega
theorem nbF_get {W D : Int} (h : LK W D) (v : Nat) {m : Nat} (hm : m < (nbF W D v).length) : ((nbF W D v)[m] : Int) = (nbZ W D v)[m]'(by rw [nbZ_len]; rw [nbF_len] at hm; exact hm) := by
  have := nbZ_bd h v (m := m) (by rw [nbZ_len]; rw [nbF_len] at hm; exact hm)
  rw [(List.getElem_of_eq (show nbF W D v = (nbZ W D v).map Int.toNat from rfl) hm).trans (List.getElem_map ..)]
  omega
theorem nbF_lt {W D : Int} (h : LK W D) (v : Nat) : ∀ x ∈ nbF W D v, x < NN W D := by
  intro x hx
  obtain ⟨m, hm, e⟩ := List.mem_iff_getElem.mp hx
  have h1 := nbF_get h v hm
  have h2 := nbZ_bd h v (m := m) (by rw [nbZ_len]; rw [nbF_len] at hm; exact hm)
  have h3 := NN_cnt h
  omega
/-- The neighbours' codes are the codes turned. -/
theorem nbF_co {W D : Int} (h : LK W D) (v : Nat) {m : Nat} (hm : m < (nbF W D v).length) : co W D (nbF W D v)[m] = txt (tur D (m / 2) (trn m).f1 (digs (co W D v))) := by
  have d := LK.d h
  have e := cod_num (D := D) (by omega) _ (tur_isD (D := D) (by omega) (cod_isD (by omega) W.toNat (v : Int)) (m / 2) (trn m).f1)
  rw [tur_len, cod_len] at e
  show txt (cod D W.toNat ((nbF W D v)[m] : Int)) = _
  rw [nbF_get h v hm, nbZ_get, e, co_digs h v]
theorem nbZ_val {W D : Int} (h : LK W D) {v : Nat} (hv : v < NN W D) {i : Nat} (hi : i < W.toNat) (m : Nat) (hm : m / 2 = i) (hl : m < (nbZ W D v).length) :
    (nbZ W D v)[m] = (v : Int) + (((v : Int) / D ^ (W.toNat - (i + 1)) % D + (trn m).f1) % D - (v : Int) / D ^ (W.toNat - (i + 1)) % D) * D ^ (W.toNat - (i + 1)) := by
  have d := LK.d h
  have hc := NN_cnt h
  have ic : i < (cod D W.toNat (v : Int)).length := by rw [cod_len]; exact hi
  have g := cod_get D W.toNat (v : Int) i hi
  rw [show W.toNat - 1 - i = W.toNat - (i + 1) by omega] at g
  rw [nbZ_get, hm]
  unfold tur
  rw [num_set D _ i ic, num_cod (by omega), cod_len, g, show W.toNat - 1 - i = W.toNat - (i + 1) by omega, List.getD_eq_getElem?_getD, List.getElem?_eq_getElem ic, Option.getD_some, g]
  rw [show (v : Int) % D ^ W.toNat = (v : Int) from Int.emod_eq_of_lt (by omega) (by show (v : Int) < cnt W D; omega)]
theorem steps_ev {W D : Int} (h : LK W D) (T : List Bool) {v : Nat} (hv : v < NN W D) : Ev (fun k => impl_field_steps.f k W D T (v : Int)) (nbZ W D v) := by
  have d := LK.d h
  have hw := LK.w h
  have hc := NN_cnt h
  have cb := cnt_bd h
  have nl := nbZ_len W D v
  unfold impl_field_steps.f
  refine Ev.bind (count_ev h) ?_
  refine ev_loop (g := fun j k => impl_field_steps.l0 k (v : Int) ((nbZ W D v).take (2 * j)) (D ^ (W.toNat - j)) W (j : Int) W D T) W.toNat ?_ ?_
  · intro j hj ih
    obtain ⟨w, hwt⟩ : ∃ w : Int, D ^ (W.toNat - (j + 1)) = w := ⟨_, rfl⟩
    have wp : 0 < w := by rw [← hwt]; exact pw_pos (by omega) _
    have wb : w ≤ 1000000000000000 := by rw [← hwt]; exact pow15 (by omega) d.2 (by omega)
    have e0 : D ^ (W.toNat - j) = w * D := by rw [show W.toNat - j = W.toNat - (j + 1) + 1 by omega, Int.pow_succ, hwt]
    have e1 : wrap64 (Int.tdiv (D ^ (W.toNat - j)) D) = w := by
      rw [e0, Int.tdiv_eq_ediv_of_nonneg (Int.mul_nonneg (by omega) (by omega)), Int.mul_ediv_cancel _ (by omega), w64 (by omega) (by omega)]
    have q0 : 0 ≤ (v : Int) / w := Int.ediv_nonneg (by omega) (by omega)
    have q1 : (v : Int) / w ≤ (v : Int) := Int.ediv_le_self _ (by omega)
    have e2 : wrap64 (Int.tdiv (v : Int) w) = (v : Int) / w := by rw [Int.tdiv_eq_ediv_of_nonneg (by omega), w64 (by omega) (by omega)]
    have e3 : Int.tmod ((v : Int) / w) D = (v : Int) / w % D := Int.tmod_eq_emod_of_nonneg q0
    obtain ⟨x, hx⟩ : ∃ x : Int, (v : Int) / w % D = x := ⟨_, rfl⟩
    have x0 : 0 ≤ x := by rw [← hx]; exact Int.emod_nonneg _ (by omega)
    have x1 : x < D := by rw [← hx]; exact Int.emod_lt_of_pos _ (by omega)
    have h1 : 2 * j < (nbZ W D v).length := by omega
    have h2 : 2 * j + 1 < (nbZ W D v).length := by omega
    have z1 := nbZ_val h hv hj (2 * j) (by omega) h1
    have z2 := nbZ_val h hv hj (2 * j + 1) (by omega) h2
    have b1 := nbZ_bd h v h1
    have b2 := nbZ_bd h v h2
    rw [hwt, hx, show (trn (2 * j)).f1 = 1 by simp only [trn, show 2 * j % 2 = 0 by omega, if_true]] at z1
    rw [hwt, hx, show (trn (2 * j + 1)).f1 = -1 by simp only [trn, show (2 * j + 1) % 2 = 1 by omega, show ¬ (1 : Nat) = 0 by omega, if_false], ← Int.sub_eq_add_neg] at z2
    obtain ⟨y1, hy1⟩ : ∃ y : Int, (x + 1) % D = y := ⟨_, rfl⟩
    obtain ⟨y2, hy2⟩ : ∃ y : Int, (x - 1) % D = y := ⟨_, rfl⟩
    have y10 : 0 ≤ y1 ∧ y1 < D := by rw [← hy1]; exact ⟨Int.emod_nonneg _ (by omega), Int.emod_lt_of_pos _ (by omega)⟩
    have y20 : 0 ≤ y2 ∧ y2 < D := by rw [← hy2]; exact ⟨Int.emod_nonneg _ (by omega), Int.emod_lt_of_pos _ (by omega)⟩
    rw [hy1] at z1
    rw [hy2] at z2
    rw [show 2 * (j + 1) = 2 * j + 1 + 1 by omega, List.take_succ_eq_append_getElem h2, List.take_succ_eq_append_getElem h1, List.append_assoc, hwt] at ih
    refine Ev.succ ?_
    simp only [impl_field_steps.l0, if_pos (show (j : Int) < W by omega), if_neg (show ¬ D = 0 by omega), e1, if_neg (show ¬ w = 0 by omega), e2, e3, hx, w64 (x := x + 1) (by omega) (by omega), w64 (x := x - 1) (by omega) (by omega), around_eq (D := D) (show 1 ≤ D ∧ D ≤ 1000 by omega), Option.bind_some, hy1, hy2, w64 (x := y1 - x) (by omega) (by omega), w64 (x := y2 - x) (by omega) (by omega), w64 (x := (y1 - x) * w) (by omega) (by omega), w64 (x := (y2 - x) * w) (by omega) (by omega), w64 (x := (v : Int) + (y1 - x) * w) (by omega) (by omega), w64 (x := (v : Int) + (y2 - x) * w) (by omega) (by omega), ← z1, ← z2, w64 (x := (nbZ W D v)[2 * j]) (by omega) (by omega), w64 (x := (nbZ W D v)[2 * j + 1]) (by omega) (by omega), List.length_cons, List.length_nil, List.length_take, w64 (x := (j : Int) + 1) (by omega) (by omega)]
    simp only [if_pos (show min (2 * j) (nbZ W D v).length + (0 + 1 + 1) < 17592186044416 by omega)]
    exact ih
  · refine Ev.succ ?_
    simp only [impl_field_steps.l0, hw.1, if_neg (show ¬ W < W by omega)]
    rw [List.take_of_length_le (by omega)]
    exact Ev.now _

theorem rd_dt {far : List Int} {v : Nat} (h : v < far.length) : rd far (v : Int) = dt far v := by
  rw [rd_get far v h]; unfold dt; rw [List.getD_eq_getElem?_getD, List.getElem?_eq_getElem h]; rfl
/-- Live numbers by a table of dead ones. -/
def liT (T : List Bool) (v : Nat) : Bool := !(T.getD v false)
theorem rdB (T : List Bool) (v : Nat) : rdOf false T (v : Int) = T.getD v false := by unfold rdOf; rw [Int.toNat_natCast]
theorem inI_small {N : Nat} {nb : Nat → List Nat} {live : Nat → Bool} {s u : Nat} {d : Int} {seen : List Nat} {far : List Int} {q done : List Nat} (h : InI N nb live s u d seen far q done) : done.length + q.length + 1 ≤ N := by
  have := nodup_len N (u :: (done ++ q)) h.nodup (fun v hv => by
    rw [← h.len]
    rcases List.mem_cons.mp hv with rfl | hv
    · exact dt_lt h.u0
    · rcases List.mem_append.mp hv with a | a
      · exact dt_lt (h.din v a)
      · exact dt_lt (h.qin v a))
  rw [List.length_cons, List.length_append] at this
  omega
theorem inI_d {N : Nat} {nb : Nat → List Nat} {live : Nat → Bool} {s u : Nat} {d : Int} {seen : List Nat} {far : List Int} {q done : List Nat} (h : InI N nb live s u d seen far q done) : 1 ≤ d ∧ d ≤ (N : Int) := by
  have h1 := h.du
  have h2 := h.u0
  have h3 := h.ubd
  have h4 := inI_small h
  omega
def castL (q : List Nat) : List Int := q.map fun v : Nat => (v : Int)
theorem castL_cons (u : Nat) (q : List Nat) : castL (u :: q) = (u : Int) :: castL q := rfl
theorem castL_snoc (q : List Nat) (v : Nat) : castL (q ++ [v]) = castL q ++ [(v : Int)] := by simp [castL]
theorem castL_len (q : List Nat) : (castL q).length = q.length := by simp [castL]
theorem finner {W D : Int} (h : LK W D) {T : List Bool} (hT : T.length = NN W D) {s u : Nat} {far : List Int} {q done : List Nat} {d : Int} (hi : InI (NN W D) (nbF W D) (liT T) s u d [] far q done) (r : List Int)
    (hfin : Ev (fun k => impl_field_far.l0 k ((nbF W D u).foldl (vis (liT T) d) (far, q)).1 (castL ((nbF W D u).foldl (vis (liT T) d) (far, q)).2) W D T) r) :
    Ev (fun k => impl_field_far.l1 k far (castL (u :: q)) (nbZ W D u) ((nbZ W D u).length : Int) 0 W D T) r := by
  have cb := cnt_bd h
  have hc := NN_cnt h
  have lz := nbZ_len W D u
  have lf := nbF_len W D u
  have hw := LK.w h
  refine ev_loop (g := fun j k => impl_field_far.l1 k (((nbF W D u).take j).foldl (vis (liT T) d) (far, q)).1 (castL (u :: (((nbF W D u).take j).foldl (vis (liT T) d) (far, q)).2)) (nbZ W D u) ((nbZ W D u).length : Int) (j : Int) W D T) (2 * W.toNat) ?_ ?_
  · intro j hj ih
    obtain ⟨seen, _, _, hs⟩ := InI.fold (fun v hv => nbF_lt h u v hv) ((nbF W D u).take j) [] (far, q) done (fun v hv => List.mem_of_mem_take hv) hi
    obtain ⟨st, hst⟩ : ∃ st, ((nbF W D u).take j).foldl (vis (liT T) d) (far, q) = st := ⟨_, rfl⟩
    have hjf : j < (nbF W D u).length := by omega
    rw [List.take_succ_eq_append_getElem hjf, List.foldl_append, List.foldl_cons, List.foldl_nil] at ih
    rw [hst] at ih hs ⊢
    have gz := nbF_get h u hjf
    obtain ⟨v, hv⟩ : ∃ v, (nbF W D u)[j] = v := ⟨_, rfl⟩
    rw [hv] at ih gz
    have vN : v < NN W D := by rw [← hv]; exact nbF_lt h u _ (List.getElem_mem hjf)
    have len := hs.len
    have uN : u < NN W D := by rw [← len]; exact dt_lt hs.u0
    have db := inI_d hs
    have du := hs.du
    have sm := inI_small hs
    have gr : rd (nbZ W D u) (j : Int) = (v : Int) := by rw [rd_get _ j (by omega), ← gz]
    have r0 : rd (castL (u :: st.2)) 0 = (u : Int) := rfl
    refine Ev.succ ?_
    simp only [impl_field_far.l1, lz, if_pos (show (j : Int) < ((2 * W.toNat : Nat) : Int) by omega), if_pos (show (0 : Int) ≤ (j : Int) by omega), gr, if_pos (show (0 : Int) ≤ (v : Int) by omega), len, if_pos (show (v : Int) < ((NN W D : Nat) : Int) by omega), rd_dt (show v < st.1.length by omega), hT, rdB, r0, if_pos (show (0 : Int) ≤ (u : Int) by omega), if_pos (show (u : Int) < ((NN W D : Nat) : Int) by omega), rd_dt (show u < st.1.length by omega), castL_len, List.length_cons, if_pos (show (0 : Int) < ((st.2.length + 1 : Nat) : Int) by omega), if_pos (show st.2.length + 1 < 17592186044416 by omega), Int.toNat_natCast, w64 (x := dt st.1 u + 1) (by omega) (by omega), w64 (x := (j : Int) + 1) (by omega) (by omega)]
    rw [lz] at ih
    by_cases a : dt st.1 v < 0
    · simp only [if_pos a]
      by_cases b : T.getD v false = true
      · simp only [if_pos b]
        have e : vis (liT T) d st v = st := by unfold vis; rw [if_neg]; rintro ⟨_, q_⟩; unfold liT at q_; rw [b] at q_; cases q_
        rw [e] at ih
        exact ih
      · simp only [if_neg b]
        have e : vis (liT T) d st v = (st.1.set v d, st.2 ++ [v]) := by unfold vis; rw [if_pos]; refine ⟨a, ?_⟩; unfold liT; rw [Bool.eq_false_iff.mpr b]; rfl
        rw [e] at ih
        simp only [castL_cons, castL_snoc] at ih ⊢
        rw [← du]
        exact ih
    · simp only [if_neg a]
      have e : vis (liT T) d st v = st := by unfold vis; rw [if_neg (fun q_ => a q_.1)]
      rw [e] at ih
      exact ih
  · refine Ev.succ ?_
    rw [List.take_of_length_le (by omega)]
    simp only [impl_field_far.l1, lz, if_neg (show ¬ ((2 * W.toNat : Nat) : Int) < ((2 * W.toNat : Nat) : Int) by omega), castL_len, List.length_cons, if_pos (show (1 : Int) ≤ ((((nbF W D u).foldl (vis (liT T) d) (far, q)).2.length + 1 : Nat) : Int) by omega)]
    exact hfin
theorem frun {W D : Int} (h : LK W D) {T : List Bool} (hT : T.length = NN W D) {s : Nat} : ∀ (m : Nat) (far : List Int) (q done : List Nat), Inv (NN W D) (nbF W D) (liT T) s far q done → NN W D ≤ m + done.length → Ev (fun k => impl_field_far.l0 k far (castL q) W D T) (run (nbF W D) (liT T) m (far, q))
  | m, far, [], done, hi, hm => by
    have e : run (nbF W D) (liT T) m (far, []) = far := by cases m <;> rfl
    rw [e]
    refine Ev.succ ?_
    simp only [impl_field_far.l0, castL, List.map_nil, List.length_nil, if_neg (show ¬ (((0 : Nat) : Int) > 0) by omega)]
    exact Ev.now _
  | 0, far, u :: q, done, hi, hm => by
    have := hi.small
    rw [List.length_cons] at this
    omega
  | m + 1, far, u :: q, done, hi, hm => by
    have uN := hi.uN
    have st := steps_ev h T uN
    refine Ev.succ ?_
    simp only [impl_field_far.l0, castL_len, List.length_cons, if_pos (show (((q.length + 1 : Nat) : Int) > 0) by omega), if_pos (show (0 : Int) < ((q.length + 1 : Nat) : Int) by omega), show rd (castL (u :: q)) 0 = (u : Int) from rfl]
    refine Ev.bind st ?_
    refine finner h hT hi.begin _ ?_
    exact frun h hT m _ _ (u :: done) (hi.one (fun v hv => nbF_lt h u v hv)) (by rw [List.length_cons]; omega)
theorem far_ev {W D : Int} (h : LK W D) {T : List Bool} (hT : T.length = NN W D) {s : Nat} (hs : s < NN W D) : Ev (fun k => impl_field_far.f k W D T (s : Int)) (tab (nbF W D) (liT T) (NN W D) s) := by
  have cb := cnt_bd h
  have hc := NN_cnt h
  unfold impl_field_far.f slices_Repeat_int_int.f
  simp only [List.length_cons, List.length_nil, Nat.zero_add, if_true, hT, if_pos (show 1 ≤ ((NN W D : Nat) : Int) by omega), if_pos (show ((NN W D : Nat) : Int) ≤ 1000000 by omega), Option.bind_some, Int.toNat_natCast, show rd ([-1] : List Int) 0 = -1 from rfl, List.length_replicate, if_pos (show (0 : Int) ≤ (s : Int) by omega), if_pos (show (s : Int) < ((NN W D : Nat) : Int) by omega)]
  exact frun h hT (NN W D) (tab0 (NN W D) s) [s] [] (inv0 hs) (by simp)
end Go.Proofs.Ytihhiolflbieaaa.FF
