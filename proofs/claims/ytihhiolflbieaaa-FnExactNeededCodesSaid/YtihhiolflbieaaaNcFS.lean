/- Locks with dead codes: the search by breadth, by the reference, with its ways. No conditions. -/
import Derived.Test.YtihhiolflbieaaaNcFF
import Derived.Test.YtihhiolflbieaaaPx7
import Derived.Test.YtihhiolflbieaaaPx163
namespace Go.Proofs.Ytihhiolflbieaaa.FS
open Go.RowKit Go.Proofs.Ytihhiolflbieaaa.P Go.Proofs.Ytihhiolflbieaaa.B Go.Proofs.Ytihhiolflbieaaa.C Go.Proofs.Ytihhiolflbieaaa.L Go.Proofs.Ytihhiolflbieaaa.A Go.Proofs.Ytihhiolflbieaaa.O Go.Proofs.Ytihhiolflbieaaa.O2 Go.Proofs.Ytihhiolflbieaaa.O3 Go.Proofs.Ytihhiolflbieaaa.R Go.Proofs.Ytihhiolflbieaaa.RS Go.Proofs.Ytihhiolflbieaaa.S Go.Proofs.Ytihhiolflbieaaa.D1 Go.Proofs.Ytihhiolflbieaaa.D2 Go.Proofs.Ytihhiolflbieaaa.NX Go.Proofs.Ytihhiolflbieaaa.DE Go.Proofs.Ytihhiolflbieaaa.Q Go.Proofs.Ytihhiolflbieaaa.FF Go.Proofs.YtihhiolflbieaaaW.PrintWords Go.Proofs.YtihhiolflbieaaaW.PrintLast Go.Proofs.YtihhiolflbieaaaW.PrintMore
set_option linter.unusedVariables false
set_option linter.unusedSimpArgs false

/-- Live numbers by a list of dead codes. -/
def liv (W D : Int) (l : List ByteArray) (v : Nat) : Bool := if v < NN W D then !hasS l (co W D v) else true
theorem liv_lt {W D : Int} {l : List ByteArray} {v : Nat} (h : v < NN W D) : liv W D l v = !hasS l (co W D v) := if_pos h
def mnW (x : Int) : Int := if x < 1000000000000001 then x else 1000000000000001
/-- One neighbour: the table, the ways, the queue. -/
def vwd (live : Nat → Bool) (u : Nat) (d : Int) (s : List Int × List Int × List Nat) (v : Nat) : List Int × List Int × List Nat :=
  if live v = true then ((vis live d (s.1, s.2.2) v).1, if dt (vis live d (s.1, s.2.2) v).1 v = d then s.2.1.set v (mnW (rd s.2.1 (v : Int) + rd s.2.1 (u : Int))) else s.2.1, (vis live d (s.1, s.2.2) v).2) else s
def oneW (nb : Nat → List Nat) (live : Nat → Bool) (u : Nat) (s : List Int × List Int × List Nat) : List Int × List Int × List Nat := (nb u).foldl (vwd live u (dt s.1 u + 1)) s
def runW (nb : Nat → List Nat) (live : Nat → Bool) : Nat → List Int × List Int × List Nat → List Int × List Int
  | 0, s => (s.1, s.2.1)
  | _ + 1, (far, ways, []) => (far, ways)
  | k + 1, (far, ways, u :: q) => runW nb live k (oneW nb live u (far, ways, q))
theorem vwd_vis (live : Nat → Bool) (u : Nat) (d : Int) (s : List Int × List Int × List Nat) (v : Nat) : ((vwd live u d s v).1, (vwd live u d s v).2.2) = vis live d (s.1, s.2.2) v := by
  unfold vwd
  by_cases h : live v = true
  · rw [if_pos h]
  · rw [if_neg h]
    unfold vis
    rw [if_neg (fun q => h q.2)]
theorem fold_vis (live : Nat → Bool) (u : Nat) (d : Int) : ∀ (l : List Nat) (s : List Int × List Int × List Nat), ((l.foldl (vwd live u d) s).1, (l.foldl (vwd live u d) s).2.2) = l.foldl (vis live d) (s.1, s.2.2)
  | [], s => rfl
  | v :: l, s => by rw [List.foldl_cons, List.foldl_cons, fold_vis live u d l, vwd_vis]
theorem oneW_one (nb : Nat → List Nat) (live : Nat → Bool) (u : Nat) (s : List Int × List Int × List Nat) : ((oneW nb live u s).1, (oneW nb live u s).2.2) = Q.one nb live u (s.1, s.2.2) := fold_vis live u _ (nb u) s
theorem runW_run (nb : Nat → List Nat) (live : Nat → Bool) : ∀ (m : Nat) (s : List Int × List Int × List Nat), (runW nb live m s).1 = run nb live m (s.1, s.2.2)
  | 0, s => rfl
  | m + 1, (far, ways, []) => rfl
  | m + 1, (far, ways, u :: q) => by
    show (runW nb live m (oneW nb live u (far, ways, q))).1 = run nb live m (Q.one nb live u (far, q))
    rw [runW_run nb live m, oneW_one]
/-- The ways are numbers, none too great. -/
def WB (N : Nat) (ways : List Int) : Prop := ways.length = N ∧ ∀ v, v < N → 0 ≤ rd ways (v : Int) ∧ rd ways (v : Int) ≤ 1000000000000001
theorem rd_set (l : List Int) (v : Nat) (x : Int) (w : Nat) (h : v < l.length) : rd (l.set v x) (w : Int) = if w = v then x else rd l (w : Int) := by
  unfold rd
  rw [Int.toNat_natCast, List.getD_eq_getElem?_getD, List.getD_eq_getElem?_getD, List.getElem?_set]
  by_cases e : v = w
  · subst e; simp [h]
  · rw [if_neg e, if_neg (fun q => e q.symm)]
theorem WB.set {N : Nat} {ways : List Int} (h : WB N ways) {v u : Nat} (hv : v < N) (hu : u < N) : WB N (ways.set v (mnW (rd ways (v : Int) + rd ways (u : Int)))) := by
  refine ⟨by rw [List.length_set]; exact h.1, fun w hw => ?_⟩
  rw [rd_set _ _ _ _ (by rw [h.1]; exact hv)]
  have a := h.2 v hv
  have b := h.2 u hu
  have c := h.2 w hw
  split
  · unfold mnW; split <;> omega
  · exact c
theorem WB.vwd {N : Nat} {live : Nat → Bool} {u : Nat} {d : Int} {s : List Int × List Int × List Nat} (h : WB N s.2.1) {v : Nat} (hv : v < N) (hu : u < N) : WB N (vwd live u d s v).2.1 := by
  unfold FS.vwd
  split
  · show WB N (if _ then _ else _)
    split
    · exact h.set hv hu
    · exact h
  · exact h
theorem WB.fold {N : Nat} {live : Nat → Bool} {u : Nat} {d : Int} (hu : u < N) : ∀ (l : List Nat) (hl : ∀ v ∈ l, v < N) (s : List Int × List Int × List Nat), WB N s.2.1 → WB N (l.foldl (FS.vwd live u d) s).2.1
  | [], _, s, h => h
  | v :: l, hl, s, h => WB.fold hu l (fun w hw => hl w (List.mem_cons_of_mem _ hw)) _ (h.vwd (hl v (List.mem_cons_self ..)) hu)

def cds (W D : Int) (P : List Nat) (u : Nat) (q : List Nat) : List ByteArray := (P ++ u :: q).map (co W D)
theorem cds_len (W D : Int) (P : List Nat) (u : Nat) (q : List Nat) : (cds W D P u q).length = P.length + (q.length + 1) := by simp [cds]
theorem cds_at (W D : Int) (P : List Nat) (u : Nat) (q : List Nat) : rdOf ByteArray.empty (cds W D P u q) (P.length : Int) = co W D u := by
  rw [rd_gt, gt_get _ (by rw [cds_len]; omega)]
  unfold cds
  rw [List.getElem_map, List.getElem_append_right (Nat.le_refl _)]
  simp
theorem cds_snoc (W D : Int) (P : List Nat) (u : Nat) (q : List Nat) (v : Nat) : cds W D P u (q ++ [v]) = cds W D P u q ++ [co W D v] := by simp [cds]
theorem l3_step {W D : Int} (h : LK W D) (l : List ByteArray) (hl : l.length ≤ 1000000) {s u : Nat} {d : Int} {seen : List Nat} {st : List Int × List Int × List Nat} {done P : List Nat} (hP : P.length = done.length)
    (hs : InI (NN W D) (nbF W D) (liv W D l) s u d seen st.1 st.2.2 done) (hw : WB (NN W D) st.2.1) {i b : Nat} (hi : i < W.toNat) (hb : b < 2) {v : Nat} (hm : 2 * i + b < (nbF W D u).length) (hv : (nbF W D u)[2 * i + b] = v) (r : List Int × List Int)
    (hn : Ev (fun k => spec_deFar.l3 k l (vwd (liv W D l) u d st v).1 (vwd (liv W D l) u d st v).2.1 (cds W D P u (vwd (liv W D l) u d st v).2.2) (P.length : Int) (u : Int) (i : Int) [1, -1] 2 ((b + 1 : Nat) : Int) W D) r) :
    Ev (fun k => spec_deFar.l3 k l st.1 st.2.1 (cds W D P u st.2.2) (P.length : Int) (u : Int) (i : Int) [1, -1] 2 (b : Int) W D) r := by
  have dd := LK.d h
  have hww := LK.w h
  have cb := cnt_bd h
  have hc := NN_cnt h
  have len := hs.len
  have u0 := hs.u0
  have uN : u < NN W D := by rw [← len]; exact dt_lt u0
  have vN : v < NN W D := by rw [← hv]; exact nbF_lt h u _ (List.getElem_mem hm)
  have db := inI_d hs
  have du := hs.du
  have sm := inI_small hs
  have wl := hw.1
  have wv := hw.2 v vN
  have wu := hw.2 u uN
  have cu := co_isC h u
  obtain ⟨a1, a2, a3⟩ := codeOf h cu
  obtain ⟨e, he, hee⟩ : ∃ e : Int, rd ([1, -1] : List Int) (b : Int) = e ∧ (trn (2 * i + b)).f1 = e := by
    have : b = 0 ∨ b = 1 := by omega
    rcases this with rfl | rfl
    · exact ⟨1, rfl, by simp only [trn, show (2 * i + 0) % 2 = 0 by omega, if_true]⟩
    · exact ⟨-1, rfl, by simp only [trn, show (2 * i + 1) % 2 = 1 by omega, show ¬ (1 : Nat) = 0 by omega, if_false]⟩
  have eb : e = 1 ∨ e = -1 := by rw [← hee]; exact trn_f.2.2
  have mk := whMake_ev (W := W) dd a2 (by omega) (i := i) (by omega) (e := e) (by rcases eb with q | q <;> omega)
  rw [a3] at mk
  have cv := nbF_co h u hm
  rw [hv, hee, show (2 * i + b) / 2 = i by omega] at cv
  rw [← cv] at mk
  have lvv := liv_lt (W := W) (D := D) (l := l) vN
  refine Ev.succ ?_
  simp only [spec_deFar.l3, if_pos (show (b : Int) < 2 by omega), if_pos (show (0 : Int) ≤ (b : Int) by omega), show (([1, -1] : List Int).length : Int) = 2 from rfl, if_pos (show (0 : Int) ≤ (P.length : Int) by omega), cds_len, if_pos (show (P.length : Int) < ((P.length + (st.2.2.length + 1) : Nat) : Int) by omega), cds_at, he]
  refine Ev.bind mk (Ev.bind (whNumber_co h vN) (Ev.bind (hasS_ev l (co W D v) (by omega)) ?_))
  by_cases q : hasS l (co W D v) = true
  · simp only [if_pos q, w64 (x := (b : Int) + 1) (by omega) (by omega)]
    have ev : vwd (liv W D l) u d st v = st := by unfold vwd; rw [if_neg]; rw [lvv, q]; simp
    rw [ev] at hn
    exact hn
  · have lv : liv W D l v = true := by rw [lvv, Bool.eq_false_iff.mpr q]; rfl
    simp only [if_neg q, if_pos (show (0 : Int) ≤ (v : Int) by omega), len, if_pos (show (v : Int) < ((NN W D : Nat) : Int) by omega), rd_dt (show v < st.1.length by omega), if_pos (show (0 : Int) ≤ (u : Int) by omega), if_pos (show (u : Int) < ((NN W D : Nat) : Int) by omega), rd_dt (show u < st.1.length by omega), Int.toNat_natCast, ← du, w64 (x := d) (by omega) (by omega), Option.bind_some, wl, w64 (x := rd st.2.1 (v : Int) + rd st.2.1 (u : Int)) (by omega) (by omega), w64 (x := (b : Int) + 1) (by omega) (by omega), if_pos (show P.length + (st.2.2.length + 1) < 8796093022208 by omega)]
    have least : ∀ x : Int, spec_l1Least.f x 1000000000000001 = some (mnW x) := fun x => by unfold spec_l1Least.f mnW; split <;> rfl
    by_cases a : dt st.1 v < 0
    · have ne : u ≠ v := by rintro rfl; omega
      have vi : vis (liv W D l) d (st.1, st.2.2) v = (st.1.set v d, st.2.2 ++ [v]) := by unfold vis; rw [if_pos ⟨a, lv⟩]
      have e1 : rd (st.1.set v d) (v : Int) = d := by rw [rd_set _ _ _ _ (by omega), if_pos rfl]
      have e2 : rd (st.1.set v d) (u : Int) = dt st.1 u := by rw [rd_set _ _ _ _ (by omega), if_neg ne, rd_dt (by omega)]
      have e3 : dt (st.1.set v d) v = d := by rw [dt_set _ _ _ _ (by omega), if_pos rfl]
      have ev : vwd (liv W D l) u d st v = (st.1.set v d, st.2.1.set v (mnW (rd st.2.1 (v : Int) + rd st.2.1 (u : Int))), st.2.2 ++ [v]) := by unfold vwd; rw [if_pos lv, vi, if_pos e3]
      rw [ev] at hn
      simp only [cds_snoc] at hn
      simp only [if_pos a, e1, e2, ← du, w64 (x := d) (by omega) (by omega), if_true, least, Option.bind_some]
      exact hn
    · have vi : vis (liv W D l) d (st.1, st.2.2) v = (st.1, st.2.2) := by unfold vis; rw [if_neg (fun q_ => a q_.1)]
      by_cases c : dt st.1 v = d
      · have ev : vwd (liv W D l) u d st v = (st.1, st.2.1.set v (mnW (rd st.2.1 (v : Int) + rd st.2.1 (u : Int))), st.2.2) := by unfold vwd; rw [if_pos lv, vi, if_pos c]
        rw [ev] at hn
        simp only [if_neg a, if_pos c, least, Option.bind_some]
        exact hn
      · have ev : vwd (liv W D l) u d st v = st := by unfold vwd; rw [if_pos lv, vi, if_neg c]
        rw [ev] at hn
        simp only [if_neg a, if_neg c]
        exact hn
theorem sinner {W D : Int} (h : LK W D) (l : List ByteArray) (hl : l.length ≤ 1000000) {s u : Nat} {d : Int} {far ways : List Int} {q done P : List Nat} (hP : P.length = done.length)
    (hi : InI (NN W D) (nbF W D) (liv W D l) s u d [] far q done) (hw : WB (NN W D) ways) (r : List Int × List Int)
    (hfin : Ev (fun k => spec_deFar.l1 k l ((nbF W D u).foldl (vwd (liv W D l) u d) (far, ways, q)).1 ((nbF W D u).foldl (vwd (liv W D l) u d) (far, ways, q)).2.1 (cds W D P u ((nbF W D u).foldl (vwd (liv W D l) u d) (far, ways, q)).2.2) ((P.length + 1 : Nat) : Int) W D) r) :
    Ev (fun k => spec_deFar.l2 k l far ways (cds W D P u q) (P.length : Int) (u : Int) 0 W D) r := by
  have hww := LK.w h
  have lf := nbF_len W D u
  have sm := inI_small hi
  have hc := NN_cnt h
  have cb := cnt_bd h
  have uN : u < NN W D := by rw [← hi.len]; exact dt_lt hi.u0
  have at_ : ∀ j, ∃ seen, InI (NN W D) (nbF W D) (liv W D l) s u d seen (((nbF W D u).take j).foldl (vwd (liv W D l) u d) (far, ways, q)).1 (((nbF W D u).take j).foldl (vwd (liv W D l) u d) (far, ways, q)).2.2 done := fun j => by
    obtain ⟨seen, _, _, hs⟩ := InI.fold (fun v hv => nbF_lt h u v hv) ((nbF W D u).take j) [] (far, q) done (fun v hv => List.mem_of_mem_take hv) hi
    have e := fold_vis (liv W D l) u d ((nbF W D u).take j) (far, ways, q)
    rw [← e] at hs
    exact ⟨seen, hs⟩
  have wb : ∀ j, WB (NN W D) (((nbF W D u).take j).foldl (vwd (liv W D l) u d) (far, ways, q)).2.1 := fun j => WB.fold uN _ (fun v hv => nbF_lt h u v (List.mem_of_mem_take hv)) _ hw
  refine ev_loop (g := fun i k => spec_deFar.l2 k l (((nbF W D u).take (2 * i)).foldl (vwd (liv W D l) u d) (far, ways, q)).1 (((nbF W D u).take (2 * i)).foldl (vwd (liv W D l) u d) (far, ways, q)).2.1 (cds W D P u (((nbF W D u).take (2 * i)).foldl (vwd (liv W D l) u d) (far, ways, q)).2.2) (P.length : Int) (u : Int) (i : Int) W D) W.toNat ?_ ?_
  · intro i hii ih
    have h1 : 2 * i + 0 < (nbF W D u).length := by omega
    have h2 : 2 * i + 1 < (nbF W D u).length := by omega
    obtain ⟨s1, i1⟩ := at_ (2 * i)
    obtain ⟨s2, i2⟩ := at_ (2 * i + 1)
    have w1 := wb (2 * i)
    have w2 := wb (2 * i + 1)
    have t1 : ((nbF W D u).take (2 * i + 1)).foldl (vwd (liv W D l) u d) (far, ways, q) = vwd (liv W D l) u d (((nbF W D u).take (2 * i)).foldl (vwd (liv W D l) u d) (far, ways, q)) (nbF W D u)[2 * i + 0] := by
      rw [List.take_succ_eq_append_getElem (show 2 * i < (nbF W D u).length by omega), List.foldl_append]; rfl
    have t2 : ((nbF W D u).take (2 * (i + 1))).foldl (vwd (liv W D l) u d) (far, ways, q) = vwd (liv W D l) u d (((nbF W D u).take (2 * i + 1)).foldl (vwd (liv W D l) u d) (far, ways, q)) (nbF W D u)[2 * i + 1] := by
      rw [show 2 * (i + 1) = 2 * i + 1 + 1 by omega, List.take_succ_eq_append_getElem h2, List.foldl_append]; rfl
    refine Ev.succ ?_
    simp only [spec_deFar.l2, if_pos (show (i : Int) < W by omega), Option.bind_some, show (([1, -1] : List Int).length : Int) = 2 from rfl]
    refine l3_step h l hl hP i1 w1 hii (b := 0) (by omega) h1 rfl r ?_
    rw [← t1]
    refine l3_step h l hl hP i2 w2 hii (b := 1) (by omega) h2 rfl r ?_
    rw [← t2]
    refine Ev.succ ?_
    simp only [spec_deFar.l3, if_neg (show ¬ ((1 + 1 : Nat) : Int) < 2 by omega), w64 (x := (i : Int) + 1) (by omega) (by omega)]
    exact ih
  · refine Ev.succ ?_
    rw [List.take_of_length_le (show (nbF W D u).length ≤ 2 * W.toNat by omega)]
    simp only [spec_deFar.l2, hww.1, if_neg (show ¬ W < W by omega), w64 (x := (P.length : Int) + 1) (by omega) (by omega)]
    exact hfin
theorem srun {W D : Int} (h : LK W D) (l : List ByteArray) (hl : l.length ≤ 1000000) {s : Nat} : ∀ (m : Nat) (far ways : List Int) (q done P : List Nat), P.length = done.length → Inv (NN W D) (nbF W D) (liv W D l) s far q done → WB (NN W D) ways → NN W D ≤ m + done.length → Ev (fun k => spec_deFar.l1 k l far ways ((P ++ q).map (co W D)) (P.length : Int) W D) (runW (nbF W D) (liv W D l) m (far, ways, q))
  | m, far, ways, [], done, P, hP, hi, hw, hm => by
    have e : runW (nbF W D) (liv W D l) m (far, ways, []) = (far, ways) := by cases m <;> rfl
    rw [e]
    refine Ev.succ ?_
    simp only [spec_deFar.l1, List.append_nil, List.length_map, if_neg (show ¬ (P.length : Int) < (P.length : Int) by omega)]
    exact Ev.now _
  | 0, far, ways, u :: q, done, P, hP, hi, hw, hm => by
    have := hi.small
    rw [List.length_cons] at this
    omega
  | m + 1, far, ways, u :: q, done, P, hP, hi, hw, hm => by
    have uN := hi.uN
    have ca := cds_at W D P u q
    unfold cds at ca
    have hs := hi.begin
    refine Ev.succ ?_
    simp only [spec_deFar.l1, List.length_map, List.length_append, List.length_cons, if_pos (show (P.length : Int) < ((P.length + (q.length + 1) : Nat) : Int) by omega), if_pos (show (0 : Int) ≤ (P.length : Int) by omega), ca]
    refine Ev.bind (whNumber_co h uN) ?_
    refine sinner h l hl hP hs hw _ ?_
    have ih := srun h l hl m (oneW (nbF W D) (liv W D l) u (far, ways, q)).1 (oneW (nbF W D) (liv W D l) u (far, ways, q)).2.1 (oneW (nbF W D) (liv W D l) u (far, ways, q)).2.2 (u :: done) (P ++ [u]) (by simp [hP])
      (by
        have := hi.one (fun v hv => nbF_lt h u v hv)
        have e := oneW_one (nbF W D) (liv W D l) u (far, ways, q)
        rw [← e] at this
        exact this)
      (WB.fold uN _ (fun v hv => nbF_lt h u v hv) _ hw) (by rw [List.length_cons]; omega)
    rw [List.append_assoc, List.length_append] at ih
    exact ih
/-- The table and the ways. -/
def tabW (W D : Int) (l : List ByteArray) (s : Nat) : List Int × List Int := runW (nbF W D) (liv W D l) (NN W D) (tab0 (NN W D) s, (List.replicate (NN W D) 0).set s 1, [s])
theorem tabW_tab (W D : Int) (l : List ByteArray) (s : Nat) : (tabW W D l s).1 = tab (nbF W D) (liv W D l) (NN W D) s := runW_run _ _ _ _
theorem deFar_ev {W D : Int} (h : LK W D) (l : List ByteArray) (hl : l.length ≤ 1000000) {s : Nat} (hs : s < NN W D) : Ev (fun k => spec_deFar.f k W D l (co W D s)) (tabW W D l s) := by
  have cb := cnt_bd h
  have hc := NN_cnt h
  unfold spec_deFar.f
  refine Ev.bind (whCount_ev h) ?_
  simp only [← hc, if_pos (show (0 : Int) ≤ ((NN W D : Nat) : Int) by omega), Int.toNat_natCast, if_pos (show NN W D ≤ 35184372088832 by omega), Option.bind_some, List.length_replicate]
  refine Ev.bind (a := ((NN W D : Nat) : Int)) (by rw [hc]; exact whCount_ev h) ?_
  simp only [if_pos (show (0 : Int) ≤ ((NN W D : Nat) : Int) by omega), Int.toNat_natCast, if_pos (show NN W D ≤ 35184372088832 by omega)]
  refine ev_loop (g := fun j k => spec_deFar.l0 k l (co W D s) (List.replicate j (-1) ++ List.replicate (NN W D - j) 0) (List.replicate (NN W D) 0) ((NN W D : Nat) : Int) (j : Int) W D) (NN W D) ?_ ?_
  · intro j hj ih
    have e : (List.replicate j (-1 : Int) ++ List.replicate (NN W D - j) 0).set j (-1) = List.replicate (j + 1) (-1) ++ List.replicate (NN W D - (j + 1)) 0 := by
      rw [List.set_append_right _ _ (by simp), List.length_replicate, Nat.sub_self, show NN W D - j = NN W D - (j + 1) + 1 by omega, List.replicate_succ, List.set_cons_zero, show List.replicate (j + 1) (-1 : Int) = List.replicate j (-1) ++ [-1] from List.replicate_succ', List.append_assoc]
      rfl
    refine Ev.succ ?_
    simp only [spec_deFar.l0, if_pos (show (j : Int) < ((NN W D : Nat) : Int) by omega), if_pos (show (0 : Int) ≤ (j : Int) by omega), List.length_append, List.length_replicate, if_pos (show (j : Int) < ((j + (NN W D - j) : Nat) : Int) by omega), Int.toNat_natCast, w64 (x := (j : Int) + 1) (by omega) (by omega)]
    rw [e]
    exact ih
  · refine Ev.succ ?_
    simp only [spec_deFar.l0, if_neg (show ¬ ((NN W D : Nat) : Int) < ((NN W D : Nat) : Int) by omega), Nat.sub_self, List.replicate_zero, List.append_nil, List.length_replicate]
    refine Ev.bind (whNumber_co h hs) ?_
    simp only [if_pos (show (0 : Int) ≤ (s : Int) by omega), if_pos (show (s : Int) < ((NN W D : Nat) : Int) by omega), Int.toNat_natCast]
    refine srun h l hl (NN W D) (tab0 (NN W D) s) _ [s] [] [] rfl (inv0 hs) ⟨by simp, fun v hv => ?_⟩ (by simp)
    rw [rd_set _ _ _ _ (by simpa using hs)]
    split
    · omega
    · unfold rd
      rw [List.getD_eq_getElem?_getD, List.getElem?_replicate]
      split <;> simp
end Go.Proofs.Ytihhiolflbieaaa.FS
