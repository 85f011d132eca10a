/- The search by breadth, told on lists: what its table of distances says. No program in sight. No conditions. -/
import Derived.Test.YtihhiolflbieaaaPx0
namespace Go.Proofs.Ytihhiolflbieaaa.Q
set_option linter.unusedVariables false
set_option linter.unusedSimpArgs false

/-- The distance of a node in a table; -1 of those that are not reached. -/
def dt (far : List Int) (v : Nat) : Int := far.getD v (-1)
theorem dt_set (far : List Int) (v : Nat) (d : Int) (w : Nat) (h : v < far.length) : dt (far.set v d) w = if w = v then d else dt far w := by
  unfold dt
  rw [List.getD_eq_getElem?_getD, List.getD_eq_getElem?_getD, List.getElem?_set]
  by_cases e : v = w
  · subst e; simp [h]
  · rw [if_neg e, if_neg (fun q => e q.symm)]
theorem dt_lt {far : List Int} {v : Nat} (h : 0 ≤ dt far v) : v < far.length := by
  rcases Nat.lt_or_ge v far.length with q | q
  · exact q
  · unfold dt at h
    rw [List.getD_eq_getElem?_getD, List.getElem?_eq_none q] at h
    simp at h
/-- One neighbour. -/
def vis (live : Nat → Bool) (d : Int) (s : List Int × List Nat) (v : Nat) : List Int × List Nat :=
  if dt s.1 v < 0 ∧ live v = true then (s.1.set v d, s.2 ++ [v]) else s
/-- All neighbours of a node. -/
def one (nb : Nat → List Nat) (live : Nat → Bool) (u : Nat) (s : List Int × List Nat) : List Int × List Nat := (nb u).foldl (vis live (dt s.1 u + 1)) s
def run (nb : Nat → List Nat) (live : Nat → Bool) : Nat → List Int × List Nat → List Int
  | 0, s => s.1
  | _ + 1, (far, []) => far
  | k + 1, (far, u :: q) => run nb live k (one nb live u (far, q))

structure Inv (N : Nat) (nb : Nat → List Nat) (live : Nat → Bool) (s : Nat) (far : List Int) (q done : List Nat) : Prop where
  len : far.length = N
  ge : ∀ v, -1 ≤ dt far v
  start : dt far s = 0
  zero : ∀ v, dt far v = 0 → v = s
  qin : ∀ v ∈ q, 0 ≤ dt far v
  din : ∀ v ∈ done, 0 ≤ dt far v
  all : ∀ v, 0 ≤ dt far v → v ∈ q ∨ v ∈ done
  closed : ∀ u ∈ done, ∀ v ∈ nb u, live v = true → 0 ≤ dt far v ∧ dt far v ≤ dt far u + 1
  pred : ∀ v, 0 < dt far v → live v = true ∧ ∃ u, v ∈ nb u ∧ dt far u = dt far v - 1
  sort : q.Pairwise fun x y => dt far x ≤ dt far y
  max : ∀ v, ∀ x ∈ q, dt far v ≤ dt far x + 1
  nodup : (done ++ q).Nodup
  bd : ∀ v, dt far v ≤ (done.length : Int)

/-- While the neighbours of a node are gone through. -/
structure InI (N : Nat) (nb : Nat → List Nat) (live : Nat → Bool) (s : Nat) (u : Nat) (d : Int) (seen : List Nat) (far : List Int) (q done : List Nat) : Prop where
  len : far.length = N
  ge : ∀ v, -1 ≤ dt far v
  du : d = dt far u + 1
  u0 : 0 ≤ dt far u
  start : dt far s = 0
  zero : ∀ v, dt far v = 0 → v = s
  qin : ∀ v ∈ q, 0 ≤ dt far v
  din : ∀ v ∈ done, 0 ≤ dt far v
  all : ∀ v, 0 ≤ dt far v → v ∈ q ∨ v = u ∨ v ∈ done
  closed : ∀ u ∈ done, ∀ v ∈ nb u, live v = true → 0 ≤ dt far v ∧ dt far v ≤ dt far u + 1
  clu : ∀ v ∈ seen, live v = true → 0 ≤ dt far v
  pred : ∀ v, 0 < dt far v → live v = true ∧ ∃ u, v ∈ nb u ∧ dt far u = dt far v - 1
  sort : q.Pairwise fun x y => dt far x ≤ dt far y
  max : ∀ v, dt far v ≤ d
  lo : ∀ x ∈ q, dt far u ≤ dt far x
  nodup : (u :: (done ++ q)).Nodup
  bd : ∀ v, dt far v ≤ (done.length : Int) + 1
  ubd : dt far u ≤ (done.length : Int)

theorem InI.step {N : Nat} {nb : Nat → List Nat} {live : Nat → Bool} {s u : Nat} {d : Int} {seen : List Nat} {far : List Int} {q done : List Nat} (h : InI N nb live s u d seen far q done) {v : Nat} (hv : v ∈ nb u) (hvN : v < N) :
    InI N nb live s u d (v :: seen) (vis live d (far, q) v).1 (vis live d (far, q) v).2 done := by
  unfold vis
  simp only
  by_cases c : dt far v < 0 ∧ live v = true
  · rw [if_pos c]
    have hl : v < far.length := by rw [h.len]; exact hvN
    have e := fun w => dt_set far v d w hl
    have hne : ∀ w, 0 ≤ dt far w → w ≠ v := fun w hw q => by rw [q] at hw; omega
    have same : ∀ w, 0 ≤ dt far w → dt (far.set v d) w = dt far w := fun w hw => by rw [e, if_neg (hne w hw)]
    have self : dt (far.set v d) v = d := by rw [e, if_pos rfl]
    have hd := h.du
    have hu0 := h.u0
    have eu := same u h.u0
    have notin : v ∉ u :: (done ++ q) := by
      intro hm
      rcases List.mem_cons.mp hm with rfl | hm
      · omega
      · rcases List.mem_append.mp hm with hm | hm
        · have := h.din v hm; omega
        · have := h.qin v hm; omega
    refine { len := by rw [List.length_set]; exact h.len, ge := ?_, du := by rw [eu]; exact hd, u0 := by rw [eu]; exact hu0, start := by rw [same s (by have := h.start; omega)]; exact h.start, zero := ?_, qin := ?_, din := ?_, all := ?_, closed := ?_, clu := ?_, pred := ?_, sort := ?_, max := ?_, lo := ?_, nodup := ?_, bd := ?_, ubd := by rw [eu]; exact h.ubd }
    · intro w; rw [e]; split
      · omega
      · exact h.ge w
    · intro w hw
      rw [e] at hw
      split at hw
      · omega
      · exact h.zero w hw
    · intro w hw
      rcases List.mem_append.mp hw with hw | hw
      · rw [same w (h.qin w hw)]; exact h.qin w hw
      · rw [List.mem_singleton.mp hw, self]; omega
    · intro w hw; rw [same w (h.din w hw)]; exact h.din w hw
    · intro w hw
      rw [e] at hw
      split at hw
      · rename_i q_; subst q_; exact .inl (List.mem_append.mpr (.inr (List.mem_singleton.mpr rfl)))
      · rcases h.all w hw with a | a
        · exact .inl (List.mem_append.mpr (.inl a))
        · exact .inr a
    · intro x hx w hw hl
      have := h.closed x hx w hw hl
      rw [same w this.1, same x (h.din x hx)]; exact this
    · intro w hw hl
      rcases List.mem_cons.mp hw with rfl | hw
      · rw [self]; omega
      · have := h.clu w hw hl; rw [same w this]; exact this
    · intro w hw
      rw [e] at hw
      split at hw
      · rename_i q_; subst q_
        exact ⟨c.2, u, hv, by rw [self, eu]; omega⟩
      · rename_i q_
        obtain ⟨hl, x, hx, ex⟩ := h.pred w hw
        exact ⟨hl, x, hx, by rw [same x (by omega), e, if_neg q_]; exact ex⟩
    · rw [List.pairwise_append]
      refine ⟨?_, by simp, ?_⟩
      · refine List.Pairwise.imp_of_mem ?_ h.sort
        intro a b ha hb hab
        rw [same a (h.qin a ha), same b (h.qin b hb)]; exact hab
      · intro a ha b hb
        rw [List.mem_singleton.mp hb, self, same a (h.qin a ha)]; exact h.max a
    · intro w; rw [e]; split
      · omega
      · exact h.max w
    · intro x hx
      rw [eu]
      rcases List.mem_append.mp hx with hx | hx
      · rw [same x (h.qin x hx)]; exact h.lo x hx
      · rw [List.mem_singleton.mp hx, self]; omega
    · have hn := h.nodup
      rw [← List.append_assoc, ← List.cons_append, List.nodup_append]
      refine ⟨hn, by simp, ?_⟩
      intro a ha b hb
      rw [List.mem_singleton.mp hb]
      exact fun q_ => notin (q_ ▸ ha)
    · intro w; rw [e]; split
      · have := h.ubd; omega
      · exact h.bd w
  · rw [if_neg c]
    refine { h with clu := ?_ }
    intro w hw hl
    show 0 ≤ dt far w
    rcases List.mem_cons.mp hw with rfl | hw
    · have : ¬ dt far w < 0 := fun q_ => c ⟨q_, hl⟩
      omega
    · exact h.clu w hw hl

theorem InI.fold {N : Nat} {nb : Nat → List Nat} {live : Nat → Bool} {s u : Nat} {d : Int} (hN : ∀ v ∈ nb u, v < N) : ∀ (l seen : List Nat) (st : List Int × List Nat) (done : List Nat), (∀ v ∈ l, v ∈ nb u) → InI N nb live s u d seen st.1 st.2 done →
    ∃ seen', (∀ v ∈ l, v ∈ seen') ∧ (∀ v ∈ seen, v ∈ seen') ∧ InI N nb live s u d seen' (l.foldl (vis live d) st).1 (l.foldl (vis live d) st).2 done
  | [], seen, st, done, _, h => ⟨seen, by simp, fun _ h => h, h⟩
  | v :: l, seen, st, done, hl, h => by
    have hv := hl v (List.mem_cons_self ..)
    obtain ⟨s', h1, h2, h3⟩ := InI.fold hN l (v :: seen) (vis live d st v) done (fun w hw => hl w (List.mem_cons_of_mem _ hw)) (h.step hv (hN v hv))
    refine ⟨s', ?_, fun w hw => h2 w (List.mem_cons_of_mem _ hw), h3⟩
    intro w hw
    rcases List.mem_cons.mp hw with rfl | hw
    · exact h2 _ (List.mem_cons_self ..)
    · exact h1 w hw

theorem Inv.begin {N : Nat} {nb : Nat → List Nat} {live : Nat → Bool} {s u : Nat} {far : List Int} {q done : List Nat} (h : Inv N nb live s far (u :: q) done) : InI N nb live s u (dt far u + 1) [] far q done where
  len := h.len
  ge := h.ge
  du := rfl
  u0 := h.qin u (List.mem_cons_self ..)
  start := h.start
  zero := h.zero
  qin := fun v hv => h.qin v (List.mem_cons_of_mem _ hv)
  din := h.din
  all := fun v hv => by
    rcases h.all v hv with a | a
    · rcases List.mem_cons.mp a with a | a
      · exact .inr (.inl a)
      · exact .inl a
    · exact .inr (.inr a)
  closed := h.closed
  clu := by simp
  pred := h.pred
  sort := (List.pairwise_cons.mp h.sort).2
  max := fun v => h.max v u (List.mem_cons_self ..)
  lo := (List.pairwise_cons.mp h.sort).1
  nodup := by
    have := h.nodup
    rw [List.nodup_cons]
    rw [List.nodup_append] at this
    obtain ⟨h1, h2, h3⟩ := this
    rw [List.nodup_cons] at h2
    refine ⟨?_, List.nodup_append.mpr ⟨h1, h2.2, fun a ha b hb => h3 a ha b (List.mem_cons_of_mem _ hb)⟩⟩
    intro hm
    rcases List.mem_append.mp hm with hm | hm
    · exact h3 u hm u (List.mem_cons_self ..) rfl
    · exact h2.1 hm
  bd := fun v => by have := h.bd v; omega
  ubd := h.bd u

theorem InI.done {N : Nat} {nb : Nat → List Nat} {live : Nat → Bool} {s u : Nat} {d : Int} {seen far : List _} {q done : List Nat} (h : InI N nb live s u d seen far q done) (hs : ∀ v ∈ nb u, v ∈ seen) : Inv N nb live s far q (u :: done) where
  len := h.len
  ge := h.ge
  start := h.start
  zero := h.zero
  qin := h.qin
  din := fun v hv => by
    rcases List.mem_cons.mp hv with rfl | hv
    · exact h.u0
    · exact h.din v hv
  all := fun v hv => by
    rcases h.all v hv with a | a | a
    · exact .inl a
    · exact .inr (a ▸ List.mem_cons_self ..)
    · exact .inr (List.mem_cons_of_mem _ a)
  closed := fun x hx v hv hl => by
    rcases List.mem_cons.mp hx with rfl | hx
    · exact ⟨h.clu v (hs v hv) hl, by have := h.max v; have := h.du; omega⟩
    · exact h.closed x hx v hv hl
  pred := h.pred
  sort := h.sort
  max := fun v x hx => by have := h.max v; have := h.lo x hx; have := h.du; omega
  nodup := h.nodup
  bd := fun v => by have := h.bd v; rw [List.length_cons]; omega

theorem Inv.one {N : Nat} {nb : Nat → List Nat} {live : Nat → Bool} {s u : Nat} {far : List Int} {q done : List Nat} (hN : ∀ v ∈ nb u, v < N) (h : Inv N nb live s far (u :: q) done) :
    Inv N nb live s (one nb live u (far, q)).1 (one nb live u (far, q)).2 (u :: done) := by
  obtain ⟨s', h1, _, h3⟩ := InI.fold hN (nb u) [] (far, q) done (fun _ h => h) h.begin
  exact h3.done h1

theorem nodup_len : ∀ (N : Nat) (l : List Nat), l.Nodup → (∀ v ∈ l, v < N) → l.length ≤ N
  | 0, l, _, hl => by
    cases l with
    | nil => exact Nat.le_refl _
    | cons x xs => exact absurd (hl x (List.mem_cons_self ..)) (by omega)
  | N + 1, l, hn, hl => by
    have h1 := nodup_len N (l.erase N) (hn.erase N) (fun v hv => by
      have m := List.mem_of_mem_erase hv
      have a := hl v m
      have b : v ≠ N := by
        intro e
        subst e
        exact (List.Nodup.mem_erase_iff hn).mp hv |>.1 rfl
      omega)
    have h2 : l.length ≤ (l.erase N).length + 1 := by
      rw [List.length_erase]
      split <;> omega
    omega
theorem Inv.small {N : Nat} {nb : Nat → List Nat} {live : Nat → Bool} {s : Nat} {far : List Int} {q done : List Nat} (h : Inv N nb live s far q done) : done.length + q.length ≤ N := by
  have := nodup_len N (done ++ q) h.nodup (fun v hv => by
    rw [← h.len]
    rcases List.mem_append.mp hv with a | a
    · exact dt_lt (h.din v a)
    · exact dt_lt (h.qin v a))
  rwa [List.length_append] at this
theorem Inv.uN {N : Nat} {nb : Nat → List Nat} {live : Nat → Bool} {s u : Nat} {far : List Int} {q done : List Nat} (h : Inv N nb live s far (u :: q) done) : u < N := by
  rw [← h.len]; exact dt_lt (h.qin u (List.mem_cons_self ..))

def tab0 (N s : Nat) : List Int := (List.replicate N (-1)).set s 0
theorem inv0 {N : Nat} {nb : Nat → List Nat} {live : Nat → Bool} {s : Nat} (hs : s < N) : Inv N nb live s (tab0 N s) [s] [] := by
  have e : ∀ w, dt (tab0 N s) w = if w = s then 0 else -1 := by
    intro w
    unfold tab0
    rw [dt_set _ _ _ _ (by simpa using hs)]
    split
    · rfl
    · unfold dt
      rw [List.getD_eq_getElem?_getD, List.getElem?_replicate]
      split <;> rfl
  refine { len := by simp [tab0], ge := ?_, start := by rw [e, if_pos rfl], zero := ?_, qin := ?_, din := by simp, all := ?_, closed := by simp, pred := ?_, sort := by simp, max := ?_, nodup := by simp, bd := ?_ }
  · intro v; rw [e]; split <;> omega
  · intro v hv; rw [e] at hv; split at hv
    · assumption
    · omega
  · intro v hv; rw [List.mem_singleton.mp hv, e, if_pos rfl]; omega
  · intro v hv; rw [e] at hv; split at hv
    · rename_i q; exact .inl (List.mem_singleton.mpr q)
    · omega
  · intro v hv; rw [e] at hv; split at hv <;> omega
  · intro v x hx; rw [e, List.mem_singleton.mp hx, e, if_pos rfl]; split <;> omega
  · intro v; rw [e]; split <;> simp

/-- What the table says in the end. -/
structure Tab (N : Nat) (nb : Nat → List Nat) (live : Nat → Bool) (s : Nat) (far : List Int) : Prop where
  len : far.length = N
  ge : ∀ v, -1 ≤ dt far v
  start : dt far s = 0
  zero : ∀ v, dt far v = 0 → v = s
  step : ∀ u v, 0 ≤ dt far u → v ∈ nb u → live v = true → 0 ≤ dt far v ∧ dt far v ≤ dt far u + 1
  pred : ∀ v, 0 < dt far v → live v = true ∧ ∃ u, v ∈ nb u ∧ dt far u = dt far v - 1
  bd : ∀ v, dt far v ≤ (N : Int)
theorem Inv.tab {N : Nat} {nb : Nat → List Nat} {live : Nat → Bool} {s : Nat} {far : List Int} {done : List Nat} (h : Inv N nb live s far [] done) : Tab N nb live s far where
  len := h.len
  ge := h.ge
  start := h.start
  zero := h.zero
  step := fun u v hu hv hl => by
    rcases h.all u hu with a | a
    · cases a
    · exact h.closed u a v hv hl
  pred := h.pred
  bd := fun v => by have := h.bd v; have := h.small; simp only [List.length_nil] at this; omega

theorem run_tab {N : Nat} {nb : Nat → List Nat} {live : Nat → Bool} {s : Nat} (hN : ∀ u, u < N → ∀ v ∈ nb u, v < N) : ∀ (m : Nat) (far : List Int) (q done : List Nat), Inv N nb live s far q done → N ≤ m + done.length → Tab N nb live s (run nb live m (far, q))
  | 0, far, q, done, h, hm => by
    have hs := h.small
    have : q = [] := List.length_eq_zero_iff.mp (by omega)
    subst this
    exact h.tab
  | m + 1, far, [], done, h, hm => h.tab
  | m + 1, far, u :: q, done, h, hm => by
    unfold run
    exact run_tab hN m _ _ (u :: done) (h.one (hN u h.uN)) (by rw [List.length_cons]; omega)

/-- The table. -/
def tab (nb : Nat → List Nat) (live : Nat → Bool) (N s : Nat) : List Int := run nb live N (tab0 N s, [s])
theorem tab_tab {N : Nat} {nb : Nat → List Nat} {live : Nat → Bool} {s : Nat} (hN : ∀ u, u < N → ∀ v ∈ nb u, v < N) (hs : s < N) : Tab N nb live s (tab nb live N s) := run_tab hN N _ _ [] (inv0 hs) (by simp)

/-- A way of live nodes, each beside the one before. -/
inductive Way (nb : Nat → List Nat) (live : Nat → Bool) : Nat → Nat → Nat → Prop
  | nil (s : Nat) : Way nb live s s 0
  | snoc {s u v n : Nat} : Way nb live s u n → v ∈ nb u → live v = true → Way nb live s v (n + 1)
theorem Tab.way {N : Nat} {nb : Nat → List Nat} {live : Nat → Bool} {s : Nat} {far : List Int} (h : Tab N nb live s far) : ∀ (n : Nat) (v : Nat), dt far v = (n : Int) → Way nb live s v n
  | 0, v, hv => by rw [h.zero v hv]; exact .nil s
  | n + 1, v, hv => by
    obtain ⟨hl, u, hu, e⟩ := h.pred v (by omega)
    exact .snoc (h.way n u (by omega)) hu hl
theorem Tab.few {N : Nat} {nb : Nat → List Nat} {live : Nat → Bool} {s : Nat} {far : List Int} (h : Tab N nb live s far) {v n : Nat} (w : Way nb live s v n) : 0 ≤ dt far v ∧ dt far v ≤ (n : Int) := by
  induction w with
  | nil => rw [h.start]; omega
  | snoc w hv hl ih =>
    have := h.step _ _ ih.1 hv hl
    omega
/-- The table is told by the ways. -/
theorem Tab.iff {N : Nat} {nb : Nat → List Nat} {live : Nat → Bool} {s : Nat} {far : List Int} (h : Tab N nb live s far) (v : Nat) : 0 ≤ dt far v ↔ ∃ n, Way nb live s v n :=
  ⟨fun q => ⟨(dt far v).toNat, h.way _ v (by omega)⟩, fun ⟨n, w⟩ => (h.few w).1⟩

end Go.Proofs.Ytihhiolflbieaaa.Q
