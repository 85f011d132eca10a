-- Texts of this session's own program (wip/dr.py), which runs the kit's printer.
import Derived.Test.YtijbngmlaggclaaPx0
import Derived.Test.YtijbngmlaggclaaPx1
import Derived.Test.YtijbngmlaggclaaPx36
namespace Go.Proofs.Ytijbngmlaggclaa.P
open Go.RowKit Go.Proofs.YtijbngmlaggclaaW.PrintWords Go.Proofs.YtijbngmlaggclaaW.PrintLast Go.Proofs.YtijbngmlaggclaaW.PrintMore
attribute [local go_sem] max2_int min2_int max_two min_two max_three min_three max_four min_four   -- for this text's walks alone
set_option linter.unusedVariables false
set_option linter.unusedSimpArgs false

/-! ### impl_Lock_orderTurns: function 56 -/
def impl_Lock_orderTurns.has (met : List ByteArray) (s : ByteArray) : Bool := met.any fun t => decide (t.data.toList = s.data.toList)
/-- What the entries of the set say: each text that has been put in is told, no other. -/
def impl_Lock_orderTurns.MF (es : Array MapEntry) (ck : Nat) (met : List ByteArray) : Prop :=
  ∃ (D : DataW Unit) (n : Nat), (∀ (w : World) (b : Nat), w.heap[b]? = some (.map es ck) → w.ownsMap Try.prog 9 (plainElem Try.prog 4) b n D) ∧ n ≤ met.length ∧ (∃ l, D = .map l) ∧
    ∀ s : ByteArray, D.atKey (.string s.data.toList) (.lit (.bool false)) = .lit (.bool (impl_Lock_orderTurns.has met s))
def impl_Lock_orderTurns.look (met : List ByteArray) (s : ByteArray) : Option Bool := if s.size ≤ 9223372036854775807 then some (impl_Lock_orderTurns.has met s) else none
def impl_Lock_orderTurns.put (met : List ByteArray) (s : ByteArray) : Option (List ByteArray) := if s.size ≤ 9223372036854775807 then (if met.length < 9223372036854775807 then some (met ++ [s]) else none) else none
theorem impl_Lock_orderTurns.MF_nil : impl_Lock_orderTurns.MF #[] 0 [] := by
  refine ⟨.map [], 0, fun w b h => ⟨#[], 0, h, ⟨by simp, MapKept.stamped_empty 0, by simp⟩, Nat.le_refl _, rfl⟩, Nat.le_refl _, ⟨[], rfl⟩, fun s => ?_⟩
  rfl
theorem impl_Lock_orderTurns.bool_inv {P : Program} {e : TypeId} (he : P.underlying e = some .bool) {v : Value} {z : DataW Unit × List MemPlace} (h : plainElem P e v = some z) : ∃ c, v = .bool c ∧ z = (.lit (.bool c), []) := by
  unfold plainElem at h
  rw [he] at h
  cases v <;> simp at h
  exact ⟨_, rfl, h.symm⟩
theorem impl_Lock_orderTurns.runs {es : Array MapEntry} {ck : Nat} {met : List ByteArray} {s : ByteArray} {c : Bool} {w : World} {b : Nat} (hb : w.heap[b]? = some (.map es ck)) (hm : impl_Lock_orderTurns.MF es ck met) (h : impl_Lock_orderTurns.look met s = some c) :
    (Instr.lookup 89 (.map (some b)) (.string s) false).run Try.prog w = .ok (.bool c) w := by
  unfold impl_Lock_orderTurns.look at h
  obtain ⟨D, n, ho, _, _, hat⟩ := hm
  by_cases hs : s.size ≤ 9223372036854775807
  rotate_left
  · rw [if_neg hs] at h; exact absurd h (by simp)
  rw [if_pos hs] at h
  obtain rfl := Option.some.inj h
  obtain ⟨v, ps, hrun, hv⟩ := (ho w b hb).lookup (Maps.string_keyed Try.underlying9) Try.underlying89 (z := .bool false) (Try.zeroValue4 w) (plainElem_bool Try.underlying4 false) (WideMaps.keyOf_string_mk Try.underlying9 hs)
  obtain ⟨c, rfl, hc⟩ := impl_Lock_orderTurns.bool_inv Try.underlying4 hv
  simp only [Prod.mk.injEq] at hc
  rw [hat s] at hc
  have : c = impl_Lock_orderTurns.has met s := by have := hc.1; simpa using this.symm
  rw [hrun, this]
theorem impl_Lock_orderTurns.upd {ops : Array Oper} {Q : Exit → Act → World → Prop} {rest : List Oper} {o : Oper} {a : Act} {w : World} (hg : o.guard = none) (m x v : Operand) (hop : o.op = Op.mapUpdate 89 m x v) {b : Nat} {s : ByteArray}
    (hm : a.eval m = .map (some b)) (hx : a.eval x = .string s) (hv : a.eval v = .bool true) {es : Array MapEntry} {ck : Nat} {met met' : List ByteArray} (hb : w.heap[b]? = some (.map es ck)) (hMF : impl_Lock_orderTurns.MF es ck met) (h : impl_Lock_orderTurns.put met s = some met')
    (hK : ∀ (w' : World) (es' : Array MapEntry) (ck' : Nat), w'.heap[b]? = some (.map es' ck') → impl_Lock_orderTurns.MF es' ck' met' → w.grownBy w' (some b) → wpList Try.prog ops Q rest (a.put o.dst undef) w') : wpList Try.prog ops Q (o :: rest) a w := by
  unfold impl_Lock_orderTurns.put at h
  by_cases hs : s.size ≤ 9223372036854775807
  rotate_left
  · rw [if_neg hs] at h; exact absurd h (by simp)
  rw [if_pos hs] at h
  by_cases hl : met.length < 9223372036854775807
  rotate_left
  · rw [if_neg hl] at h; exact absurd h (by simp)
  rw [if_pos hl] at h
  obtain rfl := Option.some.inj h
  obtain ⟨D, n, ho, hn, ⟨l, hD⟩, hat⟩ := hMF
  have hkey := WideMaps.keyOf_string_mk (P := Try.prog) (k := 9) Try.underlying9 hs
  refine wpList_mapUpdate_own _ hg m x v 89 hop 9 4 (Maps.string_keyed Try.underlying9) Try.underlying89 (plainElem Try.prog 4) b n D hm (ho w b hb) (by unfold maxLen; omega) _ _ (.string s.data.toList) hx hv hkey (.lit (.bool true)) [] (plainElem_bool Try.underlying4 true) ?_
  intro w' hown' hg'
  have hown2 := hown'
  obtain ⟨es', ck', hb', F, hsz, hD'⟩ := hown'
  refine hK w' es' ck' hb' ⟨D.put (.string s.data.toList) (.lit (.bool true)), n + 1, fun w2 b2 h2 => ⟨es', ck', h2, F, hsz, hD'⟩, by simp; omega, ⟨_, hD'⟩, fun t => ?_⟩ hg'
  have hk : WideAt.IsKeyLit (.string s.data.toList) := by simp [WideAt.IsKeyLit]
  by_cases e : s = t
  · subst e
    rw [Maps.atKey_put_same ⟨l, hD⟩ hk]
    simp [impl_Lock_orderTurns.has, List.any_append]
  have e2 : ¬ s.data.toList = t.data.toList := fun q => e (ByteArray.ext (Array.toList_inj.mp q))
  rw [Maps.atKey_put_other (by intro q; injection q with q; exact e2 q.symm), hat t]
  show _ = DataW.lit (Lit.bool ((met ++ [s]).any fun t_ => decide (t_.data.toList = t.data.toList)))
  rw [List.any_append]
  have e3 : decide (s.data.toList = t.data.toList) = false := decide_eq_false e2
  simp only [List.any_cons, List.any_nil, e3, Bool.or_false]
  rfl
theorem impl_Lock_orderTurns.R_map {α : Type} {d : Kd α} {e base : Nat} {w w1 : World} {v : Value} {xs : List α} {g : Nat} {es : Array MapEntry} {ck : Nat} (h : d.R e w base (fun _ => True) v xs) (hb : w.heap[g]? = some (.map es ck)) (hg : w.grownBy w1 (some g)) : d.R e w1 base (fun _ => True) v xs := by
  refine Kd.R_mono (Kd.R_grown (Kd.R_bound h) hg (fun k hk q => ?_)) (fun _ _ => trivial)
  obtain ⟨_, _, _, _, _, cells, hc⟩ := hk
  injection q with q
  rw [q, hb] at hc
  injection hc with hc
  cases hc
theorem impl_Lock_orderTurns.R_nem {α : Type} {d : Kd α} {e base : Nat} {w : World} {ok : Nat → Prop} {v : Value} {xs : List α} {g : Nat} {es : Array MapEntry} {ck : Nat} (h : d.R e w base ok v xs) (hb : w.heap[g]? = some (.map es ck)) : some g ≠ v.ownBlock := by
  intro q
  obtain ⟨inner, ho⟩ := Kd.R_own h
  obtain ⟨cells, hc⟩ := own_typed ho g q.symm
  rw [hb] at hc
  injection hc with hc
  cases hc
theorem impl_Lock_orderTurns.far {w : World} {g : Nat} {o : Obj} (h : w.heap[g]? = some o) {p : Addr} (hp : g ≠ p.block) (u : Value) : (w.setCell p u).heap[g]? = some o := (Below.heap_setCell w p u g hp).trans h
theorem impl_Lock_orderTurns.map_event {P : Program} {ops : Array Oper} {Q : Exit → Act → World → Prop} {rest : List Oper} {o : Oper} {a : Act} {W : World} (hgd : o.guard = none) (ho : o.op = Op.makeMap 89 none)
    (h : ∀ g, g = W.heap.size → ∀ w1, w1.heap[g]? = some (.map #[] 0) → Below W.heap.size W w1 → wpList P ops Q rest (a.put o.dst (.map (some g))) w1) : wpList P ops Q (o :: rest) a W :=
  Kd.event_run hgd (by simp [execOp, ho, run_makeMap, Result.andThen]) (h _ rfl _ (blk_new W _) (b_a (Below.refl _ _) _))
mutual
def impl_Lock_orderTurns.l0 : Nat → List ByteArray → List (S32) → List ByteArray → List ByteArray → Int → Int → Int → Int → Option ((List (S32)) × Bool)
  | 0, _, _, _, _, _, _, _, _ => none
  | k + 1, x1, x6, x7, x14, x15, x16, x437000, x437001 => if x16 < x15 then (if 0 ≤ x16 then (if x16 < (x14.length : Int) then ((impl_Lock_isCode.f k x437000 x437001 (rdOf ByteArray.empty x14 x16)).bind fun t441 => (if t441 = true then ((impl_Lock_orderTurns.look x7 (rdOf ByteArray.empty x14 x16)).bind fun t442 => (if t442 = true then (impl_Lock_orderTurns.j1 k x1 x6 x7 x16 (rdOf ByteArray.empty x14 x16) x14 x15 x16 true x437000 x437001) else (impl_Lock_orderTurns.j1 k x1 x6 x7 x16 (rdOf ByteArray.empty x14 x16) x14 x15 x16 (decide (x16 ≥ 1000)) x437000 x437001))) else (impl_Lock_orderTurns.j1 k x1 x6 x7 x16 (rdOf ByteArray.empty x14 x16) x14 x15 x16 true x437000 x437001))) else (none)) else (none)) else (some (x6, true))
def impl_Lock_orderTurns.j1 : Nat → List ByteArray → List (S32) → List ByteArray → Int → ByteArray → List ByteArray → Int → Int → Bool → Int → Int → Option ((List (S32)) × Bool)
  | 0, _, _, _, _, _, _, _, _, _, _, _ => none
  | k + 1, x1, x6, x7, x8, x9, x14, x15, x16, x33, x437000, x437001 => if x33 = true then (some (([] : List (S32)), false)) else ((impl_Lock_orderTurns.put x7 x9).bind fun t443 => (if x8 = 0 then (impl_Lock_orderTurns.l0 k x1 x6 t443 x14 x15 (wrap64 (x16 + 1)) x437000 x437001) else (if 0 ≤ (wrap64 (x8 - 1)) then (if (wrap64 (x8 - 1)) < (x1.length : Int) then ((impl_Lock_between.f k x437000 x437001 (rdOf ByteArray.empty x1 (wrap64 (x8 - 1))) x9).bind fun bt445 => (if bt445.2.2 = true then (if x6.length < 8796093022208 then (impl_Lock_orderTurns.l0 k x1 (x6 ++ [(⟨bt445.1, bt445.2.1⟩ : S32)]) t443 x14 x15 (wrap64 (x16 + 1)) x437000 x437001) else (none)) else (some (([] : List (S32)), false)))) else (none)) else (none))))
end
def impl_Lock_orderTurns.f (k : Nat) (a0_0 : Int) (a0_1 : Int) (l1 : List ByteArray) : Option ((List (S32)) × Bool) := impl_Lock_orderTurns.l0 k l1 (([] : List (S32))) [] l1 (l1.length : Int) 0 a0_0 a0_1
theorem impl_Lock_orderTurns.mono_l : ∀ k, (∀ y0 y1 y2 y3 y4 y5 y6 y7, LeO (impl_Lock_orderTurns.l0 k y0 y1 y2 y3 y4 y5 y6 y7) (impl_Lock_orderTurns.l0 (k + 1) y0 y1 y2 y3 y4 y5 y6 y7)) ∧ (∀ y0 y1 y2 y3 y4 y5 y6 y7 y8 y9 y10, LeO (impl_Lock_orderTurns.j1 k y0 y1 y2 y3 y4 y5 y6 y7 y8 y9 y10) (impl_Lock_orderTurns.j1 (k + 1) y0 y1 y2 y3 y4 y5 y6 y7 y8 y9 y10))
  | 0 => ⟨fun _ _ _ _ _ _ _ _ r h => by simp [impl_Lock_orderTurns.l0] at h, fun _ _ _ _ _ _ _ _ _ _ _ r h => by simp [impl_Lock_orderTurns.j1] at h⟩
  | k + 1 => by
    obtain ⟨ih0, ih1⟩ := impl_Lock_orderTurns.mono_l k
    refine ⟨?_, ?_⟩
    rotate_left
    · intro y0 y1 y2 y3 y4 y5 y6 y7 y8 y9 y10
      unfold impl_Lock_orderTurns.j1
      repeat' first
      | (with_reducible exact ih0 _ _ _ _ _ _ _ _)
      | (with_reducible exact ih1 _ _ _ _ _ _ _ _ _ _ _)
      | (with_reducible exact impl_Lock_between.mono _ _ _ _ _)
      | (with_reducible exact impl_Lock_isCode.mono _ _ _ _)
      | (with_reducible exact LeO.refl _)
      | (with_reducible exact LeO.none _)
      | (with_reducible refine LeO.ite ?_ ?_)
      | (with_reducible refine LeO.bind ?_ (fun _ => ?_))
      | exact ih0 _ _ _ _ _ _ _ _
      | exact ih1 _ _ _ _ _ _ _ _ _ _ _
      | exact impl_Lock_between.mono _ _ _ _ _
      | exact impl_Lock_isCode.mono _ _ _ _
      | exact LeO.none _
      | refine LeO.ite ?_ ?_
      | refine LeO.bind ?_ (fun _ => ?_)
    intro y0 y1 y2 y3 y4 y5 y6 y7
    unfold impl_Lock_orderTurns.l0
    repeat' first
    | (with_reducible exact ih0 _ _ _ _ _ _ _ _)
    | (with_reducible exact ih1 _ _ _ _ _ _ _ _ _ _ _)
    | (with_reducible exact impl_Lock_between.mono _ _ _ _ _)
    | (with_reducible exact impl_Lock_isCode.mono _ _ _ _)
    | (with_reducible exact LeO.refl _)
    | (with_reducible exact LeO.none _)
    | (with_reducible refine LeO.ite ?_ ?_)
    | (with_reducible refine LeO.bind ?_ (fun _ => ?_))
    | exact ih0 _ _ _ _ _ _ _ _
    | exact ih1 _ _ _ _ _ _ _ _ _ _ _
    | exact impl_Lock_between.mono _ _ _ _ _
    | exact impl_Lock_isCode.mono _ _ _ _
    | exact LeO.none _
    | refine LeO.ite ?_ ?_
    | refine LeO.bind ?_ (fun _ => ?_)
theorem impl_Lock_orderTurns.mono : ∀ a0 a1 a2 k, LeO (impl_Lock_orderTurns.f k a0 a1 a2) (impl_Lock_orderTurns.f (k + 1) a0 a1 a2) := by
  intro a0 a1 a2 k
  obtain ⟨ih0, ih1⟩ := impl_Lock_orderTurns.mono_l k
  unfold impl_Lock_orderTurns.f
  repeat' first
      | (with_reducible exact ih0 _ _ _ _ _ _ _ _)
      | (with_reducible exact ih1 _ _ _ _ _ _ _ _ _ _ _)
      | (with_reducible exact impl_Lock_between.mono _ _ _ _ _)
      | (with_reducible exact impl_Lock_isCode.mono _ _ _ _)
      | (with_reducible exact LeO.refl _)
      | (with_reducible exact LeO.none _)
      | (with_reducible refine LeO.ite ?_ ?_)
      | (with_reducible refine LeO.bind ?_ (fun _ => ?_))
      | exact ih0 _ _ _ _ _ _ _ _
      | exact ih1 _ _ _ _ _ _ _ _ _ _ _
      | exact impl_Lock_between.mono _ _ _ _ _
      | exact impl_Lock_isCode.mono _ _ _ _
      | exact LeO.none _
      | refine LeO.ite ?_ ?_
      | refine LeO.bind ?_ (fun _ => ?_)
def impl_Lock_orderTurns.T9 : Bool × List (List Nat × List Nat) := (true, [([], []), ([], []), ([], []), ([2], [2]), ([1, 3], [1, 3]), ([4], [4]), ([], []), ([0, 5, 6], [0, 5, 6]), ([7], [7]), ([8], [8]), ([8], [8]), ([], []), ([11, 9, 7, 0, 1, 2, 3, 4, 5, 6, 7, 8, 9, 11], [9, 11]), ([10, 12, 0, 1, 2, 3, 4, 5, 6, 7, 8, 9, 10, 11, 12], [10])])
def impl_Lock_orderTurns.B9 : List Nat := [0, 0, 0, 4, 14, 30, 0, 127, 255, 511, 511, 0, 3071, 8191]
theorem impl_Lock_orderTurns.tab9 : rtab .any (opsOf Try.f56 9) = impl_Lock_orderTurns.T9 := by kernel_rfl
theorem impl_Lock_orderTurns.bits9 : waitsOk impl_Lock_orderTurns.T9.2 impl_Lock_orderTurns.B9 = true := by kernel_rfl
set_option maxHeartbeats 8000000 in
set_option maxRecDepth 100000 in
theorem impl_Lock_orderTurns.calls (k : Nat) (a0_0 : Int) (a0_1 : Int) (A1 : Option Addr) (c1 : Nat) (l1 : List ByteArray) (r1 : List (S32)) (r2 : Bool) (w : World) (hr1 : Kd.C Kd.string w A1 l1.length l1) (hc1 : l1.length ≤ c1) (h : impl_Lock_orderTurns.f k a0_0 a0_1 l1 = some (r1, r2)) :
    Calls Try.prog 56 #[.agg #[.int .i64 a0_0, .int .i64 a0_1], .slice A1 l1.length c1] w fun e w' => ∃ v0_ : Value, e = .returned (.tuple #[v0_, .bool r2]) ∧ Kd.R k32 32 w' w.heap.size (fun _ => True) v0_ r1 ∧ Below w.heap.size w w' := by
  have hu26 := Try.underlying26
  have hu32 := Try.underlying32
  have HR1 := Aside0.mk hr1
  have HC1 := Aside0.mk hc1
  clear hr1 hc1
  have HB := Aside0.mk (Below.refl w.heap.size w)
  have H : (impl_Lock_orderTurns.l0 k l1 (([] : List (S32))) [] l1 (l1.length : Int) 0 a0_0 a0_1) = some (r1, r2) := h
  clear h
  obtain ⟨y437, hy437⟩ : ∃ y_ : List (S32), y_ = (([] : List (S32))) := ⟨_, rfl⟩
  replace H : (impl_Lock_orderTurns.l0 k l1 y437 [] l1 (l1.length : Int) 0 a0_0 a0_1) = some (r1, r2) := by first | (rw [hy437]; with_reducible exact H) | (have H2_ := (Option.bind_some _ _).symm.trans H; rw [hy437]; with_reducible exact H2_) | (have H2_ := (Option.bind_some _ _).symm.trans H; with_reducible exact H2_) | with_reducible exact H | (rw [hy437]; exact H) | exact H
  have Ny437 := Aside0.mk hy437
  clear hy437
  have H' := Aside0.mk H
  clear H
  go_enter Try.func56, Try.ntmps56
  go_wp2_with (first | ((with_reducible refine gate_dst (N := 2) rfl ?_); refine box_event ?hg (N := 2) ?hd (cs := #[.int .i64 a0_0, .int .i64 a0_1]) (t := 26) ?hr ?_; (case hd => rfl); (case hg => rfl); (case hr => first | (go_simp; done) | (go_simp; rfl)); intro gb436 hg w3 hbox hb; have n0_ := bsx hb HB; have n1_ := Aside0.mk (hbox); have n2_ := gwx hg HB; have n3_ := n2_; clear HB; have HB := n0_; have BK436 := n1_; have GW436 := n2_; have GE436 := n3_; clear n0_ n1_ n2_ n3_; clear hb hbox hg) | ((with_reducible refine gate_dst (N := 12) rfl ?_); refine Kd.R_lit k32 _ 32 ?hg (N := 12) ?hd (xs := ([] : List (S32))) (inner := []) (ok := fun _ => True) (okp := fun _ => True) ?hr ?hp (fun _ hk => hk) trivial (Below.refl _ _) (Nat.le_refl _) (by simp) ?_; (case hd => rfl); (case hg => rfl); (case hr => first | (go_simp; done) | (go_simp; rfl)); (case hp => exact (Reps.none _ _)); intro v438 w4 ho5 hb hg_ hnew_; clear hg_ hnew_; (first | rw [← Ny437.out] at ho5 | (simp only [Int.reduceToNat] at ho5; rw [← Ny437.out] at ho5)); have n0_ := Aside0.mk (Kd.R_lower ho5 (below_size (bB HB))); replace BK436 := bbx hb BK436; have n2_ := bsx hb HB; clear HB; have HO439 := n0_; have HB := n2_; clear n0_ n2_; clear hb ho5) | ((with_reducible refine gate_dst (N := 13) rfl ?_); refine impl_Lock_orderTurns.map_event rfl rfl ?_; intro gm hgm wm hbm hb; have n0_ := Aside0.mk (Kd.R_below HO439.out hb); have n1_ := Aside0.mk (blk_below (g := gb436) (o := .cells #[.int .i64 a0_0, .int .i64 a0_1] 26 (0, 0)) BK436.out hb); have n2_ := Aside0.mk (below_step HB.out hb); have GM := Aside0.mk (show w.heap.size ≤ gm from by rw [hgm]; exact below_size HB.out); have BKM := Aside0.mk hbm; have HMF := Aside0.mk impl_Lock_orderTurns.MF_nil; clear HB BK436 HO439; have HO439 := n0_; have BK436 := n1_; have HB := n2_; clear n0_ n1_ n2_ hb hgm hbm))
  go_loopg [6, 16] k (fun kq v6 v16 w' => ∃ (x6_1 : List (S32)) (x7_1 : List ByteArray) (es : Array MapEntry) (ck : Nat) (x16_1 : Int), Aside0 (impl_Lock_orderTurns.MF es ck x7_1) ∧ v16 = .int .i64 x16_1 ∧ Aside0 (impl_Lock_orderTurns.l0 kq l1 x6_1 x7_1 l1 (l1.length : Int) x16_1 a0_0 a0_1 = some (r1, r2)) ∧ Aside0 (kq ≤ k) ∧ Aside0 (Kd.R k32 32 w' w.heap.size (fun _ => True) v6 x6_1) ∧ Aside0 (w'.heap[gb436]? = some (.cells #[.int .i64 a0_0, .int .i64 a0_1] 26 (0, 0))) ∧ Aside0 (w'.heap[gm]? = some (.map es ck)) ∧ Aside0 (Below w.heap.size w w'))
  case atStart => refine ⟨(y437), [], #[], 0, (0), HMF, (by first | rfl | (simp; done) | (simp [*]; done)), H', ⟨Nat.le_refl _⟩, ⟨?_⟩, ⟨?_⟩, ⟨?_⟩, ⟨bB HB⟩⟩ <;> (with_reducible repeat (first | refine g_d ?_ _ | refine g_e ?_ | refine g_a ?_ _ | apply r_a | apply r_d | apply r_e)) <;> first | exact BK436.out | exact BKM.out | exact HO439.out
  clear H'
  try clear c1
  obtain ⟨x6_1, x7_1, es, ck, x16_1, HMF, rfl, HA, HK1, HO_6, BK436, BKM, HB⟩ := hrel
  rcases gk with _ | k1
  · exact absurd HA.out (by simp [impl_Lock_orderTurns.l0])
  have H := HA.out
  clear HA
  simp only [impl_Lock_orderTurns.l0] at H
  by_cases c6 : x16_1 < (l1.length : Int)
  rotate_left
  · rw [if_neg c6] at H
    have c6b0 : decide (x16_1 < (l1.length : Int)) = false := decide_eq_false c6
    clear c6
    simp only [Option.some.injEq, Prod.mk.injEq] at H
    obtain ⟨rfl, rfl⟩ := H
    go_wp2
    go_ret2
    exact ⟨_, by first | rfl | (simp [errW_none, errW_some] <;> rfl) | (simp [*, errW_none, errW_some] <;> rfl), by (with_reducible repeat (first | apply r_a | apply r_d | apply r_e)); exact HO_6.out, bB HB⟩

  rw [if_pos c6] at H
  have c6b0 : decide (x16_1 < (l1.length : Int)) = true := decide_eq_true c6
  clear c6
  by_cases c7 : 0 ≤ x16_1
  rotate_left
  · rw [if_neg c7] at H
    exact absurd H (by simp)
  rw [if_pos c7] at H
  have c7b0 : decide (0 ≤ x16_1) = true := decide_eq_true c7
  clear c7
  by_cases c8 : x16_1 < (l1.length : Int)
  rotate_left
  · rw [if_neg c8] at H
    exact absurd H (by simp)
  rw [if_pos c8] at H
  have c8b0 : decide (x16_1 < (l1.length : Int)) = true := decide_eq_true c8
  clear c8
  have HC9 := Aside0.mk H
  clear H
  have p440 : 0 ≤ (x16_1 : Int) := of_decide_eq_true (by first | (with_reducible assumption) | assumption)
  have q440 : x16_1 < (l1.length : Int) := of_decide_eq_true (by first | (with_reducible assumption) | assumption)
  obtain ⟨ad440, e440, hx440_0⟩ := Kd.at_string HR1.out x16_1 p440 q440
  cases e440
  replace hx440_0 := (HB.out.cell (World.block_lt_of_cell? w _ hx440_0)).trans hx440_0
  replace p440 := eq_true p440
  replace q440 := eq_true q440
  go_upto_region 5 with (fail)
  go_cut [33] (fun v33 wc => ∃ (kq : Nat) (x33_8 : Bool), v33 = .bool x33_8 ∧ Aside0 (impl_Lock_orderTurns.j1 kq l1 x6_1 x7_1 x16_1 (rdOf ByteArray.empty l1 x16_1) l1 (l1.length : Int) x16_1 x33_8 a0_0 a0_1 = some (r1, r2)) ∧ Aside0 (kq ≤ k1) ∧ Aside0 (Kd.R k32 32 wc w.heap.size (fun _ => True) u6 x6_1) ∧ Aside0 (wc.heap[gb436]? = some (.cells #[.int .i64 a0_0, .int .i64 a0_1] 26 (0, 0))) ∧ Aside0 (wc.heap[gm]? = some (.map es ck)) ∧ Aside0 (Below w.heap.size w wc))
  case first =>
    have H := HC9.out
    clear HC9
    replace H := Option.bind_eq_some_iff.mp H
    obtain ⟨t441, A100, H⟩ := H
    try dsimp only at H
    have A10 := Aside0.mk A100
    clear A100
    by_cases c11 : t441 = true
    rotate_left
    · replace c11 := Bool.eq_false_iff.mpr c11
      subst c11
      rw [if_neg (show ¬ (false = true) by decide)] at H
      have H' := Aside0.mk H
      clear H
      have hcz18_0 := cz0 BK436
      have hcz18_1 := cz1 BK436
      have hfz18_0 := blk_frozen BK436.out 0
      have hfz18_1 := blk_frozen BK436.out 1
      go_wp2_with (first | ((with_reducible refine gate_callee (f := 63) rfl ?_); refine goesL_ (some 23) rfl rfl Try.func63 (by kernel_rfl) rfl #[.agg #[.int .i64 a0_0, .int .i64 a0_1], .string (rdOf ByteArray.empty l1 x16_1)] rfl (by (try simp only [m_1, m_2, m_3]); first | done | rfl | (simp only [m_4, m_5]; rfl)) ?_; (with_reducible refine (impl_Lock_isCode.calls k1 a0_0 a0_1 (rdOf ByteArray.empty l1 x16_1) false _ A10.out).mono ?_); rintro e w19 ⟨rfl, hb⟩; refine ⟨_, rfl, ?_⟩; have n0_ := Aside0.mk (Kd.R_below (by (with_reducible repeat (first | apply r_a | apply r_d | apply r_e)); exact HO_6.out) hb); have n1_ := bbx hb BK436; have m0_ := bbx hb BKM; replace HB := bsx hb HB; clear HO_6; clear BK436 BKM; have HO_6 := n0_; have BK436 := n1_; have BKM := m0_; clear n0_ n1_; (try clear hb); (try clear hb2); (try clear hk); (try clear hi)))
      go_meet
      case rel => refine ⟨_, (true), (by first | rfl | (simp; done) | (simp [*]; done)), H', ⟨by have := HK1.out; first | omega | exact Nat.le_refl _⟩, ⟨?_⟩, ⟨?_⟩, ⟨?_⟩, ⟨bB HB⟩⟩ <;> (with_reducible repeat (first | refine g_d ?_ _ | refine g_e ?_ | refine g_a ?_ _ | apply r_a | apply r_d | apply r_e)) <;> first | exact BK436.out | exact BKM.out | exact HO_6.out
    subst c11
    rw [if_pos rfl] at H
    replace H := Option.bind_eq_some_iff.mp H
    obtain ⟨t442, A120, H⟩ := H
    try dsimp only at H
    have A12 := Aside0.mk A120
    clear A120
    by_cases c13 : t442 = true
    · subst c13
      rw [if_pos rfl] at H
      have H' := Aside0.mk H
      clear H
      have hcz14_0 := cz0 BK436
      have hcz14_1 := cz1 BK436
      have hfz14_0 := blk_frozen BK436.out 0
      have hfz14_1 := blk_frozen BK436.out 1
      go_wp2_with (first | ((with_reducible refine gate_callee (f := 63) rfl ?_); refine goesL_ (some 23) rfl rfl Try.func63 (by kernel_rfl) rfl #[.agg #[.int .i64 a0_0, .int .i64 a0_1], .string (rdOf ByteArray.empty l1 x16_1)] rfl (by (try simp only [m_1, m_2, m_3]); first | done | rfl | (simp only [m_4, m_5]; rfl)) ?_; (with_reducible refine (impl_Lock_isCode.calls k1 a0_0 a0_1 (rdOf ByteArray.empty l1 x16_1) true _ A10.out).mono ?_); rintro e w15 ⟨rfl, hb⟩; refine ⟨_, rfl, ?_⟩; have n0_ := Aside0.mk (Kd.R_below (by (with_reducible repeat (first | apply r_a | apply r_d | apply r_e)); exact HO_6.out) hb); have n1_ := bbx hb BK436; have m0_ := bbx hb BKM; replace HB := bsx hb HB; clear HO_6; clear BK436 BKM; have HO_6 := n0_; have BK436 := n1_; have BKM := m0_; clear n0_ n1_; (try clear hb); (try clear hb2); (try clear hk); (try clear hi); have hlk := impl_Lock_orderTurns.runs BKM.out HMF.out A12.out))
      go_meet
      case rel => refine ⟨_, (true), (by first | rfl | (simp; done) | (simp [*]; done)), H', ⟨by have := HK1.out; first | omega | exact Nat.le_refl _⟩, ⟨?_⟩, ⟨?_⟩, ⟨?_⟩, ⟨bB HB⟩⟩ <;> (with_reducible repeat (first | refine g_d ?_ _ | refine g_e ?_ | refine g_a ?_ _ | apply r_a | apply r_d | apply r_e)) <;> first | exact BK436.out | exact BKM.out | exact HO_6.out
    replace c13 := Bool.eq_false_iff.mpr c13
    subst c13
    rw [if_neg (show ¬ (false = true) by decide)] at H
    have H' := Aside0.mk H
    clear H
    have hcz16_0 := cz0 BK436
    have hcz16_1 := cz1 BK436
    have hfz16_0 := blk_frozen BK436.out 0
    have hfz16_1 := blk_frozen BK436.out 1
    go_wp2_with (first | ((with_reducible refine gate_callee (f := 63) rfl ?_); refine goesL_ (some 23) rfl rfl Try.func63 (by kernel_rfl) rfl #[.agg #[.int .i64 a0_0, .int .i64 a0_1], .string (rdOf ByteArray.empty l1 x16_1)] rfl (by (try simp only [m_1, m_2, m_3]); first | done | rfl | (simp only [m_4, m_5]; rfl)) ?_; (with_reducible refine (impl_Lock_isCode.calls k1 a0_0 a0_1 (rdOf ByteArray.empty l1 x16_1) true _ A10.out).mono ?_); rintro e w17 ⟨rfl, hb⟩; refine ⟨_, rfl, ?_⟩; have n0_ := Aside0.mk (Kd.R_below (by (with_reducible repeat (first | apply r_a | apply r_d | apply r_e)); exact HO_6.out) hb); have n1_ := bbx hb BK436; have m0_ := bbx hb BKM; replace HB := bsx hb HB; clear HO_6; clear BK436 BKM; have HO_6 := n0_; have BK436 := n1_; have BKM := m0_; clear n0_ n1_; (try clear hb); (try clear hb2); (try clear hk); (try clear hi); have hlk := impl_Lock_orderTurns.runs BKM.out HMF.out A12.out))
    go_meet
    case rel => refine ⟨_, (decide (x16_1 ≥ 1000)), (by first | rfl | (simp; done) | (simp [*]; done)), H', ⟨by have := HK1.out; first | omega | exact Nat.le_refl _⟩, ⟨?_⟩, ⟨?_⟩, ⟨?_⟩, ⟨bB HB⟩⟩ <;> (with_reducible repeat (first | refine g_d ?_ _ | refine g_e ?_ | refine g_a ?_ _ | apply r_a | apply r_d | apply r_e)) <;> first | exact BK436.out | exact BKM.out | exact HO_6.out
  clear HC9
  try clear c6
  try clear c6b0
  try clear c7
  try clear c7b0
  try clear c8
  try clear c8b0
  try clear hx440_0
  try clear p440
  try clear q440
  obtain ⟨kq, x33_8, rfl, HA, HJ8, HO_6, BK436, BKM, HB⟩ := hcut
  rcases kq with _ | kj8
  · exact absurd HA.out (by simp [impl_Lock_orderTurns.j1])
  have H := HA.out
  clear HA
  simp only [impl_Lock_orderTurns.j1] at H
  by_cases c20 : x33_8 = true
  · subst c20
    rw [if_pos rfl] at H
    simp only [Option.some.injEq, Prod.mk.injEq] at H
    obtain ⟨rfl, rfl⟩ := H
    go_wp2
    go_ret2
    exact ⟨_, by first | rfl | (simp [errW_none, errW_some] <;> rfl) | (simp [*, errW_none, errW_some] <;> rfl), by first | exact Kd.R_nil _ _ _ _ _ | exact Kd.N_nil _ _ _ _ _ | exact Kd.V_nil _ _ _ _ _ | exact Kd.Q_nil _ _ _ _ _ | exact Kd.S_nil _ _ _ _ _, bB HB⟩
  replace c20 := Bool.eq_false_iff.mpr c20
  subst c20
  rw [if_neg (show ¬ (false = true) by decide)] at H
  replace H := Option.bind_eq_some_iff.mp H
  obtain ⟨t443, A210, H⟩ := H
  try dsimp only at H
  have A21 := Aside0.mk A210
  clear A210
  by_cases c22 : x16_1 = 0
  · rw [if_pos c22] at H
    have c22b0 : (x16_1 == 0) = true := beq_iff_eq.mpr c22
    have c22b1 : (x16_1 != 0) = false := bne_eq_false_iff_eq.mpr c22
    clear c22
    have H' := Aside0.mk H
    clear H
    go_wp2_with (first | (at_mapUpdate; refine impl_Lock_orderTurns.upd rfl _ _ _ rfl rfl rfl rfl BKM.out HMF.out A21.out ?_; intro wc es ck hbm hmf hgm; have n0_ := Aside0.mk (impl_Lock_orderTurns.R_map HO_6.out BKM.out hgm); have n1_ := Aside0.mk (blk_grown BK436.out hgm (fun q => by injection q with q; have h1_ := BK436.out; rw [q, BKM.out] at h1_; injection h1_ with h1_; cases h1_)); have n2_ := Aside0.mk (pw_below_grown HB.out (some gm) (below_size HB.out) hgm (fun k e => by injection e with e; rw [← e]; exact GM.out)); clear HO_6 BK436 BKM HB HMF; have HO_6 := n0_; have BK436 := n1_; have HB := n2_; have BKM := Aside0.mk hbm; have HMF := Aside0.mk hmf; clear n0_ n1_ n2_ hbm hmf hgm))
    go_roundg kj8
    case measure => have := HK1.out; have := HJ8.out; omega
    case rel => refine ⟨(x6_1), t443, es, ck, (wrap64 (x16_1 + 1)), HMF, (by first | rfl | (simp; done) | (simp [*]; done)), H', ⟨by have := HK1.out; have := HJ8.out; omega⟩, ⟨?_⟩, ⟨?_⟩, ⟨?_⟩, ⟨bB HB⟩⟩ <;> (with_reducible repeat (first | refine g_d ?_ _ | refine g_e ?_ | refine g_a ?_ _ | apply r_a | apply r_d | apply r_e)) <;> first | exact BK436.out | exact BKM.out | exact HO_6.out
  rw [if_neg c22] at H
  have c22b0 : (x16_1 == 0) = false := beq_eq_false_iff_ne.mpr c22
  have c22b1 : (x16_1 != 0) = true := bne_iff_ne.mpr c22
  obtain ⟨ji23, hji23⟩ : ∃ j_ : Int, (wrap64 (x16_1 - 1)) = j_ := ⟨_, rfl⟩
  replace H : (if 0 ≤ (ji23) then (if (ji23) < (l1.length : Int) then ((impl_Lock_between.f kj8 a0_0 a0_1 (rdOf ByteArray.empty l1 (ji23)) (rdOf ByteArray.empty l1 x16_1)).bind fun bt445 => (if bt445.2.2 = true then (if x6_1.length < 8796093022208 then (impl_Lock_orderTurns.l0 kj8 l1 (x6_1 ++ [(⟨bt445.1, bt445.2.1⟩ : S32)]) t443 l1 (l1.length : Int) (wrap64 (x16_1 + 1)) a0_0 a0_1) else (none)) else (some (([] : List (S32)), false)))) else (none)) else (none)) = some (r1, r2) := by first | (rw [hji23] at H; exact H) | (simp only [hji23] at H ⊢; exact H)
  (try rw [hji23] at A21)
  have hji23w : (IntKind.i64.wrap (x16_1 - 1)) = ji23 := (i64_w _).trans hji23
  by_cases c24 : 0 ≤ (ji23)
  rotate_left
  · rw [if_neg c24] at H
    exact absurd H (by simp)
  rw [if_pos c24] at H
  have c24b0 : decide (0 ≤ (ji23)) = true := decide_eq_true c24
  clear c24
  by_cases c25 : (ji23) < (l1.length : Int)
  rotate_left
  · rw [if_neg c25] at H
    exact absurd H (by simp)
  rw [if_pos c25] at H
  have c25b0 : decide ((ji23) < (l1.length : Int)) = true := decide_eq_true c25
  clear c25
  replace H := Option.bind_eq_some_iff.mp H
  obtain ⟨⟨t445, t446, t447⟩, A260, H⟩ := H
  try dsimp only at H
  have A26 := Aside0.mk A260
  clear A260
  by_cases c27 : t447 = true
  rotate_left
  · replace c27 := Bool.eq_false_iff.mpr c27
    subst c27
    rw [if_neg (show ¬ (false = true) by decide)] at H
    simp only [Option.some.injEq, Prod.mk.injEq] at H
    obtain ⟨rfl, rfl⟩ := H
    try go_wp2_with (first | (at_mapUpdate; refine impl_Lock_orderTurns.upd rfl _ _ _ rfl rfl rfl rfl BKM.out HMF.out A21.out ?_; intro wc es ck hbm hmf hgm; have n0_ := Aside0.mk (impl_Lock_orderTurns.R_map HO_6.out BKM.out hgm); have n1_ := Aside0.mk (blk_grown BK436.out hgm (fun q => by injection q with q; have h1_ := BK436.out; rw [q, BKM.out] at h1_; injection h1_ with h1_; cases h1_)); have n2_ := Aside0.mk (pw_below_grown HB.out (some gm) (below_size HB.out) hgm (fun k e => by injection e with e; rw [← e]; exact GM.out)); clear HO_6 BK436 BKM HB HMF; have HO_6 := n0_; have BK436 := n1_; have HB := n2_; have BKM := Aside0.mk hbm; have HMF := Aside0.mk hmf; clear n0_ n1_ n2_ hbm hmf hgm))
    have n0_ := Aside0.mk (r_e HO_6.out)
    have n1_ := Aside0.mk (g_e BK436.out)
    have m0_ := Aside0.mk (g_e BKM.out)
    have n2_ := Aside0.mk (b_e HB.out)
    clear HO_6
    clear BK436 BKM
    clear HB
    have HO_6 := n0_
    have BK436 := n1_
    have BKM := m0_
    have HB := n2_
    clear n0_ n1_ n2_
    have p444 : 0 ≤ ((ji23) : Int) := of_decide_eq_true (by first | (with_reducible assumption) | assumption)
    have q444 : (ji23) < (l1.length : Int) := of_decide_eq_true (by first | (with_reducible assumption) | assumption)
    obtain ⟨ad444, e444, hx444_0⟩ := Kd.at_string HR1.out (ji23) p444 q444
    have hw444_0 := hx444_0
    obtain rfl : ad440 = ad444 := (by injection e444)
    replace hx444_0 := (HB.out.cell (World.block_lt_of_cell? w _ hx444_0)).trans hx444_0
    replace p444 := eq_true p444
    replace q444 := eq_true q444
    refine start_ (n := 14) (S := fun w' => w'.cell? ⟨gb436, 0, none⟩ = some (.int .i64 a0_0) ∧ w'.cell? ⟨gb436, 1, none⟩ = some (.int .i64 a0_1) ∧ w'.cell? (ad440.add ((ji23)).toNat) = some (.string (rdOf ByteArray.empty l1 (ji23)))) (ds := []) (bs_ 14 0) (by kernel_rfl) rfl rfl ⟨(blk_cell BK436.out 0).trans rfl, (blk_cell BK436.out 1).trans rfl, ((HB.out.cell (World.block_lt_of_cell? w _ hw444_0)).trans hw444_0)⟩ (fun hHeld => ?_); refine with_tabW impl_Lock_orderTurns.tab9 impl_Lock_orderTurns.bits9 (fun HT_ HW_ => ?_)
    generalize wc.drew = w38 at HO_6 BK436 BKM HB hx444_0 hHeld ⊢
    refine pua 1 40 (bs_ 14 2) HT_ ?_
    refine pua 2 41 (bs_ 14 6) HT_ ?_
    refine pua 3 42 (bs_ 14 14) HT_ ?_
    refine pua 4 43 (bs_ 14 30) HT_ ?_
    refine pua 6 45 (bs_ 14 94) HT_ ?_
    refine tk_ 0 39 (bs_ 14 95) rfl rfl HT_ HW_ (by kernel_rfl) (fun _ _ _ h => h) (by rfl) hHeld (by rintro w' ⟨s0, s1, s2⟩; go_simp; with_reducible rfl) (by simp only [Act.put, s_1, s_2, s_3, i64_w, i32_w]; rfl) ?_
    refine tk_ 5 44 (bs_ 14 127) rfl rfl HT_ HW_ (by kernel_rfl) (fun _ _ _ h => h) (by rfl) hHeld (by rintro w' ⟨s0, s1, s2⟩; go_simp; with_reducible rfl) (by simp only [Act.put, s_1, s_2, s_3, i64_w, i32_w]; rfl) ?_
    refine join_ (σ := Nat) 2 (bs_ 14 4095) (fun s_ => [(46, .tuple #[.agg #[.int .i64 t445, .int .i64 t446], .bool false]), (10, .pointer (some ⟨s_, 0, none⟩)), (38, .tuple #[.agg #[.int .i64 t445, .int .i64 t446], .bool false]), (47, .agg #[.int .i64 t445, .int .i64 t446]), (48, .bool false)]) (fun s_ w' => (w'.cell? ⟨gb436, 0, none⟩ = some (.int .i64 a0_0) ∧ w'.cell? ⟨gb436, 1, none⟩ = some (.int .i64 a0_1) ∧ w'.cell? (ad440.add ((ji23)).toNat) = some (.string (rdOf ByteArray.empty l1 (ji23)))) ∧ (Kd.R k32 32 w' w.heap.size (fun k_ => k_ ≠ s_) u6 x6_1) ∧ ((w'.heap[gb436]? = some (.cells #[.int .i64 a0_0, .int .i64 a0_1] 26 (0, 0))) ∧ (w'.heap[gm]? = some (.map es ck))) ∧ (w'.heap[s_]? = some (.cells #[.int .i64 0, .int .i64 0] 32 (0, 0))) ∧ (w.heap.size ≤ s_) ∧ (w.heap.size ≤ s_) ∧ ((gb436 ≠ s_) ∧ (gm ≠ s_)) ∧ (s_ ≠ gb436) ∧ (Below w.heap.size w w')) ?_ ?_
    rotate_left
    · intro hCont
      refine two_ (i := 7) (j := 11) (Ni := some 46) (Nj := some 10) (bs_ 14 255) (bs_ 14 2175) rfl rfl rfl rfl (two_of HT_.out (by kernel_rfl)) (by decide) (by decide) (fun K hK => ?_) (fun K hK => ?_)
      · skip
        refine goes_ Try.func45 (by kernel_rfl) rfl #[.agg #[.int .i64 a0_0, .int .i64 a0_1], .string (rdOf ByteArray.empty l1 (ji23)), .string (rdOf ByteArray.empty l1 x16_1)] (by rfl) rfl rfl (by (try simp only [m_1, m_2, m_3]); first | done | (simp only [hji23]; rfl) | rfl | (simp only [m_4, m_5]; rfl)) ?_
        with_reducible refine (impl_Lock_between.calls kj8 a0_0 a0_1 (rdOf ByteArray.empty l1 (ji23)) (rdOf ByteArray.empty l1 x16_1) t445 t446 false _ A26.out).mono ?_
        rintro e w39 ⟨rfl, hb⟩
        refine ⟨_, rfl, ?_⟩
        have n0_ := Aside0.mk (Kd.R_below (by (with_reducible repeat (first | apply r_a | apply r_d | apply r_e)); exact HO_6.out) hb)
        have n1_ := bbx hb BK436
        have m0_ := bbx hb BKM
        have n2_ := bsx hb HB
        clear HO_6
        clear BK436 BKM
        clear HB
        have HO_6 := n0_
        have BK436 := n1_
        have BKM := m0_
        have HB := n2_
        clear n0_ n1_ n2_
        (try clear hb)
        (try clear hb2)
        (try clear hk)
        (try clear hi)
        refine hK.out _ _ ⟨(blk_cell BK436.out 0).trans rfl, (blk_cell BK436.out 1).trans rfl, ((HB.out.cell (World.block_lt_of_cell? w _ hw444_0)).trans hw444_0)⟩ (fun hHeld => ?_)
        clear hK K
        refine norm_ (a' := ?_) ?_ ?_
        rotate_left
        · show Act.put _ (some 46) _ = _
          simp only [Act.put, s_1, s_2, s_3, i64_w, i32_w]
          rfl
        refine pua 8 38 (bs_ 14 511) HT_ ?_
        refine pua 9 47 (bs_ 14 1023) HT_ ?_
        refine pua 10 48 (bs_ 14 2047) HT_ ?_
        refine one_ (i := 11) (N := some 10) (bs_ 14 4095) rfl rfl (one_of HT_.out (by kernel_rfl)) (by decide) (fun K hK => ?_)
        refine box_step ?hg (N := 10) ?hd (cs := #[.int .i64 0, .int .i64 0]) (t := 32) ?hr ?_; (case hd => rfl); (case hg => rfl); (case hr => first | (go_simp; done) | (go_simp; rfl))
        intro gb448 hg w40 hbox hb
        have n0_ := Aside0.mk (Kd.R_below (Kd.R_elderB (by (with_reducible repeat (first | apply r_a | apply r_d | apply r_e)); exact HO_6.out) gb448 (Nat.le_of_eq hg.symm)) hb)
        have n1_ := bbx hb BK436
        have m0_ := bbx hb BKM
        have n2_ := bsx hb HB
        have n3_ := Aside0.mk (hbox)
        have n4_ := gwx hg HB
        have n5_ := gwx hg HB
        have n6_ := nlx hg BK436
        have m6_ := Aside0.mk ((by rw [hg]; exact Nat.ne_of_lt (blk_lt (g := gm) (o := .map es ck) (bK BKM)) : gm ≠ gb448))
        have n7_ := ngx hg BK436
        clear HO_6
        clear BK436 BKM
        clear HB
        have HO_6 := n0_
        have BK436 := n1_
        have BKM := m0_
        have HB := n2_
        have BK448 := n3_
        have GW448 := n4_
        have GE448 := n5_
        have NB436_448 := n6_
        have NBM_448 := m6_
        have NB448_436 := n7_
        clear n0_ n1_ n2_ n3_ n4_ n5_ n6_ n7_
        clear hb hbox hg
        refine hK.out _ _ ⟨(blk_cell BK436.out 0).trans rfl, (blk_cell BK436.out 1).trans rfl, ((HB.out.cell (World.block_lt_of_cell? w _ hw444_0)).trans hw444_0)⟩ (fun hHeld => ?_)
        clear hK K
        refine norm_ (a' := ?_) ?_ ?_
        rotate_left
        · show Act.put _ (some 10) _ = _
          simp only [Act.put, s_1, s_2, s_3, i64_w, i32_w]
          rfl
        exact norm_ (by simp only [putAll, Act.put, s_1, s_2, s_3]) (hCont (gb448) _ ⟨hHeld, (by (with_reducible repeat (first | apply r_a | apply r_d | apply r_e)); exact Kd.R_mono HO_6.out (fun _ hk => hk.2)), ⟨(bK BK436), (bK BKM)⟩, (bK BK448), GW448.out, GE448.out, ⟨NB436_448.out, NBM_448.out⟩, NB448_436.out, (bB HB)⟩)
      skip
      refine box_step ?hg (N := 10) ?hd (cs := #[.int .i64 0, .int .i64 0]) (t := 32) ?hr ?_; (case hd => rfl); (case hg => rfl); (case hr => first | (go_simp; done) | (go_simp; rfl))
      intro gb448 hg w39 hbox hb
      have n0_ := Aside0.mk (Kd.R_below (Kd.R_elderB (by (with_reducible repeat (first | apply r_a | apply r_d | apply r_e)); exact HO_6.out) gb448 (Nat.le_of_eq hg.symm)) hb)
      have n1_ := bbx hb BK436
      have m0_ := bbx hb BKM
      have n2_ := bsx hb HB
      have n3_ := Aside0.mk (hbox)
      have n4_ := gwx hg HB
      have n5_ := gwx hg HB
      have n6_ := nlx hg BK436
      have m6_ := Aside0.mk ((by rw [hg]; exact Nat.ne_of_lt (blk_lt (g := gm) (o := .map es ck) (bK BKM)) : gm ≠ gb448))
      have n7_ := ngx hg BK436
      clear HO_6
      clear BK436 BKM
      clear HB
      have HO_6 := n0_
      have BK436 := n1_
      have BKM := m0_
      have HB := n2_
      have BK448 := n3_
      have GW448 := n4_
      have GE448 := n5_
      have NB436_448 := n6_
      have NBM_448 := m6_
      have NB448_436 := n7_
      clear n0_ n1_ n2_ n3_ n4_ n5_ n6_ n7_
      clear hb hbox hg
      refine hK.out _ _ ⟨(blk_cell BK436.out 0).trans rfl, (blk_cell BK436.out 1).trans rfl, ((HB.out.cell (World.block_lt_of_cell? w _ hw444_0)).trans hw444_0)⟩ (fun hHeld => ?_)
      clear hK K
      refine norm_ (a' := ?_) ?_ ?_
      rotate_left
      · show Act.put _ (some 10) _ = _
        simp only [Act.put, s_1, s_2, s_3, i64_w, i32_w]
        rfl
      refine one_ (i := 7) (N := some 46) (bs_ 14 2303) rfl rfl (one_of HT_.out (by kernel_rfl)) (by decide) (fun K hK => ?_)
      refine goes_ Try.func45 (by kernel_rfl) rfl #[.agg #[.int .i64 a0_0, .int .i64 a0_1], .string (rdOf ByteArray.empty l1 (ji23)), .string (rdOf ByteArray.empty l1 x16_1)] (by rfl) rfl rfl (by (try simp only [m_1, m_2, m_3]); first | done | (simp only [hji23]; rfl) | rfl | (simp only [m_4, m_5]; rfl)) ?_
      with_reducible refine (impl_Lock_between.calls kj8 a0_0 a0_1 (rdOf ByteArray.empty l1 (ji23)) (rdOf ByteArray.empty l1 x16_1) t445 t446 false _ A26.out).mono ?_
      rintro e w40 ⟨rfl, hb⟩
      refine ⟨_, rfl, ?_⟩
      have n0_ := Aside0.mk (Kd.R_below (by (with_reducible repeat (first | apply r_a | apply r_d | apply r_e)); exact HO_6.out) hb)
      have n1_ := bbx hb BK436
      have m0_ := bbx hb BKM
      have n2_ := bbx hb BK448
      have n3_ := bsx hb HB
      clear HO_6
      clear BK436 BKM
      clear BK448
      clear HB
      have HO_6 := n0_
      have BK436 := n1_
      have BKM := m0_
      have BK448 := n2_
      have HB := n3_
      clear n0_ n1_ n2_ n3_
      (try clear hb)
      (try clear hb2)
      (try clear hk)
      (try clear hi)
      refine hK.out _ _ ⟨(blk_cell BK436.out 0).trans rfl, (blk_cell BK436.out 1).trans rfl, ((HB.out.cell (World.block_lt_of_cell? w _ hw444_0)).trans hw444_0)⟩ (fun hHeld => ?_)
      clear hK K
      refine norm_ (a' := ?_) ?_ ?_
      rotate_left
      · show Act.put _ (some 46) _ = _
        simp only [Act.put, s_1, s_2, s_3, i64_w, i32_w]
        rfl
      refine pua 8 38 (bs_ 14 2559) HT_ ?_
      refine pua 9 47 (bs_ 14 3071) HT_ ?_
      refine pua 10 48 (bs_ 14 4095) HT_ ?_
      exact norm_ (by simp only [putAll, Act.put, s_1, s_2, s_3]) (hCont (gb448) _ ⟨hHeld, (by (with_reducible repeat (first | apply r_a | apply r_d | apply r_e)); exact Kd.R_mono HO_6.out (fun _ hk => hk.2)), ⟨(bK BK436), (bK BKM)⟩, (bK BK448), GW448.out, GE448.out, ⟨NB436_448.out, NBM_448.out⟩, NB448_436.out, (bB HB)⟩)
    rintro gb448 w41 ⟨hS_, h0_, h1_, h2_, h3_, h4_, h5_, h6_, h7_⟩
    have n0_ : Aside0 (Kd.R k32 32 w41 w.heap.size (fun k_ => k_ ≠ gb448) u6 x6_1) := ⟨h0_⟩
    have n1_ : Aside0 (w41.heap[gb436]? = some (.cells #[.int .i64 a0_0, .int .i64 a0_1] 26 (0, 0))) := ⟨h1_.1⟩
    have m0_ : Aside0 (w41.heap[gm]? = some (.map es ck)) := ⟨h1_.2⟩
    have n2_ : Aside0 (w41.heap[gb448]? = some (.cells #[.int .i64 0, .int .i64 0] 32 (0, 0))) := ⟨h2_⟩
    have n3_ : Aside0 (w.heap.size ≤ gb448) := ⟨h3_⟩
    have n4_ : Aside0 (w.heap.size ≤ gb448) := ⟨h4_⟩
    have n5_ : Aside0 (gb436 ≠ gb448) := ⟨h5_.1⟩
    have m6_ : Aside0 (gm ≠ gb448) := ⟨h5_.2⟩
    have n6_ : Aside0 (gb448 ≠ gb436) := ⟨h6_⟩
    have n7_ : Aside0 (Below w.heap.size w w41) := ⟨h7_⟩
    clear HO_6
    clear BK436 BKM
    clear HB
    clear h0_ h1_ h2_ h3_ h4_ h5_ h6_ h7_
    have HO_6 := n0_
    have BK436 := n1_
    have BKM := m0_
    have BK448 := n2_
    have GW448 := n3_
    have GE448 := n4_
    have NB436_448 := n5_
    have NBM_448 := m6_
    have NB448_436 := n6_
    have HB := n7_
    clear n0_ n1_ n2_ n3_ n4_ n5_ n6_ n7_
    have hHeld : w41.cell? ⟨gb436, 0, none⟩ = some (.int .i64 a0_0) ∧ w41.cell? ⟨gb436, 1, none⟩ = some (.int .i64 a0_1) ∧ w41.cell? (ad440.add ((ji23)).toNat) = some (.string (rdOf ByteArray.empty l1 (ji23))) := hS_
    refine norm_ (a' := ?_) ?_ ?_
    rotate_left
    · simp only [putAll, Act.put, s_1, s_2, s_3]
      rfl
    refine one_ (i := 12) (N := none) (bs_ 14 8191) rfl rfl (one_of HT_.out (by kernel_rfl)) (by decide) (fun K hK => ?_)
    have hs42 : w41.cell? ⟨gb448, 0, none⟩ = some (.int .i64 0) := (blk_cell BK448.out 0).trans rfl
    have hfs42 := blk_frozen BK448.out 0
    have hns42_0 := NB436_448.out
    have hms42_0 := NB448_436.out
    have hs43 : w41.cell? ⟨gb448, 1, none⟩ = some (.int .i64 0) := (blk_cell BK448.out 1).trans rfl
    have hfs43 := blk_frozen BK448.out 1
    have hns43_0 := NB436_448.out
    have hms43_0 := NB448_436.out
    refine skip_ (w1 := ?_) (by rfl) rfl ?_ ?_
    rotate_left
    · go_simp
      rfl
    refine hK.out _ _ ⟨((cell_far (p := ⟨gb448, _, none⟩) NB436_448.out _).trans (((cell_far (p := ⟨gb448, _, none⟩) NB436_448.out _).trans (hHeld.1)))), ((cell_far (p := ⟨gb448, _, none⟩) NB436_448.out _).trans (((cell_far (p := ⟨gb448, _, none⟩) NB436_448.out _).trans (hHeld.2.1)))), ((cell_far (p := ⟨gb448, _, none⟩) (by first | exact Nat.ne_of_lt (Nat.lt_of_lt_of_le (by have := World.block_lt_of_cell? _ _ hw444_0; first | rwa [add_block] at this | exact this) GW448.out) | (rw [add_block]; exact Nat.ne_of_lt (Nat.lt_of_lt_of_le (by have := World.block_lt_of_cell? _ _ hw444_0; first | rwa [add_block] at this | exact this) GW448.out)) | (show (Addr.add _ _).block ≠ _; rw [add_block]; exact Nat.ne_of_lt (Nat.lt_of_lt_of_le (by have := World.block_lt_of_cell? _ _ hw444_0; first | rwa [add_block] at this | exact this) GW448.out)) | (dsimp only; exact Nat.ne_of_lt (Nat.lt_of_lt_of_le (by have := World.block_lt_of_cell? _ _ hw444_0; first | rwa [add_block] at this | exact this) GW448.out))) _).trans (((cell_far (p := ⟨gb448, _, none⟩) (by first | exact Nat.ne_of_lt (Nat.lt_of_lt_of_le (by have := World.block_lt_of_cell? _ _ hw444_0; first | rwa [add_block] at this | exact this) GW448.out) | (rw [add_block]; exact Nat.ne_of_lt (Nat.lt_of_lt_of_le (by have := World.block_lt_of_cell? _ _ hw444_0; first | rwa [add_block] at this | exact this) GW448.out)) | (show (Addr.add _ _).block ≠ _; rw [add_block]; exact Nat.ne_of_lt (Nat.lt_of_lt_of_le (by have := World.block_lt_of_cell? _ _ hw444_0; first | rwa [add_block] at this | exact this) GW448.out)) | (dsimp only; exact Nat.ne_of_lt (Nat.lt_of_lt_of_le (by have := World.block_lt_of_cell? _ _ hw444_0; first | rwa [add_block] at this | exact this) GW448.out))) _).trans (hHeld.2.2))))⟩ (fun hHeld => ?_)
    clear hK K
    refine pua 13 11 (bs_ 14 16383) HT_ ?_
    refine done_ (done_of HT_.out (by kernel_rfl)) ?_
    try go_wp2
    go_ret2
    exact ⟨_, by first | rfl | (simp [errW_none, errW_some] <;> rfl) | (simp only [← hji23]; first | rfl | (simp [errW_none, errW_some] <;> rfl)) | (simp [*, errW_none, errW_some] <;> rfl), by first | exact Kd.R_nil _ _ _ _ _ | exact Kd.N_nil _ _ _ _ _ | exact Kd.V_nil _ _ _ _ _ | exact Kd.Q_nil _ _ _ _ _ | exact Kd.S_nil _ _ _ _ _, bB HB⟩
  subst c27
  rw [if_pos rfl] at H
  by_cases c28 : x6_1.length < 8796093022208
  rotate_left
  · rw [if_neg c28] at H
    exact absurd H (by simp)
  rw [if_pos c28] at H
  have LMc28 := Aside0.mk c28
  clear c28
  obtain ⟨y449, hy449⟩ : ∃ y_ : List (S32), y_ = (x6_1 ++ [(⟨t445, t446⟩ : S32)]) := ⟨_, rfl⟩
  replace H : (impl_Lock_orderTurns.l0 kj8 l1 y449 t443 l1 (l1.length : Int) (wrap64 (x16_1 + 1)) a0_0 a0_1) = some (r1, r2) := by first | (rw [hy449]; with_reducible exact H) | (have H2_ := (Option.bind_some _ _).symm.trans H; rw [hy449]; with_reducible exact H2_) | (have H2_ := (Option.bind_some _ _).symm.trans H; with_reducible exact H2_) | with_reducible exact H | (rw [hy449]; exact H) | exact H
  have Ny449 := Aside0.mk hy449
  clear hy449
  have H' := Aside0.mk H
  clear H
  try go_wp2_with (first | (at_mapUpdate; refine impl_Lock_orderTurns.upd rfl _ _ _ rfl rfl rfl rfl BKM.out HMF.out A21.out ?_; intro wc es ck hbm hmf hgm; have n0_ := Aside0.mk (impl_Lock_orderTurns.R_map HO_6.out BKM.out hgm); have n1_ := Aside0.mk (blk_grown BK436.out hgm (fun q => by injection q with q; have h1_ := BK436.out; rw [q, BKM.out] at h1_; injection h1_ with h1_; cases h1_)); have n2_ := Aside0.mk (pw_below_grown HB.out (some gm) (below_size HB.out) hgm (fun k e => by injection e with e; rw [← e]; exact GM.out)); clear HO_6 BK436 BKM HB HMF; have HO_6 := n0_; have BK436 := n1_; have HB := n2_; have BKM := Aside0.mk hbm; have HMF := Aside0.mk hmf; clear n0_ n1_ n2_ hbm hmf hgm))
  have n0_ := Aside0.mk (r_e HO_6.out)
  have n1_ := Aside0.mk (g_e BK436.out)
  have m0_ := Aside0.mk (g_e BKM.out)
  have n2_ := Aside0.mk (b_e HB.out)
  clear HO_6
  clear BK436 BKM
  clear HB
  have HO_6 := n0_
  have BK436 := n1_
  have BKM := m0_
  have HB := n2_
  clear n0_ n1_ n2_
  have p444 : 0 ≤ ((ji23) : Int) := of_decide_eq_true (by first | (with_reducible assumption) | assumption)
  have q444 : (ji23) < (l1.length : Int) := of_decide_eq_true (by first | (with_reducible assumption) | assumption)
  obtain ⟨ad444, e444, hx444_0⟩ := Kd.at_string HR1.out (ji23) p444 q444
  have hw444_0 := hx444_0
  obtain rfl : ad440 = ad444 := (by injection e444)
  replace hx444_0 := (HB.out.cell (World.block_lt_of_cell? w _ hx444_0)).trans hx444_0
  replace p444 := eq_true p444
  replace q444 := eq_true q444
  refine start_ (n := 14) (S := fun w' => w'.cell? ⟨gb436, 0, none⟩ = some (.int .i64 a0_0) ∧ w'.cell? ⟨gb436, 1, none⟩ = some (.int .i64 a0_1) ∧ w'.cell? (ad440.add ((ji23)).toNat) = some (.string (rdOf ByteArray.empty l1 (ji23)))) (ds := []) (bs_ 14 0) (by kernel_rfl) rfl rfl ⟨(blk_cell BK436.out 0).trans rfl, (blk_cell BK436.out 1).trans rfl, ((HB.out.cell (World.block_lt_of_cell? w _ hw444_0)).trans hw444_0)⟩ (fun hHeld => ?_); refine with_tabW impl_Lock_orderTurns.tab9 impl_Lock_orderTurns.bits9 (fun HT_ HW_ => ?_)
  generalize wc.drew = w29 at HO_6 BK436 BKM HB hx444_0 hHeld ⊢
  refine pua 1 40 (bs_ 14 2) HT_ ?_
  refine pua 2 41 (bs_ 14 6) HT_ ?_
  refine pua 3 42 (bs_ 14 14) HT_ ?_
  refine pua 4 43 (bs_ 14 30) HT_ ?_
  refine pua 6 45 (bs_ 14 94) HT_ ?_
  refine tk_ 0 39 (bs_ 14 95) rfl rfl HT_ HW_ (by kernel_rfl) (fun _ _ _ h => h) (by rfl) hHeld (by rintro w' ⟨s0, s1, s2⟩; go_simp; with_reducible rfl) (by simp only [Act.put, s_1, s_2, s_3, i64_w, i32_w]; rfl) ?_
  refine tk_ 5 44 (bs_ 14 127) rfl rfl HT_ HW_ (by kernel_rfl) (fun _ _ _ h => h) (by rfl) hHeld (by rintro w' ⟨s0, s1, s2⟩; go_simp; with_reducible rfl) (by simp only [Act.put, s_1, s_2, s_3, i64_w, i32_w]; rfl) ?_
  refine join_ (σ := Nat) 2 (bs_ 14 4095) (fun s_ => [(46, .tuple #[.agg #[.int .i64 t445, .int .i64 t446], .bool true]), (10, .pointer (some ⟨s_, 0, none⟩)), (38, .tuple #[.agg #[.int .i64 t445, .int .i64 t446], .bool true]), (47, .agg #[.int .i64 t445, .int .i64 t446]), (48, .bool true)]) (fun s_ w' => (w'.cell? ⟨gb436, 0, none⟩ = some (.int .i64 a0_0) ∧ w'.cell? ⟨gb436, 1, none⟩ = some (.int .i64 a0_1) ∧ w'.cell? (ad440.add ((ji23)).toNat) = some (.string (rdOf ByteArray.empty l1 (ji23)))) ∧ (Kd.R k32 32 w' w.heap.size (fun k_ => k_ ≠ s_) u6 x6_1) ∧ ((w'.heap[gb436]? = some (.cells #[.int .i64 a0_0, .int .i64 a0_1] 26 (0, 0))) ∧ (w'.heap[gm]? = some (.map es ck))) ∧ (w'.heap[s_]? = some (.cells #[.int .i64 0, .int .i64 0] 32 (0, 0))) ∧ (w.heap.size ≤ s_) ∧ (w.heap.size ≤ s_) ∧ ((gb436 ≠ s_) ∧ (gm ≠ s_)) ∧ (s_ ≠ gb436) ∧ (Below w.heap.size w w')) ?_ ?_
  rotate_left
  · intro hCont
    refine two_ (i := 7) (j := 11) (Ni := some 46) (Nj := some 10) (bs_ 14 255) (bs_ 14 2175) rfl rfl rfl rfl (two_of HT_.out (by kernel_rfl)) (by decide) (by decide) (fun K hK => ?_) (fun K hK => ?_)
    · skip
      refine goes_ Try.func45 (by kernel_rfl) rfl #[.agg #[.int .i64 a0_0, .int .i64 a0_1], .string (rdOf ByteArray.empty l1 (ji23)), .string (rdOf ByteArray.empty l1 x16_1)] (by rfl) rfl rfl (by (try simp only [m_1, m_2, m_3]); first | done | (simp only [hji23]; rfl) | rfl | (simp only [m_4, m_5]; rfl)) ?_
      with_reducible refine (impl_Lock_between.calls kj8 a0_0 a0_1 (rdOf ByteArray.empty l1 (ji23)) (rdOf ByteArray.empty l1 x16_1) t445 t446 true _ A26.out).mono ?_
      rintro e w30 ⟨rfl, hb⟩
      refine ⟨_, rfl, ?_⟩
      have n0_ := Aside0.mk (Kd.R_below (by (with_reducible repeat (first | apply r_a | apply r_d | apply r_e)); exact HO_6.out) hb)
      have n1_ := bbx hb BK436
      have m0_ := bbx hb BKM
      have n2_ := bsx hb HB
      clear HO_6
      clear BK436 BKM
      clear HB
      have HO_6 := n0_
      have BK436 := n1_
      have BKM := m0_
      have HB := n2_
      clear n0_ n1_ n2_
      (try clear hb)
      (try clear hb2)
      (try clear hk)
      (try clear hi)
      refine hK.out _ _ ⟨(blk_cell BK436.out 0).trans rfl, (blk_cell BK436.out 1).trans rfl, ((HB.out.cell (World.block_lt_of_cell? w _ hw444_0)).trans hw444_0)⟩ (fun hHeld => ?_)
      clear hK K
      refine norm_ (a' := ?_) ?_ ?_
      rotate_left
      · show Act.put _ (some 46) _ = _
        simp only [Act.put, s_1, s_2, s_3, i64_w, i32_w]
        rfl
      refine pua 8 38 (bs_ 14 511) HT_ ?_
      refine pua 9 47 (bs_ 14 1023) HT_ ?_
      refine pua 10 48 (bs_ 14 2047) HT_ ?_
      refine one_ (i := 11) (N := some 10) (bs_ 14 4095) rfl rfl (one_of HT_.out (by kernel_rfl)) (by decide) (fun K hK => ?_)
      refine box_step ?hg (N := 10) ?hd (cs := #[.int .i64 0, .int .i64 0]) (t := 32) ?hr ?_; (case hd => rfl); (case hg => rfl); (case hr => first | (go_simp; done) | (go_simp; rfl))
      intro gb448 hg w31 hbox hb
      have n0_ := Aside0.mk (Kd.R_below (Kd.R_elderB (by (with_reducible repeat (first | apply r_a | apply r_d | apply r_e)); exact HO_6.out) gb448 (Nat.le_of_eq hg.symm)) hb)
      have n1_ := bbx hb BK436
      have m0_ := bbx hb BKM
      have n2_ := bsx hb HB
      have n3_ := Aside0.mk (hbox)
      have n4_ := gwx hg HB
      have n5_ := gwx hg HB
      have n6_ := nlx hg BK436
      have m6_ := Aside0.mk ((by rw [hg]; exact Nat.ne_of_lt (blk_lt (g := gm) (o := .map es ck) (bK BKM)) : gm ≠ gb448))
      have n7_ := ngx hg BK436
      clear HO_6
      clear BK436 BKM
      clear HB
      have HO_6 := n0_
      have BK436 := n1_
      have BKM := m0_
      have HB := n2_
      have BK448 := n3_
      have GW448 := n4_
      have GE448 := n5_
      have NB436_448 := n6_
      have NBM_448 := m6_
      have NB448_436 := n7_
      clear n0_ n1_ n2_ n3_ n4_ n5_ n6_ n7_
      clear hb hbox hg
      refine hK.out _ _ ⟨(blk_cell BK436.out 0).trans rfl, (blk_cell BK436.out 1).trans rfl, ((HB.out.cell (World.block_lt_of_cell? w _ hw444_0)).trans hw444_0)⟩ (fun hHeld => ?_)
      clear hK K
      refine norm_ (a' := ?_) ?_ ?_
      rotate_left
      · show Act.put _ (some 10) _ = _
        simp only [Act.put, s_1, s_2, s_3, i64_w, i32_w]
        rfl
      exact norm_ (by simp only [putAll, Act.put, s_1, s_2, s_3]) (hCont (gb448) _ ⟨hHeld, (by (with_reducible repeat (first | apply r_a | apply r_d | apply r_e)); exact Kd.R_mono HO_6.out (fun _ hk => hk.2)), ⟨(bK BK436), (bK BKM)⟩, (bK BK448), GW448.out, GE448.out, ⟨NB436_448.out, NBM_448.out⟩, NB448_436.out, (bB HB)⟩)
    skip
    refine box_step ?hg (N := 10) ?hd (cs := #[.int .i64 0, .int .i64 0]) (t := 32) ?hr ?_; (case hd => rfl); (case hg => rfl); (case hr => first | (go_simp; done) | (go_simp; rfl))
    intro gb448 hg w30 hbox hb
    have n0_ := Aside0.mk (Kd.R_below (Kd.R_elderB (by (with_reducible repeat (first | apply r_a | apply r_d | apply r_e)); exact HO_6.out) gb448 (Nat.le_of_eq hg.symm)) hb)
    have n1_ := bbx hb BK436
    have m0_ := bbx hb BKM
    have n2_ := bsx hb HB
    have n3_ := Aside0.mk (hbox)
    have n4_ := gwx hg HB
    have n5_ := gwx hg HB
    have n6_ := nlx hg BK436
    have m6_ := Aside0.mk ((by rw [hg]; exact Nat.ne_of_lt (blk_lt (g := gm) (o := .map es ck) (bK BKM)) : gm ≠ gb448))
    have n7_ := ngx hg BK436
    clear HO_6
    clear BK436 BKM
    clear HB
    have HO_6 := n0_
    have BK436 := n1_
    have BKM := m0_
    have HB := n2_
    have BK448 := n3_
    have GW448 := n4_
    have GE448 := n5_
    have NB436_448 := n6_
    have NBM_448 := m6_
    have NB448_436 := n7_
    clear n0_ n1_ n2_ n3_ n4_ n5_ n6_ n7_
    clear hb hbox hg
    refine hK.out _ _ ⟨(blk_cell BK436.out 0).trans rfl, (blk_cell BK436.out 1).trans rfl, ((HB.out.cell (World.block_lt_of_cell? w _ hw444_0)).trans hw444_0)⟩ (fun hHeld => ?_)
    clear hK K
    refine norm_ (a' := ?_) ?_ ?_
    rotate_left
    · show Act.put _ (some 10) _ = _
      simp only [Act.put, s_1, s_2, s_3, i64_w, i32_w]
      rfl
    refine one_ (i := 7) (N := some 46) (bs_ 14 2303) rfl rfl (one_of HT_.out (by kernel_rfl)) (by decide) (fun K hK => ?_)
    refine goes_ Try.func45 (by kernel_rfl) rfl #[.agg #[.int .i64 a0_0, .int .i64 a0_1], .string (rdOf ByteArray.empty l1 (ji23)), .string (rdOf ByteArray.empty l1 x16_1)] (by rfl) rfl rfl (by (try simp only [m_1, m_2, m_3]); first | done | (simp only [hji23]; rfl) | rfl | (simp only [m_4, m_5]; rfl)) ?_
    with_reducible refine (impl_Lock_between.calls kj8 a0_0 a0_1 (rdOf ByteArray.empty l1 (ji23)) (rdOf ByteArray.empty l1 x16_1) t445 t446 true _ A26.out).mono ?_
    rintro e w31 ⟨rfl, hb⟩
    refine ⟨_, rfl, ?_⟩
    have n0_ := Aside0.mk (Kd.R_below (by (with_reducible repeat (first | apply r_a | apply r_d | apply r_e)); exact HO_6.out) hb)
    have n1_ := bbx hb BK436
    have m0_ := bbx hb BKM
    have n2_ := bbx hb BK448
    have n3_ := bsx hb HB
    clear HO_6
    clear BK436 BKM
    clear BK448
    clear HB
    have HO_6 := n0_
    have BK436 := n1_
    have BKM := m0_
    have BK448 := n2_
    have HB := n3_
    clear n0_ n1_ n2_ n3_
    (try clear hb)
    (try clear hb2)
    (try clear hk)
    (try clear hi)
    refine hK.out _ _ ⟨(blk_cell BK436.out 0).trans rfl, (blk_cell BK436.out 1).trans rfl, ((HB.out.cell (World.block_lt_of_cell? w _ hw444_0)).trans hw444_0)⟩ (fun hHeld => ?_)
    clear hK K
    refine norm_ (a' := ?_) ?_ ?_
    rotate_left
    · show Act.put _ (some 46) _ = _
      simp only [Act.put, s_1, s_2, s_3, i64_w, i32_w]
      rfl
    refine pua 8 38 (bs_ 14 2559) HT_ ?_
    refine pua 9 47 (bs_ 14 3071) HT_ ?_
    refine pua 10 48 (bs_ 14 4095) HT_ ?_
    exact norm_ (by simp only [putAll, Act.put, s_1, s_2, s_3]) (hCont (gb448) _ ⟨hHeld, (by (with_reducible repeat (first | apply r_a | apply r_d | apply r_e)); exact Kd.R_mono HO_6.out (fun _ hk => hk.2)), ⟨(bK BK436), (bK BKM)⟩, (bK BK448), GW448.out, GE448.out, ⟨NB436_448.out, NBM_448.out⟩, NB448_436.out, (bB HB)⟩)
  rintro gb448 w32 ⟨hS_, h0_, h1_, h2_, h3_, h4_, h5_, h6_, h7_⟩
  have n0_ : Aside0 (Kd.R k32 32 w32 w.heap.size (fun k_ => k_ ≠ gb448) u6 x6_1) := ⟨h0_⟩
  have n1_ : Aside0 (w32.heap[gb436]? = some (.cells #[.int .i64 a0_0, .int .i64 a0_1] 26 (0, 0))) := ⟨h1_.1⟩
  have m0_ : Aside0 (w32.heap[gm]? = some (.map es ck)) := ⟨h1_.2⟩
  have n2_ : Aside0 (w32.heap[gb448]? = some (.cells #[.int .i64 0, .int .i64 0] 32 (0, 0))) := ⟨h2_⟩
  have n3_ : Aside0 (w.heap.size ≤ gb448) := ⟨h3_⟩
  have n4_ : Aside0 (w.heap.size ≤ gb448) := ⟨h4_⟩
  have n5_ : Aside0 (gb436 ≠ gb448) := ⟨h5_.1⟩
  have m6_ : Aside0 (gm ≠ gb448) := ⟨h5_.2⟩
  have n6_ : Aside0 (gb448 ≠ gb436) := ⟨h6_⟩
  have n7_ : Aside0 (Below w.heap.size w w32) := ⟨h7_⟩
  clear HO_6
  clear BK436 BKM
  clear HB
  clear h0_ h1_ h2_ h3_ h4_ h5_ h6_ h7_
  have HO_6 := n0_
  have BK436 := n1_
  have BKM := m0_
  have BK448 := n2_
  have GW448 := n3_
  have GE448 := n4_
  have NB436_448 := n5_
  have NBM_448 := m6_
  have NB448_436 := n6_
  have HB := n7_
  clear n0_ n1_ n2_ n3_ n4_ n5_ n6_ n7_
  have hHeld : w32.cell? ⟨gb436, 0, none⟩ = some (.int .i64 a0_0) ∧ w32.cell? ⟨gb436, 1, none⟩ = some (.int .i64 a0_1) ∧ w32.cell? (ad440.add ((ji23)).toNat) = some (.string (rdOf ByteArray.empty l1 (ji23))) := hS_
  refine norm_ (a' := ?_) ?_ ?_
  rotate_left
  · simp only [putAll, Act.put, s_1, s_2, s_3]
    rfl
  refine one_ (i := 12) (N := none) (bs_ 14 8191) rfl rfl (one_of HT_.out (by kernel_rfl)) (by decide) (fun K hK => ?_)
  have hs33 : w32.cell? ⟨gb448, 0, none⟩ = some (.int .i64 0) := (blk_cell BK448.out 0).trans rfl
  have hfs33 := blk_frozen BK448.out 0
  have hns33_0 := NB436_448.out
  have hms33_0 := NB448_436.out
  have hs34 : w32.cell? ⟨gb448, 1, none⟩ = some (.int .i64 0) := (blk_cell BK448.out 1).trans rfl
  have hfs34 := blk_frozen BK448.out 1
  have hns34_0 := NB436_448.out
  have hms34_0 := NB448_436.out
  refine skip_ (w1 := ?_) (by rfl) rfl ?_ ?_
  rotate_left
  · go_simp
    rfl
  refine hK.out _ _ ⟨((cell_far (p := ⟨gb448, _, none⟩) NB436_448.out _).trans (((cell_far (p := ⟨gb448, _, none⟩) NB436_448.out _).trans (hHeld.1)))), ((cell_far (p := ⟨gb448, _, none⟩) NB436_448.out _).trans (((cell_far (p := ⟨gb448, _, none⟩) NB436_448.out _).trans (hHeld.2.1)))), ((cell_far (p := ⟨gb448, _, none⟩) (by first | exact Nat.ne_of_lt (Nat.lt_of_lt_of_le (by have := World.block_lt_of_cell? _ _ hw444_0; first | rwa [add_block] at this | exact this) GW448.out) | (rw [add_block]; exact Nat.ne_of_lt (Nat.lt_of_lt_of_le (by have := World.block_lt_of_cell? _ _ hw444_0; first | rwa [add_block] at this | exact this) GW448.out)) | (show (Addr.add _ _).block ≠ _; rw [add_block]; exact Nat.ne_of_lt (Nat.lt_of_lt_of_le (by have := World.block_lt_of_cell? _ _ hw444_0; first | rwa [add_block] at this | exact this) GW448.out)) | (dsimp only; exact Nat.ne_of_lt (Nat.lt_of_lt_of_le (by have := World.block_lt_of_cell? _ _ hw444_0; first | rwa [add_block] at this | exact this) GW448.out))) _).trans (((cell_far (p := ⟨gb448, _, none⟩) (by first | exact Nat.ne_of_lt (Nat.lt_of_lt_of_le (by have := World.block_lt_of_cell? _ _ hw444_0; first | rwa [add_block] at this | exact this) GW448.out) | (rw [add_block]; exact Nat.ne_of_lt (Nat.lt_of_lt_of_le (by have := World.block_lt_of_cell? _ _ hw444_0; first | rwa [add_block] at this | exact this) GW448.out)) | (show (Addr.add _ _).block ≠ _; rw [add_block]; exact Nat.ne_of_lt (Nat.lt_of_lt_of_le (by have := World.block_lt_of_cell? _ _ hw444_0; first | rwa [add_block] at this | exact this) GW448.out)) | (dsimp only; exact Nat.ne_of_lt (Nat.lt_of_lt_of_le (by have := World.block_lt_of_cell? _ _ hw444_0; first | rwa [add_block] at this | exact this) GW448.out))) _).trans (hHeld.2.2))))⟩ (fun hHeld => ?_)
  clear hK K
  refine pua 13 11 (bs_ 14 16383) HT_ ?_
  refine done_ (done_of HT_.out (by kernel_rfl)) ?_
  have hnb35 := NB448_436.out
  have hnc35 := NB436_448.out
  have hcz36_0 : w32.cell? ⟨gb448, 0, none⟩ = some (.int .i64 0) := (blk_cell BK448.out 0).trans rfl
  have hcz36_1 : w32.cell? ⟨gb448, 1, none⟩ = some (.int .i64 0) := (blk_cell BK448.out 1).trans rfl
  have hfz36_0 := blk_frozen BK448.out 0
  have hfz36_1 := blk_frozen BK448.out 1
  try go_wp2_with (first | ((with_reducible refine gate_builtin (b := .append) (xs := #[.tmp 51, .tmp 53]) rfl ?_); at_builtin; refine Kd.R_append k32 (w0 := w) w.heap.size rfl (.tmp 51) (.tmp 53) 70 32 (.agg #[(.int .i64 0), (.int .i64 0)]) 16 rfl Try.underlying70 info32 rfl (by decide) (by omega) u6 x6_1 (⟨t445, t446⟩ : S32) [.int .i64 t445, .int .i64 t446] (fun k_ => k_ ≠ gb448) (fun _ => False) rfl (by first | (go_simp; done) | (go_simp; rfl)) ?aP (fun _ hk => hk.elim) ?aF ?aO ?aB ?aS ?aL ?_; (case aP => exact k32_mkM _ _ _ (⟨t445, t446⟩ : S32)); (case aB => exact (bB HB)); (case aF => exact (fun k_ hk => Kd.freshB (g := gb448) (o := .cells #[.int .i64 t445, .int .i64 t446] 32 (0, 0)) (by (with_reducible repeat (first | refine g_d ?_ _ | refine g_e ?_ | refine g_a ?_ _)); refine blk_put (cs := #[.int .i64 t445, .int .i64 0]) ?_ 1 _ rfl; (with_reducible repeat (first | refine g_d ?_ _ | refine g_e ?_ | refine g_a ?_ _)); refine blk_put (cs := #[.int .i64 0, .int .i64 0]) ?_ 0 _ rfl; (with_reducible repeat (first | refine g_d ?_ _ | refine g_e ?_ | refine g_a ?_ _)); exact BK448.out) k_ hk)); (case aO => exact (by (with_reducible repeat (first | apply r_a | apply r_d | apply r_e)); exact Kd.R_mono (Kd.R_far (p := ⟨gb448, 1, none⟩) (Kd.R_far (p := ⟨gb448, 0, none⟩) (Kd.R_mono HO_6.out (fun k_ hk => (⟨hk, hk⟩ : _ ∧ k_ ≠ gb448))) (fun _ hk => hk.2) (.int .i64 t445)) (fun _ hk => hk.2) (.int .i64 t446)) (fun _ hk => hk.1))); (case aS => exact (below_size (bB HB))); (case aL => have := LMc28.out; omega); intro v450 w37 ho hb hg hat; rw [← Ny449.out] at ho; have n0_ := Aside0.mk (blk_grown (g := gb436) (o := .cells #[.int .i64 a0_0, .int .i64 a0_1] 26 (0, 0)) (bF) hg (Kd.R_ne HO_6.out BK436.out (by decide))); have m0_ := Aside0.mk (blk_grown (g := gm) (o := .map es ck) (by (with_reducible repeat (first | refine g_d ?_ _ | refine g_e ?_ | refine g_a ?_ _)); refine impl_Lock_orderTurns.far ?_ NBM_448.out _; (with_reducible repeat (first | refine g_d ?_ _ | refine g_e ?_ | refine g_a ?_ _)); refine impl_Lock_orderTurns.far ?_ NBM_448.out _; (with_reducible repeat (first | refine g_d ?_ _ | refine g_e ?_ | refine g_a ?_ _)); exact BKM.out) hg (impl_Lock_orderTurns.R_nem HO_6.out BKM.out)); have n1_ := Aside0.mk (blk_grown (g := gb448) (o := .cells #[.int .i64 t445, .int .i64 t446] 32 (0, 0)) (by (with_reducible repeat (first | refine g_d ?_ _ | refine g_e ?_ | refine g_a ?_ _)); refine blk_put (cs := #[.int .i64 t445, .int .i64 0]) ?_ 1 _ rfl; (with_reducible repeat (first | refine g_d ?_ _ | refine g_e ?_ | refine g_a ?_ _)); refine blk_put (cs := #[.int .i64 0, .int .i64 0]) ?_ 0 _ rfl; (with_reducible repeat (first | refine g_d ?_ _ | refine g_e ?_ | refine g_a ?_ _)); exact BK448.out) hg (Kd.R_away HO_6.out (fun _ hk => hk))); have n2_ := Aside0.mk (hb); have n3_ := Aside0.mk (ho); clear BK436 BKM; clear BK448; clear HB; clear HO_6; have BK436 := n0_; have BKM := m0_; have BK448 := n1_; have HB := n2_; have HO451 := n3_; clear n0_ n1_ n2_ n3_; clear ho hb hg hat))
  go_roundg kj8
  case measure => have := HK1.out; have := HJ8.out; omega
  case rel => refine ⟨(y449), t443, es, ck, (wrap64 (x16_1 + 1)), HMF, (by first | rfl | (simp; done) | (simp [*]; done)), H', ⟨by have := HK1.out; have := HJ8.out; omega⟩, ⟨by (with_reducible repeat (first | apply r_a | apply r_d | apply r_e)); exact Kd.R_mono HO451.out (fun _ hk => trivial)⟩, ⟨?_⟩, ⟨?_⟩, ⟨bB HB⟩⟩ <;> (with_reducible repeat (first | refine g_d ?_ _ | refine g_e ?_ | refine g_a ?_ _)) <;> first | exact BK436.out | exact BKM.out
/-! ### impl_IsTurnOrder: function 29 -/
def impl_IsTurnOrder.f (k : Nat) (a0_0 : Int) (a0_1 : Int) (l1 : List ByteArray) : Option (Bool × Bool) := (impl_IsLock.f a0_0 a0_1).bind fun t453 => (if t453 = true then ((impl_Lock_orderTurns.f k a0_0 a0_1 l1).bind fun bt454 => (some (bt454.2, true))) else (some (false, false)))
theorem impl_IsTurnOrder.mono : ∀ a0 a1 a2 k, LeO (impl_IsTurnOrder.f k a0 a1 a2) (impl_IsTurnOrder.f (k + 1) a0 a1 a2) := by
  intro a0 a1 a2 k
  unfold impl_IsTurnOrder.f
  repeat' first
      | (with_reducible exact impl_Lock_orderTurns.mono _ _ _ _)
      | (with_reducible exact LeO.refl _)
      | (with_reducible exact LeO.none _)
      | (with_reducible refine LeO.ite ?_ ?_)
      | (with_reducible refine LeO.bind ?_ (fun _ => ?_))
      | exact impl_Lock_orderTurns.mono _ _ _ _
      | exact LeO.none _
      | refine LeO.ite ?_ ?_
      | refine LeO.bind ?_ (fun _ => ?_)
set_option maxHeartbeats 8000000 in
set_option maxRecDepth 100000 in
theorem impl_IsTurnOrder.calls (k : Nat) (a0_0 : Int) (a0_1 : Int) (A1 : Option Addr) (c1 : Nat) (l1 : List ByteArray) (r1 : Bool) (r2 : Bool) (w : World) (hr1 : Kd.C Kd.string w A1 l1.length l1) (hc1 : l1.length ≤ c1) (h : impl_IsTurnOrder.f k a0_0 a0_1 l1 = some (r1, r2)) :
    Calls Try.prog 29 #[.agg #[.int .i64 a0_0, .int .i64 a0_1], .slice A1 l1.length c1] w fun e w' => e = .returned (.tuple #[.bool r1, .bool r2]) ∧ Below w.heap.size w w' := by
  have hu26 := Try.underlying26
  have HR1 := Aside0.mk hr1
  have HC1 := Aside0.mk hc1
  clear hr1 hc1
  have HB := Aside0.mk (Below.refl w.heap.size w)
  have H : ((impl_IsLock.f a0_0 a0_1).bind fun t453 => (if t453 = true then ((impl_Lock_orderTurns.f k a0_0 a0_1 l1).bind fun bt454 => (some (bt454.2, true))) else (some (false, false)))) = some (r1, r2) := h
  clear h
  replace H := Option.bind_eq_some_iff.mp H
  obtain ⟨t453, A30, H⟩ := H
  try dsimp only at H
  have A3 := Aside0.mk A30
  clear A30
  by_cases c4 : t453 = true
  rotate_left
  · replace c4 := Bool.eq_false_iff.mpr c4
    subst c4
    rw [if_neg (show ¬ (false = true) by decide)] at H
    simp only [Option.some.injEq, Prod.mk.injEq] at H
    obtain ⟨rfl, rfl⟩ := H
    go_enter Try.func29, Try.ntmps29
    go_wp2_with (first | ((with_reducible refine gate_dst (N := 2) rfl ?_); refine box_event ?hg (N := 2) ?hd (cs := #[.int .i64 a0_0, .int .i64 a0_1]) (t := 26) ?hr ?_; (case hd => rfl); (case hg => rfl); (case hr => first | (go_simp; done) | (go_simp; rfl)); intro gb452 hg w11 hbox hb; have n0_ := bsx hb HB; have n1_ := Aside0.mk (hbox); have n2_ := gwx hg HB; have n3_ := n2_; clear HB; have HB := n0_; have BK452 := n1_; have GW452 := n2_; have GE452 := n3_; clear n0_ n1_ n2_ n3_; clear hb hbox hg; have hcz12_0 := cz0 BK452; have hcz12_1 := cz1 BK452; have hfz12_0 := blk_frozen BK452.out 0; have hfz12_1 := blk_frozen BK452.out 1) | ((with_reducible refine gate_callee (f := 49) rfl ?_); refine goesL_ (some 9) rfl rfl Try.func49 (by kernel_rfl) rfl #[.agg #[.int .i64 a0_0, .int .i64 a0_1]] rfl (by (try simp only [m_1, m_2, m_3]); first | done | rfl | (simp only [m_4, m_5]; rfl)) ?_; (with_reducible refine (impl_IsLock.calls a0_0 a0_1 false _ A3.out).mono ?_); rintro e w13 ⟨rfl, hb⟩; refine ⟨_, rfl, ?_⟩; replace BK452 := bbx hb BK452; replace HB := bsx hb HB; skip; (try clear hb); (try clear hb2); (try clear hk); (try clear hi)))
    go_ret2
    exact ⟨by first | rfl | (simp [errW_none, errW_some] <;> rfl) | (simp [*, errW_none, errW_some] <;> rfl), bB HB⟩

  subst c4
  rw [if_pos rfl] at H
  replace H := Option.bind_eq_some_iff.mp H
  obtain ⟨⟨t454, t457⟩, A50, H⟩ := H
  try dsimp only at H
  have A5 := Aside0.mk A50
  clear A50
  simp only [Option.some.injEq, Prod.mk.injEq] at H
  obtain ⟨rfl, rfl⟩ := H
  go_enter Try.func29, Try.ntmps29
  go_wp2_with (first | ((with_reducible refine gate_dst (N := 2) rfl ?_); refine box_event ?hg (N := 2) ?hd (cs := #[.int .i64 a0_0, .int .i64 a0_1]) (t := 26) ?hr ?_; (case hd => rfl); (case hg => rfl); (case hr => first | (go_simp; done) | (go_simp; rfl)); intro gb452 hg w6 hbox hb; have n0_ := bsx hb HB; have n1_ := Aside0.mk (hbox); have n2_ := gwx hg HB; have n3_ := n2_; clear HB; have HB := n0_; have BK452 := n1_; have GW452 := n2_; have GE452 := n3_; clear n0_ n1_ n2_ n3_; clear hb hbox hg; have hcz7_0 := cz0 BK452; have hcz7_1 := cz1 BK452; have hfz7_0 := blk_frozen BK452.out 0; have hfz7_1 := blk_frozen BK452.out 1) | ((with_reducible refine gate_callee (f := 49) rfl ?_); refine goesL_ (some 9) rfl rfl Try.func49 (by kernel_rfl) rfl #[.agg #[.int .i64 a0_0, .int .i64 a0_1]] rfl (by (try simp only [m_1, m_2, m_3]); first | done | rfl | (simp only [m_4, m_5]; rfl)) ?_; (with_reducible refine (impl_IsLock.calls a0_0 a0_1 true _ A3.out).mono ?_); rintro e w8 ⟨rfl, hb⟩; refine ⟨_, rfl, ?_⟩; replace BK452 := bbx hb BK452; replace HB := bsx hb HB; skip; (try clear hb); (try clear hb2); (try clear hk); (try clear hi); have hcz9_0 := cz0 BK452; have hcz9_1 := cz1 BK452; have hfz9_0 := blk_frozen BK452.out 0; have hfz9_1 := blk_frozen BK452.out 1) | ((with_reducible refine gate_callee (f := 56) rfl ?_); refine goesL_ (some 14) rfl rfl Try.func56 (by kernel_rfl) rfl #[.agg #[.int .i64 a0_0, .int .i64 a0_1], .slice A1 l1.length c1] rfl (by (try simp only [m_1, m_2, m_3]); first | done | rfl | (simp only [m_4, m_5]; rfl)) ?_; (with_reducible refine (impl_Lock_orderTurns.calls k a0_0 a0_1 _ _ l1 t454 t457 _ ?side1 ?side2 A5.out).mono ?_); (case side1 => repeat (first | exact (Kd.C_below HR1.out HB.out) | (with_reducible refine Kd.C_alloc ?_ _) | (with_reducible refine Kd.C_drewN ?_ _) | (with_reducible refine Kd.C_drew ?_))); (case side2 => exact HC1.out); rintro e w10 ⟨v455, rfl, ho0, hb⟩; refine ⟨_, rfl, ?_⟩; have n0_ := Aside0.mk (Kd.R_lower ho0 (below_size (bB HB))); replace BK452 := bbx hb BK452; have n2_ := bsx hb HB; clear HB; have HO456 := n0_; have HB := n2_; clear n0_ n2_; (try clear hb); (try clear hb2); (try clear hk); (try clear hi); (try clear ho0)))
  go_ret2
  exact ⟨by first | rfl | (simp [errW_none, errW_some] <;> rfl) | (simp [*, errW_none, errW_some] <;> rfl), bB HB⟩
end Go.Proofs.Ytijbngmlaggclaa.P
