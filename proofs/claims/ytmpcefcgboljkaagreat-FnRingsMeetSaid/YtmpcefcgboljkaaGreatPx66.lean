-- Texts of this session's own program (wip/dr.py), which runs the kit's printer.
import Derived.Test.YtmpcefcgboljkaaGreatPx0
import Derived.Test.YtmpcefcgboljkaaGreatPx1
import Derived.Test.YtmpcefcgboljkaaGreatPx22
namespace Go.Proofs.YtmpcefcgboljkaaGreat.P
open Go.RowKit Go.Proofs.YtmpcefcgboljkaaGreatW.PrintWords Go.Proofs.YtmpcefcgboljkaaGreatW.PrintLast Go.Proofs.YtmpcefcgboljkaaGreatW.PrintMore
attribute [local go_sem] max2_int min2_int max_two min_two max_three min_three max_four min_four   -- for this text's walks alone
set_option linter.unusedVariables false
set_option linter.unusedSimpArgs false

/-! ### impl_sorted: function 67 (a text of our own) -/
/-- Texts as lists of bytes, in order, each once. -/
def impl_sorted.bs (l : List ByteArray) : List (List UInt8) := (l.map fun s => s.data.toList).mergeSort fun x y => decide (x ≤ y)
def impl_sorted.val (l : List ByteArray) : List ByteArray := (Lib.compact (impl_sorted.bs l)).map fun b => ⟨b.toArray⟩
def impl_sorted.f (l0 : List ByteArray) : Option (List ByteArray) := if l0.length ≤ 1000000000 then some (impl_sorted.val l0) else none
theorem impl_sorted.enc (l : List ByteArray) : l.map Value.string = (l.map fun s => s.data.toList).map encStr := by
  rw [List.map_map]
  refine List.map_congr_left fun s _ => ?_
  show Value.string s = Value.string ⟨s.data.toList.toArray⟩
  rw [Array.toArray_toList]
theorem impl_sorted.compact_le (zs : List (List UInt8)) : (Lib.compact zs).length ≤ zs.length := by
  unfold Lib.compact Lib.compactUpTo
  rw [List.length_map]
  exact Nat.le_trans (List.length_filter_le _ _) (by simp)
theorem impl_sorted.take_less {cur : Array Value} {m : Nat} {ts us : List (List UInt8)} (h : ts.length + us.length ≤ cur.size) (hm : m = ts.length) : (Go.Sort.putCells encStr 0 (ts ++ us).toArray cur).toList.take (m * 1) = ts.map encStr := by
  have h1 := take_putCells cur (ts ++ us) (by rw [List.length_append]; exact h)
  have h2 := congrArg (List.take m) h1
  rw [List.take_take, List.length_append, Nat.min_eq_left (by omega), List.map_append, List.take_left' (by rw [List.length_map]; exact hm.symm)] at h2
  rw [Nat.mul_one]
  exact h2
/-- What the row is behind both calls. -/
theorem impl_sorted.last {P0_ : Nat → Prop} {w0 w : World} {g cap : Nat} {cur : Array Value} {l : List ByteArray} {n q : Nat} {os : Array Obj} (hB : Below w0.heap.size w0 w) (hle : w0.heap.size ≤ g) (hP : P0_ g)
    (hb : w.heap[g]? = some (.cells cur 9 (0, 0))) (hlen : l.length ≤ cap) (hmax : cap ≤ maxLen) (hsz : cur.size = cap * 1) :
    let w1 := Go.Sort.grow (Go.Sort.putRow encStr (Go.Sort.ahead w n) g 0 (impl_sorted.bs l).toArray) os
    let w2 := Go.Sort.putRow encStr (Go.Sort.ahead w1 q) g 0 (Lib.compact (impl_sorted.bs l) ++ List.replicate ((impl_sorted.bs l).length - (Lib.compact (impl_sorted.bs l)).length) []).toArray
    Kd.R Kd.string 9 w2 w0.heap.size (fun k_ => (P0_ k_ ∨ w.heap.size ≤ k_)) (.slice (some ⟨g, 0, none⟩) (Lib.compact (impl_sorted.bs l)).length cap) (impl_sorted.val l) ∧ Below w0.heap.size w0 w2 ∧ Kept w w2 (fun k_ => P0_ k_) := by
  intro w1 w2
  have hbl : (impl_sorted.bs l).length = l.length := by unfold impl_sorted.bs; rw [List.length_mergeSort, List.length_map]
  have hcl := impl_sorted.compact_le (impl_sorted.bs l)
  have e2 : w2 = Go.Sort.grow w2 #[] := by simp
  have g1 : w.grownBy w1 (some g) := grownBy_sorted _
  have g2 : w1.grownBy w2 (some g) := by rw [e2]; exact grownBy_sorted _
  have h1 : w1.heap[g]? = some (.cells (Go.Sort.putCells encStr 0 (impl_sorted.bs l).toArray cur) 9 (0, 0)) := heap_sorted _ hb
  have h2 : w2.heap[g]? = some (.cells (Go.Sort.putCells encStr 0 (Lib.compact (impl_sorted.bs l) ++ List.replicate ((impl_sorted.bs l).length - (Lib.compact (impl_sorted.bs l)).length) []).toArray (Go.Sort.putCells encStr 0 (impl_sorted.bs l).toArray cur)) 9 (0, 0)) := by rw [e2]; exact heap_sorted _ h1
  refine ⟨?_, ?_, ?_⟩
  · refine Kd.R_of_own (enc := Value.string) ?_ (fun k hk => .inl (by have e_ : some g = some k := hk; cases e_; exact hP))
    have el : (impl_sorted.val l).length = (Lib.compact (impl_sorted.bs l)).length := by unfold impl_sorted.val; rw [List.length_map]
    rw [el]
    have ee : encs Value.string (impl_sorted.val l) = (Lib.compact (impl_sorted.bs l)).map encStr := by unfold encs impl_sorted.val; rw [List.map_map]; rfl
    rw [ee]
    refine ⟨by simp, .inr ⟨g, cap, _, rfl, hle, h2, by omega, hmax, by simp [Go.Sort.putCells, hsz], ?_⟩⟩
    exact impl_sorted.take_less (by simp [Go.Sort.putCells, hsz]; omega) rfl
  · exact (hB.grown g1 hB.size (fun k e => by cases e; exact hle)).grown g2 (hB.grown g1 hB.size (fun k e => by cases e; exact hle)).size (fun k e => by cases e; exact hle)
  · exact Kept.of_grown g2 (Kept.of_grown g1 (Kept.refl w _) (fun k e => by cases e; exact .inl hP)) (fun k e => by cases e; exact .inl hP)
set_option maxHeartbeats 1000000 in
set_option maxRecDepth 100000 in
theorem impl_sorted.calls (P0_ : Nat → Prop) (u9000_ : Value) (l0 : List ByteArray) (r : List ByteArray) (w0 w : World) (hB : Below w0.heap.size w0 w) (ho0 : Kd.R Kd.string 9 w w0.heap.size P0_ u9000_ l0) (h : impl_sorted.f l0 = some r) :
    Calls Tryz.prog 67 #[u9000_] w fun e w' => ∃ v0_ : Value, e = .returned (v0_) ∧ Kd.R Kd.string 9 w' w0.heap.size (fun k_ => (P0_ k_ ∨ w.heap.size ≤ k_)) v0_ r ∧ Below w0.heap.size w0 w' ∧ Kept w w' (fun k_ => P0_ k_) := by
  unfold impl_sorted.f at h
  by_cases hn : l0.length ≤ 1000000000
  · rw [if_pos hn] at h
    obtain rfl := Option.some.inj h
    clear h
    have own := Kd.own_of_R ho0
    rcases own.2 with ⟨hu, h0⟩ | ⟨g, cap, cur, hu, hle, hb, hlen, hmax, hsz, htake⟩
    · subst hu
      obtain rfl : l0 = [] := List.length_eq_zero_iff.mp h0
      have c1 := Aside0.mk (Tryz.slices_Sort_string_none none 0 w)
      have c2 := Aside0.mk (Tryz.slices_Compact_string_empty none 0 w)
      have hv : impl_sorted.val [] = [] := by unfold impl_sorted.val impl_sorted.bs; simp [Lib.compact, Lib.compactUpTo]
      rw [hv]
      have fin := Aside0.mk (And.intro (Kd.R_mono ho0 (ok' := fun k_ => (P0_ k_ ∨ w.heap.size ≤ k_)) (fun k hk => .inl hk)) (And.intro hB (Kept.refl w (fun k_ => P0_ k_))))
      clear hv
      clear own ho0 hB hn h0
      go_enter Tryz.func67, Tryz.ntmps67
      go_wp2_with (first | (go_at_call 97; (with_reducible refine c1.out.mono ?_); rintro e w' ⟨rfl, rfl⟩) | (go_at_call 98; (with_reducible refine c2.out.mono ?_); rintro e w' ⟨rfl, rfl⟩))
      go_ret
      exact ⟨_, rfl, fin.out⟩
    · subst hu
      have hP : P0_ g := ho0.1 g rfl
      have hblk : g < w.heap.size := (Array.getElem?_eq_some_iff.1 hb).1
      have hbl : (impl_sorted.bs l0).length = l0.length := by unfold impl_sorted.bs; rw [List.length_mergeSort, List.length_map]
      have hH : Go.Sort.Holds encStr w g 0 (l0.map fun s => s.data.toList).toArray := holds_of_block hb (by rw [List.length_map, ← impl_sorted.enc]; rw [Nat.mul_one] at htake; exact htake)
      have c1 := Tryz.slices_Sort_string g 0 cap (l0.map fun s => s.data.toList) w hH hblk (by rw [List.length_map]; omega)
      rw [List.length_map] at c1
      have C1 := Aside0.mk c1
      have C2 : Aside0 (∀ n os, Calls Tryz.prog 98 #[.slice (some ⟨g, 0, none⟩) l0.length cap] (Go.Sort.grow (Go.Sort.putRow encStr (Go.Sort.ahead w n) g 0 (impl_sorted.bs l0).toArray) os) fun e w' => e = .returned (.slice (some ⟨g, 0, none⟩) (Lib.compact (impl_sorted.bs l0)).length cap) ∧ ∃ q, w' = Go.Sort.putRow encStr (Go.Sort.ahead (Go.Sort.grow (Go.Sort.putRow encStr (Go.Sort.ahead w n) g 0 (impl_sorted.bs l0).toArray) os) q) g 0 (Lib.compact (impl_sorted.bs l0) ++ List.replicate ((impl_sorted.bs l0).length - (Lib.compact (impl_sorted.bs l0)).length) []).toArray) := ⟨fun n os => by
        have hh : Go.Sort.Holds encStr (Go.Sort.grow (Go.Sort.putRow encStr (Go.Sort.ahead w n) g 0 (impl_sorted.bs l0).toArray) os) g 0 (impl_sorted.bs l0).toArray := holds_of_block (heap_sorted _ hb) (take_putCells cur _ (by omega))
        have := Tryz.slices_Compact_string g 0 cap (impl_sorted.bs l0) _ hh (by omega) (by omega)
        rw [hbl] at this ⊢
        exact this⟩
      have FIN := Aside0.mk (fun n q os => impl_sorted.last (l := l0) (n := n) (q := q) (os := os) hB hle hP hb hlen hmax hsz)
      clear c1 hH hbl hblk hP own ho0 hB hn hle hb hlen hmax hsz htake
      go_enter Tryz.func67, Tryz.ntmps67
      go_wp2_with (first | (go_at_call 97; (with_reducible refine C1.out.mono ?_); rintro e w' ⟨rfl, n, os, rfl⟩) | (go_at_call 98; refine (C2.out n os).mono ?_; rintro e w' ⟨rfl, q, rfl⟩))
      go_ret
      exact ⟨_, rfl, FIN.out n q os⟩
  · rw [if_neg hn] at h; exact absurd h (by simp)


/-! ### impl_Lock_met: function 68 -/
def impl_Lock_met.l0 : Nat → ByteArray → List ByteArray → Int → Int → Int → Option (List ByteArray)
  | 0, _, _, _, _, _ => none
  | k + 1, x1, x5, x6, x364000, x364001 => if (wrap64 (x6 + x364000)) ≤ (x1.size : Int) then (if 0 ≤ x6 then (if x6 ≤ (wrap64 (x6 + x364000)) then (if x5.length < 8796093022208 then (impl_Lock_met.l0 k x1 (x5 ++ [x1.extract (x6 : Int).toNat ((wrap64 (x6 + x364000)) : Int).toNat]) (wrap64 (x6 + 1)) x364000 x364001) else (none)) else (none)) else (none)) else (some x5)
def impl_Lock_met.f (k : Nat) (a0_0 : Int) (a0_1 : Int) (a1 : ByteArray) : Option (List ByteArray) := impl_Lock_met.l0 k a1 (([] : List ByteArray)) 0 a0_0 a0_1
theorem impl_Lock_met.mono_l : ∀ k, (∀ y0 y1 y2 y3 y4, LeO (impl_Lock_met.l0 k y0 y1 y2 y3 y4) (impl_Lock_met.l0 (k + 1) y0 y1 y2 y3 y4))
  | 0 => fun _ _ _ _ _ r h => by simp [impl_Lock_met.l0] at h
  | k + 1 => by
    have ih0 := impl_Lock_met.mono_l k
    · intro y0 y1 y2 y3 y4
      unfold impl_Lock_met.l0
      repeat' first
      | (with_reducible exact ih0 _ _ _ _ _)
      | (with_reducible exact LeO.refl _)
      | (with_reducible exact LeO.none _)
      | (with_reducible refine LeO.ite ?_ ?_)
      | (with_reducible refine LeO.bind ?_ (fun _ => ?_))
      | exact ih0 _ _ _ _ _
      | exact LeO.none _
      | refine LeO.ite ?_ ?_
      | refine LeO.bind ?_ (fun _ => ?_)
theorem impl_Lock_met.mono : ∀ a0 a1 a2 k, LeO (impl_Lock_met.f k a0 a1 a2) (impl_Lock_met.f (k + 1) a0 a1 a2) := by
  intro a0 a1 a2 k
  have ih0 := impl_Lock_met.mono_l k
  unfold impl_Lock_met.f
  repeat' first
      | (with_reducible exact ih0 _ _ _ _ _)
      | (with_reducible exact LeO.refl _)
      | (with_reducible exact LeO.none _)
      | (with_reducible refine LeO.ite ?_ ?_)
      | (with_reducible refine LeO.bind ?_ (fun _ => ?_))
      | exact ih0 _ _ _ _ _
      | exact LeO.none _
      | refine LeO.ite ?_ ?_
      | refine LeO.bind ?_ (fun _ => ?_)
set_option maxHeartbeats 8000000 in
set_option maxRecDepth 100000 in
theorem impl_Lock_met.calls (k : Nat) (a0_0 : Int) (a0_1 : Int) (a1 : ByteArray) (r : List ByteArray) (w : World) (h : impl_Lock_met.f k a0_0 a0_1 a1 = some r) :
    Calls Tryz.prog 68 #[.agg #[.int .i64 a0_0, .int .i64 a0_1], .string a1] w fun e w' => ∃ v0_ : Value, e = .returned (v0_) ∧ Kd.R Kd.string 9 w' w.heap.size (fun _ => True) v0_ r ∧ Below w.heap.size w w' := by
  have hu23 := Tryz.underlying23
  have HB := Aside0.mk (Below.refl w.heap.size w)
  have H : (impl_Lock_met.l0 k a1 (([] : List ByteArray)) 0 a0_0 a0_1) = some r := h
  clear h
  obtain ⟨y364, hy364⟩ : ∃ y_ : List ByteArray, y_ = (([] : List ByteArray)) := ⟨_, rfl⟩
  replace H : (impl_Lock_met.l0 k a1 y364 0 a0_0 a0_1) = some r := by first | (rw [hy364]; with_reducible exact H) | (have H2_ := (Option.bind_some _ _).symm.trans H; rw [hy364]; with_reducible exact H2_) | (have H2_ := (Option.bind_some _ _).symm.trans H; with_reducible exact H2_) | with_reducible exact H | (rw [hy364]; exact H) | exact H
  have Ny364 := Aside0.mk hy364
  clear hy364
  have H' := Aside0.mk H
  clear H
  go_enter Tryz.func68, Tryz.ntmps68
  go_wp2_with (first | ((with_reducible refine gate_dst (N := 2) rfl ?_); refine box_event ?hg (N := 2) ?hd (cs := #[.int .i64 a0_0, .int .i64 a0_1]) (t := 23) ?hr ?_; (case hd => rfl); (case hg => rfl); (case hr => first | (go_simp; done) | (go_simp; rfl)); intro gb363 hg w3 hbox hb; have n0_ := bsx hb HB; have n1_ := Aside0.mk (hbox); have n2_ := gwx hg HB; have n3_ := n2_; clear HB; have HB := n0_; have BK363 := n1_; have GW363 := n2_; have GE363 := n3_; clear n0_ n1_ n2_ n3_; clear hb hbox hg) | ((with_reducible refine gate_dst (N := 7) rfl ?_); refine Kd.R_lit Kd.string _ 9 ?hg (N := 7) ?hd (xs := ([] : List ByteArray)) (inner := []) (ok := fun _ => True) (okp := fun _ => True) ?hr ?hp (fun _ hk => hk) trivial (Below.refl _ _) (Nat.le_refl _) (by simp) ?_; (case hd => rfl); (case hg => rfl); (case hr => first | (go_simp; done) | (go_simp; rfl)); (case hp => exact (Reps.none _ _)); intro v365 w4 ho5 hb hg_ hnew_; clear hg_ hnew_; (first | rw [← Ny364.out] at ho5 | (simp only [Int.reduceToNat] at ho5; rw [← Ny364.out] at ho5)); have n0_ := Aside0.mk (Kd.R_lower ho5 (below_size (bB HB))); replace BK363 := bbx hb BK363; have n2_ := bsx hb HB; clear HB; have HO366 := n0_; have HB := n2_; clear n0_ n2_; clear hb ho5))
  go_loopg [5, 6] k (fun kq v5 v6 w' => ∃ (x5_1 : List ByteArray) (x6_1 : Int), v6 = .int .i64 x6_1 ∧ Aside0 (impl_Lock_met.l0 kq a1 x5_1 x6_1 a0_0 a0_1 = some r) ∧ Aside0 (kq ≤ k) ∧ Aside0 (Kd.R Kd.string 9 w' w.heap.size (fun _ => True) v5 x5_1) ∧ Aside0 (w'.heap[gb363]? = some (.cells #[.int .i64 a0_0, .int .i64 a0_1] 23 (0, 0))) ∧ Aside0 (Below w.heap.size w w'))
  case atStart => refine ⟨(y364), (0), (by first | rfl | (simp; done) | (simp [*]; done)), H', ⟨Nat.le_refl _⟩, ⟨?_⟩, ⟨?_⟩, ⟨bB HB⟩⟩ <;> (with_reducible repeat (first | refine g_d ?_ _ | refine g_e ?_ | refine g_a ?_ _ | apply r_a | apply r_d | apply r_e)) <;> first | exact BK363.out | exact HO366.out
  clear H'
  obtain ⟨x5_1, x6_1, rfl, HA, HK1, HO_5, BK363, HB⟩ := hrel
  rcases gk with _ | k1
  · exact absurd HA.out (by simp [impl_Lock_met.l0])
  have H := HA.out
  clear HA
  simp only [impl_Lock_met.l0] at H
  by_cases c6 : (wrap64 (x6_1 + a0_0)) ≤ (a1.size : Int)
  rotate_left
  · rw [if_neg c6] at H
    have c6b0 : decide ((wrap64 (x6_1 + a0_0)) ≤ (a1.size : Int)) = false := decide_eq_false c6
    clear c6
    obtain rfl := Option.some.inj H
    have hcz13_0 := cz0 BK363
    have hcz13_1 := cz1 BK363
    have hfz13_0 := blk_frozen BK363.out 0
    have hfz13_1 := blk_frozen BK363.out 1
    go_wp2
    go_ret
    exact ⟨_, by first | rfl | (simp [errW_none, errW_some] <;> rfl) | (simp [*, errW_none, errW_some] <;> rfl), by (with_reducible repeat (first | apply r_a | apply r_d | apply r_e)); exact HO_5.out, bB HB⟩

  rw [if_pos c6] at H
  have c6b0 : decide ((wrap64 (x6_1 + a0_0)) ≤ (a1.size : Int)) = true := decide_eq_true c6
  clear c6
  by_cases c7 : 0 ≤ x6_1
  rotate_left
  · rw [if_neg c7] at H
    exact absurd H (by simp)
  rw [if_pos c7] at H
  have c7b0 := eq_true c7
  have c7b1 : decide (0 ≤ x6_1) = true := decide_eq_true c7
  clear c7
  by_cases c8 : x6_1 ≤ (wrap64 (x6_1 + a0_0))
  rotate_left
  · rw [if_neg c8] at H
    exact absurd H (by simp)
  rw [if_pos c8] at H
  have c8b0 := eq_true c8
  have c8b1 : decide (x6_1 ≤ (wrap64 (x6_1 + a0_0))) = true := decide_eq_true c8
  have c9b0 := eq_true (of_decide_eq_true (by first | (with_reducible assumption) | assumption) : (wrap64 (x6_1 + a0_0)) ≤ (a1.size : Int))
  by_cases c10 : x5_1.length < 8796093022208
  rotate_left
  · rw [if_neg c10] at H
    exact absurd H (by simp)
  rw [if_pos c10] at H
  have LMc10 := Aside0.mk c10
  clear c10
  obtain ⟨y367, hy367⟩ : ∃ y_ : List ByteArray, y_ = (x5_1 ++ [a1.extract (x6_1 : Int).toNat ((wrap64 (x6_1 + a0_0)) : Int).toNat]) := ⟨_, rfl⟩
  replace H : (impl_Lock_met.l0 k1 a1 y367 (wrap64 (x6_1 + 1)) a0_0 a0_1) = some r := by first | (rw [hy367]; with_reducible exact H) | (have H2_ := (Option.bind_some _ _).symm.trans H; rw [hy367]; with_reducible exact H2_) | (have H2_ := (Option.bind_some _ _).symm.trans H; with_reducible exact H2_) | with_reducible exact H | (rw [hy367]; exact H) | exact H
  have Ny367 := Aside0.mk hy367
  clear hy367
  have H' := Aside0.mk H
  clear H
  have hcz11_0 := cz0 BK363
  have hcz11_1 := cz1 BK363
  have hfz11_0 := blk_frozen BK363.out 0
  have hfz11_1 := blk_frozen BK363.out 1
  go_wp2_with (first | ((with_reducible refine gate_builtin (b := .append) (xs := #[.tmp 17, .tmp 25]) rfl ?_); at_builtin; refine Kd.R_append Kd.string (w0 := w) w.heap.size rfl (.tmp 17) (.tmp 25) 26 9 (.string ⟨#[]⟩) 16 rfl Tryz.underlying26 info9 rfl (by decide) (by omega) u5 x5_1 (a1.extract (x6_1 : Int).toNat ((wrap64 (x6_1 + a0_0)) : Int).toNat) [.string (a1.extract (x6_1 : Int).toNat ((wrap64 (x6_1 + a0_0)) : Int).toNat)] (fun _ => True) (fun _ => False) rfl rfl ?aP (fun _ hk => hk.elim) ?aF ?aO ?aB ?aS ?aL ?_; (case aP => exact rfl); (case aB => exact (bB HB)); (case aF => exact (fun _ _ => trivial)); (case aO => exact (by (with_reducible repeat (first | apply r_a | apply r_d | apply r_e)); exact HO_5.out)); (case aS => exact (below_size (bB HB))); (case aL => have := LMc10.out; omega); intro v368 w12 ho hb hg hat; rw [← Ny367.out] at ho; have n0_ := Aside0.mk (blk_grown (g := gb363) (o := .cells #[.int .i64 a0_0, .int .i64 a0_1] 23 (0, 0)) (bK BK363) hg (Kd.R_ne HO_5.out BK363.out (by decide))); have n1_ := Aside0.mk (hb); have n2_ := Aside0.mk (ho); clear BK363; clear HB; clear HO_5; have BK363 := n0_; have HB := n1_; have HO369 := n2_; clear n0_ n1_ n2_; clear ho hb hg hat))
  go_roundg k1
  case measure => have := HK1.out; omega
  case rel => refine ⟨(y367), (wrap64 (x6_1 + 1)), (by first | rfl | (simp; done) | (simp [*]; done)), H', ⟨by have := HK1.out; omega⟩, ⟨?_⟩, ⟨?_⟩, ⟨bB HB⟩⟩ <;> (with_reducible repeat (first | refine g_d ?_ _ | refine g_e ?_ | refine g_a ?_ _ | apply r_a | apply r_d | apply r_e)) <;> first | exact BK363.out | exact HO369.out
/-! ### strings_Index: function 80 (a text of our own) -/
/-- The library's own variable that tells how long a text may be looked for at once: some whole number. -/
def strings_Index.Gl (w : World) : Prop := ∃ m, w.cell? ⟨0, 0, none⟩ = some (.int .i64 m)
theorem strings_Index.gl_below {w W : World} (h : strings_Index.Gl w) (hb : Below w.heap.size w W) : strings_Index.Gl W := by
  obtain ⟨m, hm⟩ := h
  exact ⟨m, (hb.cell (p := ⟨0, 0, none⟩) (World.block_lt_of_cell? _ _ hm)).trans hm⟩
theorem strings_Index.gl_shaped (w : World) (h : w.ShapedOpen Tryz.prog) : strings_Index.Gl w := Tryz.laysM143.s1_3 w h
def strings_Index.f (a0 : ByteArray) (a1 : ByteArray) : Option (Int) := if a0.size < 4294967281 then some (Lib.index a0.data.toList a1.data.toList) else none
theorem strings_Index.calls (a0 : ByteArray) (a1 : ByteArray) (r : Int) (w : World) (hG : strings_Index.Gl w) (h : strings_Index.f a0 a1 = some r) :
    Calls Tryz.prog 80 #[.string a0, .string a1] w fun e w' => e = .returned (.int .i64 r) ∧ Drawn0 w w' := by
  unfold strings_Index.f at h
  obtain ⟨m, hm⟩ := hG
  by_cases hs : a0.size < 4294967281
  · rw [if_pos hs] at h
    obtain rfl := Option.some.inj h
    exact (Tryz.strings_Index a0 a1 m w hs hm).mono fun e w' ⟨he, hw⟩ => ⟨he, by rw [hw]; exact Drawn0.refl _⟩
  · rw [if_neg hs] at h; exact absurd h (by simp)


/-! ### impl_Lock_rounded: function 84 -/
def impl_Lock_rounded.f (k : Nat) (a0_0 : Int) (a0_1 : Int) (a1 : ByteArray) : Option (List ByteArray) := if 0 ≤ (wrap64 (a0_0 - 1)) then (if (wrap64 (a0_0 - 1)) ≤ (a1.size : Int) then (if a1.size + (a1.extract 0 ((wrap64 (a0_0 - 1)) : Int).toNat).size ≤ 9223372036854775807 then ((impl_Lock_met.f k a0_0 a0_1 (a1 ++ (a1.extract 0 ((wrap64 (a0_0 - 1)) : Int).toNat))).bind fun t392 => (some t392)) else (none)) else (none)) else (none)
theorem impl_Lock_rounded.mono : ∀ a0 a1 a2 k, LeO (impl_Lock_rounded.f k a0 a1 a2) (impl_Lock_rounded.f (k + 1) a0 a1 a2) := by
  intro a0 a1 a2 k
  unfold impl_Lock_rounded.f
  repeat' first
      | (with_reducible exact impl_Lock_met.mono _ _ _ _)
      | (with_reducible exact LeO.refl _)
      | (with_reducible exact LeO.none _)
      | (with_reducible refine LeO.ite ?_ ?_)
      | (with_reducible refine LeO.bind ?_ (fun _ => ?_))
      | exact impl_Lock_met.mono _ _ _ _
      | exact LeO.none _
      | refine LeO.ite ?_ ?_
      | refine LeO.bind ?_ (fun _ => ?_)
def impl_Lock_rounded.T1 : Bool × List (List Nat × List Nat) := (true, [([], []), ([], []), ([], []), ([], []), ([3], [3]), ([4], [4]), ([2, 5], [2, 5]), ([1, 6], [1, 6]), ([0, 7], [0, 7]), ([8, 8, 0, 1, 2, 3, 4, 5, 6, 7, 8], [8])])
def impl_Lock_rounded.B1 : List Nat := [0, 0, 0, 0, 8, 24, 60, 126, 255, 511]
theorem impl_Lock_rounded.tab1 : rtab .any (opsOf Tryz.f84 1) = impl_Lock_rounded.T1 := by kernel_rfl
theorem impl_Lock_rounded.bits1 : waitsOk impl_Lock_rounded.T1.2 impl_Lock_rounded.B1 = true := by kernel_rfl
set_option maxHeartbeats 8000000 in
set_option maxRecDepth 100000 in
theorem impl_Lock_rounded.calls (k : Nat) (a0_0 : Int) (a0_1 : Int) (a1 : ByteArray) (r : List ByteArray) (w : World) (h : impl_Lock_rounded.f k a0_0 a0_1 a1 = some r) :
    Calls Tryz.prog 84 #[.agg #[.int .i64 a0_0, .int .i64 a0_1], .string a1] w fun e w' => ∃ v0_ : Value, e = .returned (v0_) ∧ Kd.R Kd.string 9 w' w.heap.size (fun _ => True) v0_ r ∧ Below w.heap.size w w' := by
  have hu23 := Tryz.underlying23
  have HB := Aside0.mk (Below.refl w.heap.size w)
  have H : (if 0 ≤ (wrap64 (a0_0 - 1)) then (if (wrap64 (a0_0 - 1)) ≤ (a1.size : Int) then (if a1.size + (a1.extract 0 ((wrap64 (a0_0 - 1)) : Int).toNat).size ≤ 9223372036854775807 then ((impl_Lock_met.f k a0_0 a0_1 (a1 ++ (a1.extract 0 ((wrap64 (a0_0 - 1)) : Int).toNat))).bind fun t392 => (some t392)) else (none)) else (none)) else (none)) = some r := h
  clear h
  obtain ⟨ji3, hji3⟩ : ∃ j_ : Int, (wrap64 (a0_0 - 1)) = j_ := ⟨_, rfl⟩
  replace H : (if 0 ≤ (ji3) then (if (ji3) ≤ (a1.size : Int) then (if a1.size + (a1.extract 0 ((ji3) : Int).toNat).size ≤ 9223372036854775807 then ((impl_Lock_met.f k a0_0 a0_1 (a1 ++ (a1.extract 0 ((ji3) : Int).toNat))).bind fun t392 => (some t392)) else (none)) else (none)) else (none)) = some r := by first | (rw [hji3] at H; exact H) | (simp only [hji3] at H ⊢; exact H)
  have hji3w : (IntKind.i64.wrap (a0_0 - 1)) = ji3 := (i64_w _).trans hji3
  by_cases c4 : 0 ≤ (ji3)
  rotate_left
  · rw [if_neg c4] at H
    exact absurd H (by simp)

  rw [if_pos c4] at H
  have c4b0 := eq_true c4
  have c4b1 : decide (0 ≤ (ji3)) = true := decide_eq_true c4
  clear c4
  by_cases c5 : (ji3) ≤ (a1.size : Int)
  rotate_left
  · rw [if_neg c5] at H
    exact absurd H (by simp)
  rw [if_pos c5] at H
  have c5b0 := eq_true c5
  have c5b1 : decide ((ji3) ≤ (a1.size : Int)) = true := decide_eq_true c5
  clear c5
  by_cases c6 : a1.size + (a1.extract 0 ((ji3) : Int).toNat).size ≤ 9223372036854775807
  rotate_left
  · rw [if_neg c6] at H
    exact absurd H (by simp)
  rw [if_pos c6] at H
  have c6b0 := eq_true c6
  have c6b1 : decide (a1.size + (a1.extract 0 ((ji3) : Int).toNat).size ≤ 9223372036854775807) = true := decide_eq_true c6
  try have c6b2 : (9223372036854775807 < a1.size + (a1.extract 0 ((ji3) : Int).toNat).size) = False := eq_false (Nat.not_lt.2 c6)
  have c6b3 : (9223372036854775807 < a1.size + ji3.toNat) = False := eq_false (by have e0_ : (a1.extract 0 ji3.toNat).size = ji3.toNat := (by rw [ByteArray.size_extract]; have q_ : ji3 ≤ (a1.size : Int) := of_eq_true (by assumption); omega); have h_ := c6; rw [e0_] at h_; omega)
  replace H := Option.bind_eq_some_iff.mp H
  obtain ⟨t392, A70, H⟩ := H
  try dsimp only at H
  have A7 := Aside0.mk A70
  clear A70
  obtain rfl := Option.some.inj H
  go_enter Tryz.func84, Tryz.ntmps84
  try go_wp2_with (first | ((with_reducible refine gate_dst (N := 2) rfl ?_); refine box_event ?hg (N := 2) ?hd (cs := #[.int .i64 a0_0, .int .i64 a0_1]) (t := 23) ?hr ?_; (case hd => rfl); (case hg => rfl); (case hr => first | (go_simp; done) | (go_simp; rfl)); intro gb391 hg w8 hbox hb; have n0_ := bsx hb HB; have n1_ := Aside0.mk (hbox); have n2_ := gwx hg HB; have n3_ := n2_; clear HB; have HB := n0_; have BK391 := n1_; have GW391 := n2_; have GE391 := n3_; clear n0_ n1_ n2_ n3_; clear hb hbox hg))
  have n0_ := Aside0.mk (g_e BK391.out)
  have n1_ := Aside0.mk (b_e HB.out)
  clear BK391
  clear HB
  have BK391 := n0_
  have HB := n1_
  clear n0_ n1_
  refine start_ (n := 10) (S := fun w' => w'.cell? ⟨gb391, 0, none⟩ = some (.int .i64 a0_0) ∧ w'.cell? ⟨gb391, 1, none⟩ = some (.int .i64 a0_1)) (ds := []) (bs_ 10 0) (by kernel_rfl) rfl rfl ⟨(blk_cell BK391.out 0).trans rfl, (blk_cell BK391.out 1).trans rfl⟩ (fun hHeld => ?_); refine with_tabW impl_Lock_rounded.tab1 impl_Lock_rounded.bits1 (fun HT_ HW_ => ?_)
  generalize w8.drew = w9 at BK391 HB hHeld ⊢
  refine pua 1 6 (bs_ 10 2) HT_ ?_
  refine pua 2 7 (bs_ 10 6) HT_ ?_
  refine pua 3 8 (bs_ 10 14) HT_ ?_
  refine tk_ 0 5 (bs_ 10 15) rfl rfl HT_ HW_ (by kernel_rfl) (fun _ _ _ h => h) (by rfl) hHeld (by rintro w' ⟨s0, s1⟩; go_simp; with_reducible rfl) (by simp only [Act.put, s_1, s_2, s_3, i64_w, i32_w]; rfl) ?_
  refine tk_ 4 9 (bs_ 10 31) rfl rfl HT_ HW_ (by kernel_rfl) (fun _ _ _ h => h) (by rfl) hHeld (by rintro w' ⟨s0, s1⟩; go_simp; with_reducible rfl) (by simp only [Act.put, s_1, s_2, s_3, i64_w, i32_w]; rfl) ?_
  refine pua 5 10 (bs_ 10 63) HT_ ?_
  refine pua 6 11 (bs_ 10 127) HT_ ?_
  refine pua 7 12 (bs_ 10 255) HT_ ?_
  refine one_ (i := 8) (N := some 13) (bs_ 10 511) rfl rfl (one_of HT_.out (by kernel_rfl)) (by decide) (fun K hK => ?_)
  refine goes_ Tryz.func68 (by kernel_rfl) rfl #[.agg #[.int .i64 a0_0, .int .i64 a0_1], .string (a1 ++ (a1.extract 0 ((ji3) : Int).toNat))] (by rfl) rfl rfl (by (try simp only [m_1, m_2, m_3]); first | done | (simp only [hji3]; rfl) | rfl | (simp only [m_4, m_5]; rfl)) ?_
  with_reducible refine (impl_Lock_met.calls k a0_0 a0_1 (a1 ++ (a1.extract 0 ((ji3) : Int).toNat)) t392 _ A7.out).mono ?_
  rintro e w10 ⟨v393, rfl, ho0, hb⟩
  refine ⟨_, rfl, ?_⟩
  have n0_ := Aside0.mk (Kd.R_lower ho0 (below_size (bB HB)))
  have n1_ := bbx hb BK391
  have n2_ := bsx hb HB
  clear BK391
  clear HB
  have HO394 := n0_
  have BK391 := n1_
  have HB := n2_
  clear n0_ n1_ n2_
  (try clear hb)
  (try clear hb2)
  (try clear hk)
  (try clear hi)
  (try clear ho0)
  refine hK.out _ _ ⟨(blk_cell BK391.out 0).trans rfl, (blk_cell BK391.out 1).trans rfl⟩ (fun hHeld => ?_)
  clear hK K
  refine norm_ (a' := ?_) ?_ ?_
  rotate_left
  · show Act.put _ (some 13) _ = _
    simp only [Act.put, s_1, s_2, s_3, i64_w, i32_w]
    rfl
  refine pua 9 4 (bs_ 10 1023) HT_ ?_
  refine done_ (done_of HT_.out (by kernel_rfl)) ?_
  try go_wp2
  go_ret
  exact ⟨_, by first | rfl | (simp [errW_none, errW_some] <;> rfl) | (simp only [← hji3]; first | rfl | (simp [errW_none, errW_some] <;> rfl)) | (simp [*, errW_none, errW_some] <;> rfl), by (with_reducible repeat (first | apply r_a | apply r_d | apply r_e)); exact HO394.out, bB HB⟩
/-! ### impl_isRing: function 71 -/
def impl_isRing.f (k : Nat) (a0_0 : Int) (a0_1 : Int) (a1 : ByteArray) : Option (Bool) := (impl_isRounded.f k a0_0 a0_1).bind fun t396 => (if t396 = true then ((impl_Lock_count.f k a0_0 a0_1).bind fun t397 => (if (a1.size : Int) = t397 then ((impl_Lock_isText.f k a0_0 a0_1 a1).bind fun t398 => (if t398 = true then ((impl_Lock_rounded.f k a0_0 a0_1 a1).bind fun t399 => ((impl_sorted.f t399).bind fun t402 => ((impl_Lock_count.f k a0_0 a0_1).bind fun t405 => (some ((t402.length : Int) == t405))))) else (some false))) else (some false))) else (some false))
theorem impl_isRing.mono : ∀ a0 a1 a2 k, LeO (impl_isRing.f k a0 a1 a2) (impl_isRing.f (k + 1) a0 a1 a2) := by
  intro a0 a1 a2 k
  unfold impl_isRing.f
  repeat' first
      | (with_reducible exact impl_Lock_count.mono _ _ _)
      | (with_reducible exact impl_Lock_isText.mono _ _ _ _)
      | (with_reducible exact impl_Lock_rounded.mono _ _ _ _)
      | (with_reducible exact impl_isRounded.mono _ _ _)
      | (with_reducible exact LeO.refl _)
      | (with_reducible exact LeO.none _)
      | (with_reducible refine LeO.ite ?_ ?_)
      | (with_reducible refine LeO.bind ?_ (fun _ => ?_))
      | exact impl_Lock_count.mono _ _ _
      | exact impl_Lock_isText.mono _ _ _ _
      | exact impl_Lock_rounded.mono _ _ _ _
      | exact impl_isRounded.mono _ _ _
      | exact LeO.none _
      | refine LeO.ite ?_ ?_
      | refine LeO.bind ?_ (fun _ => ?_)
def impl_isRing.T1 : Bool × List (List Nat × List Nat) := (true, [([], []), ([0], [0]), ([1, 1], [1]), ([2], [2]), ([3, 2], [2, 3]), ([2], [2]), ([5, 2, 2], [2, 5]), ([4, 6, 2], [2, 4, 6]), ([2, 7], [2, 7]), ([8, 6], [8]), ([9], [9]), ([9], [9]), ([10, 11, 9, 9], [9, 10, 11]), ([9, 12], [9, 12]), ([13, 12], [13]), ([14], [14]), ([14], [14]), ([15, 16, 14, 14], [14, 15, 16]), ([17, 17, 14], [14, 17]), ([18, 14], [14, 18]), ([14], [14]), ([20, 18, 14], [14, 20]), ([19, 21, 14], [14, 19, 21]), ([14, 22], [14, 22]), ([23, 21, 0, 1, 2, 3, 4, 5, 6, 7, 8, 9, 10, 11, 12, 13, 14, 15, 16, 17, 18, 19, 20, 21, 22, 23], [23])])
def impl_isRing.B1 : List Nat := [0, 1, 3, 7, 15, 7, 39, 127, 255, 511, 1023, 1023, 4095, 8191, 16383, 32767, 32767, 131071, 262143, 524287, 32767, 1572863, 4194303, 8388607, 16777215]
theorem impl_isRing.tab1 : rtab .any (opsOf Tryz.f71 1) = impl_isRing.T1 := by kernel_rfl
theorem impl_isRing.bits1 : waitsOk impl_isRing.T1.2 impl_isRing.B1 = true := by kernel_rfl
set_option maxHeartbeats 8000000 in
set_option maxRecDepth 100000 in
theorem impl_isRing.calls (k : Nat) (a0_0 : Int) (a0_1 : Int) (a1 : ByteArray) (r : Bool) (w : World) (h : impl_isRing.f k a0_0 a0_1 a1 = some r) :
    Calls Tryz.prog 71 #[.agg #[.int .i64 a0_0, .int .i64 a0_1], .string a1] w fun e w' => e = .returned (.bool r) ∧ Below w.heap.size w w' := by
  have hu23 := Tryz.underlying23
  have HB := Aside0.mk (Below.refl w.heap.size w)
  have H : ((impl_isRounded.f k a0_0 a0_1).bind fun t396 => (if t396 = true then ((impl_Lock_count.f k a0_0 a0_1).bind fun t397 => (if (a1.size : Int) = t397 then ((impl_Lock_isText.f k a0_0 a0_1 a1).bind fun t398 => (if t398 = true then ((impl_Lock_rounded.f k a0_0 a0_1 a1).bind fun t399 => ((impl_sorted.f t399).bind fun t402 => ((impl_Lock_count.f k a0_0 a0_1).bind fun t405 => (some ((t402.length : Int) == t405))))) else (some false))) else (some false))) else (some false))) = some r := h
  clear h
  replace H := Option.bind_eq_some_iff.mp H
  obtain ⟨t396, A30, H⟩ := H
  try dsimp only at H
  have A3 := Aside0.mk A30
  clear A30
  by_cases c4 : t396 = true
  rotate_left
  · replace c4 := Bool.eq_false_iff.mpr c4
    subst c4
    rw [if_neg (show ¬ (false = true) by decide)] at H
    obtain rfl := Option.some.inj H
    go_enter Tryz.func71, Tryz.ntmps71
    try go_wp2_with (first | ((with_reducible refine gate_dst (N := 2) rfl ?_); (try (refine gate_guard (by rfl) ?_; dsimp only)); refine box_event ?hg (N := 2) ?hd (cs := #[.int .i64 a0_0, .int .i64 a0_1]) (t := 23) ?hr ?_; (case hd => rfl); (case hg => rfl); (case hr => first | (go_simp; done) | (go_simp; rfl)); intro gb395 hg w31 hbox hb; have n0_ := bsx hb HB; have n1_ := Aside0.mk (hbox); have n2_ := gwx hg HB; have n3_ := n2_; clear HB; have HB := n0_; have BK395 := n1_; have GW395 := n2_; have GE395 := n3_; clear n0_ n1_ n2_ n3_; clear hb hbox hg))
    have n0_ := Aside0.mk (g_e BK395.out)
    have n1_ := Aside0.mk (b_e HB.out)
    clear BK395
    clear HB
    have BK395 := n0_
    have HB := n1_
    clear n0_ n1_
    refine start_ (n := 25) (S := fun w' => w'.cell? ⟨gb395, 0, none⟩ = some (.int .i64 a0_0) ∧ w'.cell? ⟨gb395, 1, none⟩ = some (.int .i64 a0_1)) (ds := []) (bs_ 25 0) (by kernel_rfl) rfl rfl ⟨(blk_cell BK395.out 0).trans rfl, (blk_cell BK395.out 1).trans rfl⟩ (fun hHeld => ?_); refine with_tabW impl_isRing.tab1 impl_isRing.bits1 (fun HT_ HW_ => ?_)
    generalize w31.drew = w32 at BK395 HB hHeld ⊢
    refine tk_ 0 5 (bs_ 25 1) rfl rfl HT_ HW_ (by kernel_rfl) (fun _ _ _ h => h) (by rfl) hHeld (by rintro w' ⟨s0, s1⟩; go_simp; with_reducible rfl) (by simp only [Act.put, s_1, s_2, s_3, i64_w, i32_w]; rfl) ?_
    refine one_ (i := 1) (N := some 6) (bs_ 25 3) rfl rfl (one_of HT_.out (by kernel_rfl)) (by decide) (fun K hK => ?_)
    refine goes_ Tryz.func50 (by kernel_rfl) rfl #[.agg #[.int .i64 a0_0, .int .i64 a0_1]] (by rfl) rfl rfl (by (try simp only [m_1, m_2, m_3]); first | done | rfl | (simp only [m_4, m_5]; rfl)) ?_
    with_reducible refine (impl_isRounded.calls k a0_0 a0_1 false _ A3.out).mono ?_
    rintro e w33 ⟨rfl, hb⟩
    refine ⟨_, rfl, ?_⟩
    have n0_ := bbx hb BK395
    have n1_ := bsx hb HB
    clear BK395
    clear HB
    have BK395 := n0_
    have HB := n1_
    clear n0_ n1_
    (try clear hb)
    (try clear hb2)
    (try clear hk)
    (try clear hi)
    refine hK.out _ _ ⟨(blk_cell BK395.out 0).trans rfl, (blk_cell BK395.out 1).trans rfl⟩ (fun hHeld => ?_)
    clear hK K
    refine norm_ (a' := ?_) ?_ ?_
    rotate_left
    · show Act.put _ (some 6) _ = _
      simp only [Act.put, s_1, s_2, s_3, i64_w, i32_w]
      rfl
    refine pua 2 7 (bs_ 25 7) HT_ ?_
    refine pv_ 3 8 (bs_ 25 15) rfl rfl HT_ (by kernel_rfl) (fun _ _ _ h => h) (by rfl) (by simp only [Act.put, s_1, s_2, s_3, i64_w, i32_w]; rfl) ?_
    refine pv_ 4 9 (bs_ 25 31) rfl rfl HT_ (by kernel_rfl) (fun _ _ _ h => h) (by rfl) (by simp only [Act.put, s_1, s_2, s_3, i64_w, i32_w]; rfl) ?_
    refine pv_ 5 10 (bs_ 25 63) rfl rfl HT_ (by kernel_rfl) (fun _ _ _ h => h) (by rfl) (by simp only [Act.put, s_1, s_2, s_3, i64_w, i32_w]; rfl) ?_
    refine pv_ 6 11 (bs_ 25 127) rfl rfl HT_ (by kernel_rfl) (fun _ _ _ h => h) (by rfl) (by simp only [Act.put, s_1, s_2, s_3, i64_w, i32_w]; rfl) ?_
    refine pv_ 7 12 (bs_ 25 255) rfl rfl HT_ (by kernel_rfl) (fun _ _ _ h => h) (by rfl) (by simp only [Act.put, s_1, s_2, s_3, i64_w, i32_w]; rfl) ?_
    refine pua 8 13 (bs_ 25 511) HT_ ?_
    refine pua 9 14 (bs_ 25 1023) HT_ ?_
    refine pv_ 10 15 (bs_ 25 2047) rfl rfl HT_ (by kernel_rfl) (fun _ _ _ h => h) (by rfl) (by simp only [Act.put, s_1, s_2, s_3, i64_w, i32_w]; rfl) ?_
    refine pv_ 11 16 (bs_ 25 4095) rfl rfl HT_ (by kernel_rfl) (fun _ _ _ h => h) (by rfl) (by simp only [Act.put, s_1, s_2, s_3, i64_w, i32_w]; rfl) ?_
    refine pv_ 12 17 (bs_ 25 8191) rfl rfl HT_ (by kernel_rfl) (fun _ _ _ h => h) (by rfl) (by simp only [Act.put, s_1, s_2, s_3, i64_w, i32_w]; rfl) ?_
    refine pua 13 18 (bs_ 25 16383) HT_ ?_
    refine pua 14 19 (bs_ 25 32767) HT_ ?_
    refine pv_ 15 20 (bs_ 25 65535) rfl rfl HT_ (by kernel_rfl) (fun _ _ _ h => h) (by rfl) (by simp only [Act.put, s_1, s_2, s_3, i64_w, i32_w]; rfl) ?_
    refine pv_ 16 21 (bs_ 25 131071) rfl rfl HT_ (by kernel_rfl) (fun _ _ _ h => h) (by rfl) (by simp only [Act.put, s_1, s_2, s_3, i64_w, i32_w]; rfl) ?_
    refine pv_ 17 22 (bs_ 25 262143) rfl rfl HT_ (by kernel_rfl) (fun _ _ _ h => h) (by rfl) (by simp only [Act.put, s_1, s_2, s_3, i64_w, i32_w]; rfl) ?_
    refine pv_ 18 23 (bs_ 25 524287) rfl rfl HT_ (by kernel_rfl) (fun _ _ _ h => h) (by rfl) (by simp only [Act.put, s_1, s_2, s_3, i64_w, i32_w]; rfl) ?_
    refine pv_ 19 24 (bs_ 25 1048575) rfl rfl HT_ (by kernel_rfl) (fun _ _ _ h => h) (by rfl) (by simp only [Act.put, s_1, s_2, s_3, i64_w, i32_w]; rfl) ?_
    refine pv_ 20 25 (bs_ 25 2097151) rfl rfl HT_ (by kernel_rfl) (fun _ _ _ h => h) (by rfl) (by simp only [Act.put, s_1, s_2, s_3, i64_w, i32_w]; rfl) ?_
    refine pv_ 21 26 (bs_ 25 4194303) rfl rfl HT_ (by kernel_rfl) (fun _ _ _ h => h) (by rfl) (by simp only [Act.put, s_1, s_2, s_3, i64_w, i32_w]; rfl) ?_
    refine pv_ 22 27 (bs_ 25 8388607) rfl rfl HT_ (by kernel_rfl) (fun _ _ _ h => h) (by rfl) (by simp only [Act.put, s_1, s_2, s_3, i64_w, i32_w]; rfl) ?_
    refine pua 23 28 (bs_ 25 16777215) HT_ ?_
    refine pua 24 4 (bs_ 25 33554431) HT_ ?_
    refine done_ (done_of HT_.out (by kernel_rfl)) ?_
    try go_wp2
    go_ret
    exact ⟨by first | rfl | (simp [errW_none, errW_some] <;> rfl) | (simp [*, errW_none, errW_some] <;> rfl), bB HB⟩

  subst c4
  rw [if_pos rfl] at H
  replace H := Option.bind_eq_some_iff.mp H
  obtain ⟨t397, A50, H⟩ := H
  try dsimp only at H
  have A5 := Aside0.mk A50
  clear A50
  by_cases c6 : (a1.size : Int) = t397
  rotate_left
  · rw [if_neg c6] at H
    have c6b0 : ((a1.size : Int) == t397) = false := beq_eq_false_iff_ne.mpr c6
    have c6b1 : ((a1.size : Int) != t397) = true := bne_iff_ne.mpr c6
    obtain rfl := Option.some.inj H
    go_enter Tryz.func71, Tryz.ntmps71
    try go_wp2_with (first | ((with_reducible refine gate_dst (N := 2) rfl ?_); (try (refine gate_guard (by rfl) ?_; dsimp only)); refine box_event ?hg (N := 2) ?hd (cs := #[.int .i64 a0_0, .int .i64 a0_1]) (t := 23) ?hr ?_; (case hd => rfl); (case hg => rfl); (case hr => first | (go_simp; done) | (go_simp; rfl)); intro gb395 hg w27 hbox hb; have n0_ := bsx hb HB; have n1_ := Aside0.mk (hbox); have n2_ := gwx hg HB; have n3_ := n2_; clear HB; have HB := n0_; have BK395 := n1_; have GW395 := n2_; have GE395 := n3_; clear n0_ n1_ n2_ n3_; clear hb hbox hg))
    have n0_ := Aside0.mk (g_e BK395.out)
    have n1_ := Aside0.mk (b_e HB.out)
    clear BK395
    clear HB
    have BK395 := n0_
    have HB := n1_
    clear n0_ n1_
    refine start_ (n := 25) (S := fun w' => w'.cell? ⟨gb395, 0, none⟩ = some (.int .i64 a0_0) ∧ w'.cell? ⟨gb395, 1, none⟩ = some (.int .i64 a0_1)) (ds := []) (bs_ 25 0) (by kernel_rfl) rfl rfl ⟨(blk_cell BK395.out 0).trans rfl, (blk_cell BK395.out 1).trans rfl⟩ (fun hHeld => ?_); refine with_tabW impl_isRing.tab1 impl_isRing.bits1 (fun HT_ HW_ => ?_)
    generalize w27.drew = w28 at BK395 HB hHeld ⊢
    refine tk_ 0 5 (bs_ 25 1) rfl rfl HT_ HW_ (by kernel_rfl) (fun _ _ _ h => h) (by rfl) hHeld (by rintro w' ⟨s0, s1⟩; go_simp; with_reducible rfl) (by simp only [Act.put, s_1, s_2, s_3, i64_w, i32_w]; rfl) ?_
    refine one_ (i := 1) (N := some 6) (bs_ 25 3) rfl rfl (one_of HT_.out (by kernel_rfl)) (by decide) (fun K hK => ?_)
    refine goes_ Tryz.func50 (by kernel_rfl) rfl #[.agg #[.int .i64 a0_0, .int .i64 a0_1]] (by rfl) rfl rfl (by (try simp only [m_1, m_2, m_3]); first | done | rfl | (simp only [m_4, m_5]; rfl)) ?_
    with_reducible refine (impl_isRounded.calls k a0_0 a0_1 true _ A3.out).mono ?_
    rintro e w29 ⟨rfl, hb⟩
    refine ⟨_, rfl, ?_⟩
    have n0_ := bbx hb BK395
    have n1_ := bsx hb HB
    clear BK395
    clear HB
    have BK395 := n0_
    have HB := n1_
    clear n0_ n1_
    (try clear hb)
    (try clear hb2)
    (try clear hk)
    (try clear hi)
    refine hK.out _ _ ⟨(blk_cell BK395.out 0).trans rfl, (blk_cell BK395.out 1).trans rfl⟩ (fun hHeld => ?_)
    clear hK K
    refine norm_ (a' := ?_) ?_ ?_
    rotate_left
    · show Act.put _ (some 6) _ = _
      simp only [Act.put, s_1, s_2, s_3, i64_w, i32_w]
      rfl
    refine pua 2 7 (bs_ 25 7) HT_ ?_
    refine pua 3 8 (bs_ 25 15) HT_ ?_
    refine pua 4 9 (bs_ 25 31) HT_ ?_
    refine tk_ 5 10 (bs_ 25 63) rfl rfl HT_ HW_ (by kernel_rfl) (fun _ _ _ h => h) (by rfl) hHeld (by rintro w' ⟨s0, s1⟩; go_simp; with_reducible rfl) (by simp only [Act.put, s_1, s_2, s_3, i64_w, i32_w]; rfl) ?_
    refine one_ (i := 6) (N := some 11) (bs_ 25 127) rfl rfl (one_of HT_.out (by kernel_rfl)) (by decide) (fun K hK => ?_)
    refine goes_ Tryz.func65 (by kernel_rfl) rfl #[.agg #[.int .i64 a0_0, .int .i64 a0_1]] (by rfl) rfl rfl (by (try simp only [m_1, m_2, m_3]); first | done | rfl | (simp only [m_4, m_5]; rfl)) ?_
    with_reducible refine (impl_Lock_count.calls k a0_0 a0_1 t397 _ A5.out).mono ?_
    rintro e w30 ⟨rfl, hb⟩
    refine ⟨_, rfl, ?_⟩
    have n0_ := bbx hb BK395
    have n1_ := bsx hb HB
    clear BK395
    clear HB
    have BK395 := n0_
    have HB := n1_
    clear n0_ n1_
    (try clear hb)
    (try clear hb2)
    (try clear hk)
    (try clear hi)
    refine hK.out _ _ ⟨(blk_cell BK395.out 0).trans rfl, (blk_cell BK395.out 1).trans rfl⟩ (fun hHeld => ?_)
    clear hK K
    refine norm_ (a' := ?_) ?_ ?_
    rotate_left
    · show Act.put _ (some 11) _ = _
      simp only [Act.put, s_1, s_2, s_3, i64_w, i32_w]
      rfl
    refine pua 7 12 (bs_ 25 255) HT_ ?_
    refine pua 8 13 (bs_ 25 511) HT_ ?_
    refine pua 9 14 (bs_ 25 1023) HT_ ?_
    refine pv_ 10 15 (bs_ 25 2047) rfl rfl HT_ (by kernel_rfl) (fun _ _ _ h => h) (by rfl) (by simp only [Act.put, s_1, s_2, s_3, i64_w, i32_w]; rfl) ?_
    refine pv_ 11 16 (bs_ 25 4095) rfl rfl HT_ (by kernel_rfl) (fun _ _ _ h => h) (by rfl) (by simp only [Act.put, s_1, s_2, s_3, i64_w, i32_w]; rfl) ?_
    refine pv_ 12 17 (bs_ 25 8191) rfl rfl HT_ (by kernel_rfl) (fun _ _ _ h => h) (by rfl) (by simp only [Act.put, s_1, s_2, s_3, i64_w, i32_w]; rfl) ?_
    refine pua 13 18 (bs_ 25 16383) HT_ ?_
    refine pua 14 19 (bs_ 25 32767) HT_ ?_
    refine pv_ 15 20 (bs_ 25 65535) rfl rfl HT_ (by kernel_rfl) (fun _ _ _ h => h) (by rfl) (by simp only [Act.put, s_1, s_2, s_3, i64_w, i32_w]; rfl) ?_
    refine pv_ 16 21 (bs_ 25 131071) rfl rfl HT_ (by kernel_rfl) (fun _ _ _ h => h) (by rfl) (by simp only [Act.put, s_1, s_2, s_3, i64_w, i32_w]; rfl) ?_
    refine pv_ 17 22 (bs_ 25 262143) rfl rfl HT_ (by kernel_rfl) (fun _ _ _ h => h) (by rfl) (by simp only [Act.put, s_1, s_2, s_3, i64_w, i32_w]; rfl) ?_
    refine pv_ 18 23 (bs_ 25 524287) rfl rfl HT_ (by kernel_rfl) (fun _ _ _ h => h) (by rfl) (by simp only [Act.put, s_1, s_2, s_3, i64_w, i32_w]; rfl) ?_
    refine pv_ 19 24 (bs_ 25 1048575) rfl rfl HT_ (by kernel_rfl) (fun _ _ _ h => h) (by rfl) (by simp only [Act.put, s_1, s_2, s_3, i64_w, i32_w]; rfl) ?_
    refine pv_ 20 25 (bs_ 25 2097151) rfl rfl HT_ (by kernel_rfl) (fun _ _ _ h => h) (by rfl) (by simp only [Act.put, s_1, s_2, s_3, i64_w, i32_w]; rfl) ?_
    refine pv_ 21 26 (bs_ 25 4194303) rfl rfl HT_ (by kernel_rfl) (fun _ _ _ h => h) (by rfl) (by simp only [Act.put, s_1, s_2, s_3, i64_w, i32_w]; rfl) ?_
    refine pv_ 22 27 (bs_ 25 8388607) rfl rfl HT_ (by kernel_rfl) (fun _ _ _ h => h) (by rfl) (by simp only [Act.put, s_1, s_2, s_3, i64_w, i32_w]; rfl) ?_
    refine pua 23 28 (bs_ 25 16777215) HT_ ?_
    refine pua 24 4 (bs_ 25 33554431) HT_ ?_
    refine done_ (done_of HT_.out (by kernel_rfl)) ?_
    try go_wp2
    go_ret
    exact ⟨by first | rfl | (simp [errW_none, errW_some] <;> rfl) | (simp [*, errW_none, errW_some] <;> rfl), bB HB⟩
  rw [if_pos c6] at H
  have c6b0 : ((a1.size : Int) == t397) = true := beq_iff_eq.mpr c6
  have c6b1 : ((a1.size : Int) != t397) = false := bne_eq_false_iff_eq.mpr c6
  clear c6
  replace H := Option.bind_eq_some_iff.mp H
  obtain ⟨t398, A70, H⟩ := H
  try dsimp only at H
  have A7 := Aside0.mk A70
  clear A70
  by_cases c8 : t398 = true
  rotate_left
  · replace c8 := Bool.eq_false_iff.mpr c8
    subst c8
    rw [if_neg (show ¬ (false = true) by decide)] at H
    obtain rfl := Option.some.inj H
    go_enter Tryz.func71, Tryz.ntmps71
    try go_wp2_with (first | ((with_reducible refine gate_dst (N := 2) rfl ?_); (try (refine gate_guard (by rfl) ?_; dsimp only)); refine box_event ?hg (N := 2) ?hd (cs := #[.int .i64 a0_0, .int .i64 a0_1]) (t := 23) ?hr ?_; (case hd => rfl); (case hg => rfl); (case hr => first | (go_simp; done) | (go_simp; rfl)); intro gb395 hg w22 hbox hb; have n0_ := bsx hb HB; have n1_ := Aside0.mk (hbox); have n2_ := gwx hg HB; have n3_ := n2_; clear HB; have HB := n0_; have BK395 := n1_; have GW395 := n2_; have GE395 := n3_; clear n0_ n1_ n2_ n3_; clear hb hbox hg))
    have n0_ := Aside0.mk (g_e BK395.out)
    have n1_ := Aside0.mk (b_e HB.out)
    clear BK395
    clear HB
    have BK395 := n0_
    have HB := n1_
    clear n0_ n1_
    refine start_ (n := 25) (S := fun w' => w'.cell? ⟨gb395, 0, none⟩ = some (.int .i64 a0_0) ∧ w'.cell? ⟨gb395, 1, none⟩ = some (.int .i64 a0_1)) (ds := []) (bs_ 25 0) (by kernel_rfl) rfl rfl ⟨(blk_cell BK395.out 0).trans rfl, (blk_cell BK395.out 1).trans rfl⟩ (fun hHeld => ?_); refine with_tabW impl_isRing.tab1 impl_isRing.bits1 (fun HT_ HW_ => ?_)
    generalize w22.drew = w23 at BK395 HB hHeld ⊢
    refine tk_ 0 5 (bs_ 25 1) rfl rfl HT_ HW_ (by kernel_rfl) (fun _ _ _ h => h) (by rfl) hHeld (by rintro w' ⟨s0, s1⟩; go_simp; with_reducible rfl) (by simp only [Act.put, s_1, s_2, s_3, i64_w, i32_w]; rfl) ?_
    refine one_ (i := 1) (N := some 6) (bs_ 25 3) rfl rfl (one_of HT_.out (by kernel_rfl)) (by decide) (fun K hK => ?_)
    refine goes_ Tryz.func50 (by kernel_rfl) rfl #[.agg #[.int .i64 a0_0, .int .i64 a0_1]] (by rfl) rfl rfl (by (try simp only [m_1, m_2, m_3]); first | done | rfl | (simp only [m_4, m_5]; rfl)) ?_
    with_reducible refine (impl_isRounded.calls k a0_0 a0_1 true _ A3.out).mono ?_
    rintro e w24 ⟨rfl, hb⟩
    refine ⟨_, rfl, ?_⟩
    have n0_ := bbx hb BK395
    have n1_ := bsx hb HB
    clear BK395
    clear HB
    have BK395 := n0_
    have HB := n1_
    clear n0_ n1_
    (try clear hb)
    (try clear hb2)
    (try clear hk)
    (try clear hi)
    refine hK.out _ _ ⟨(blk_cell BK395.out 0).trans rfl, (blk_cell BK395.out 1).trans rfl⟩ (fun hHeld => ?_)
    clear hK K
    refine norm_ (a' := ?_) ?_ ?_
    rotate_left
    · show Act.put _ (some 6) _ = _
      simp only [Act.put, s_1, s_2, s_3, i64_w, i32_w]
      rfl
    refine pua 2 7 (bs_ 25 7) HT_ ?_
    refine pua 3 8 (bs_ 25 15) HT_ ?_
    refine pua 4 9 (bs_ 25 31) HT_ ?_
    refine tk_ 5 10 (bs_ 25 63) rfl rfl HT_ HW_ (by kernel_rfl) (fun _ _ _ h => h) (by rfl) hHeld (by rintro w' ⟨s0, s1⟩; go_simp; with_reducible rfl) (by simp only [Act.put, s_1, s_2, s_3, i64_w, i32_w]; rfl) ?_
    refine one_ (i := 6) (N := some 11) (bs_ 25 127) rfl rfl (one_of HT_.out (by kernel_rfl)) (by decide) (fun K hK => ?_)
    refine goes_ Tryz.func65 (by kernel_rfl) rfl #[.agg #[.int .i64 a0_0, .int .i64 a0_1]] (by rfl) rfl rfl (by (try simp only [m_1, m_2, m_3]); first | done | rfl | (simp only [m_4, m_5]; rfl)) ?_
    with_reducible refine (impl_Lock_count.calls k a0_0 a0_1 t397 _ A5.out).mono ?_
    rintro e w25 ⟨rfl, hb⟩
    refine ⟨_, rfl, ?_⟩
    have n0_ := bbx hb BK395
    have n1_ := bsx hb HB
    clear BK395
    clear HB
    have BK395 := n0_
    have HB := n1_
    clear n0_ n1_
    (try clear hb)
    (try clear hb2)
    (try clear hk)
    (try clear hi)
    refine hK.out _ _ ⟨(blk_cell BK395.out 0).trans rfl, (blk_cell BK395.out 1).trans rfl⟩ (fun hHeld => ?_)
    clear hK K
    refine norm_ (a' := ?_) ?_ ?_
    rotate_left
    · show Act.put _ (some 11) _ = _
      simp only [Act.put, s_1, s_2, s_3, i64_w, i32_w]
      rfl
    refine pua 7 12 (bs_ 25 255) HT_ ?_
    refine pua 8 13 (bs_ 25 511) HT_ ?_
    refine pua 9 14 (bs_ 25 1023) HT_ ?_
    refine pua 11 16 (bs_ 25 3071) HT_ ?_
    refine tk_ 10 15 (bs_ 25 4095) rfl rfl HT_ HW_ (by kernel_rfl) (fun _ _ _ h => h) (by rfl) hHeld (by rintro w' ⟨s0, s1⟩; go_simp; with_reducible rfl) (by simp only [Act.put, s_1, s_2, s_3, i64_w, i32_w]; rfl) ?_
    refine one_ (i := 12) (N := some 17) (bs_ 25 8191) rfl rfl (one_of HT_.out (by kernel_rfl)) (by decide) (fun K hK => ?_)
    refine goes_ Tryz.func96 (by kernel_rfl) rfl #[.agg #[.int .i64 a0_0, .int .i64 a0_1], .string a1] (by rfl) rfl rfl (by (try simp only [m_1, m_2, m_3]); first | done | rfl | (simp only [m_4, m_5]; rfl)) ?_
    with_reducible refine (impl_Lock_isText.calls k a0_0 a0_1 a1 false _ A7.out).mono ?_
    rintro e w26 ⟨rfl, hb⟩
    refine ⟨_, rfl, ?_⟩
    have n0_ := bbx hb BK395
    have n1_ := bsx hb HB
    clear BK395
    clear HB
    have BK395 := n0_
    have HB := n1_
    clear n0_ n1_
    (try clear hb)
    (try clear hb2)
    (try clear hk)
    (try clear hi)
    refine hK.out _ _ ⟨(blk_cell BK395.out 0).trans rfl, (blk_cell BK395.out 1).trans rfl⟩ (fun hHeld => ?_)
    clear hK K
    refine norm_ (a' := ?_) ?_ ?_
    rotate_left
    · show Act.put _ (some 17) _ = _
      simp only [Act.put, s_1, s_2, s_3, i64_w, i32_w]
      rfl
    refine pua 13 18 (bs_ 25 16383) HT_ ?_
    refine pua 14 19 (bs_ 25 32767) HT_ ?_
    refine pv_ 15 20 (bs_ 25 65535) rfl rfl HT_ (by kernel_rfl) (fun _ _ _ h => h) (by rfl) (by simp only [Act.put, s_1, s_2, s_3, i64_w, i32_w]; rfl) ?_
    refine pv_ 16 21 (bs_ 25 131071) rfl rfl HT_ (by kernel_rfl) (fun _ _ _ h => h) (by rfl) (by simp only [Act.put, s_1, s_2, s_3, i64_w, i32_w]; rfl) ?_
    refine pv_ 17 22 (bs_ 25 262143) rfl rfl HT_ (by kernel_rfl) (fun _ _ _ h => h) (by rfl) (by simp only [Act.put, s_1, s_2, s_3, i64_w, i32_w]; rfl) ?_
    refine pv_ 18 23 (bs_ 25 524287) rfl rfl HT_ (by kernel_rfl) (fun _ _ _ h => h) (by rfl) (by simp only [Act.put, s_1, s_2, s_3, i64_w, i32_w]; rfl) ?_
    refine pv_ 19 24 (bs_ 25 1048575) rfl rfl HT_ (by kernel_rfl) (fun _ _ _ h => h) (by rfl) (by simp only [Act.put, s_1, s_2, s_3, i64_w, i32_w]; rfl) ?_
    refine pv_ 20 25 (bs_ 25 2097151) rfl rfl HT_ (by kernel_rfl) (fun _ _ _ h => h) (by rfl) (by simp only [Act.put, s_1, s_2, s_3, i64_w, i32_w]; rfl) ?_
    refine pv_ 21 26 (bs_ 25 4194303) rfl rfl HT_ (by kernel_rfl) (fun _ _ _ h => h) (by rfl) (by simp only [Act.put, s_1, s_2, s_3, i64_w, i32_w]; rfl) ?_
    refine pv_ 22 27 (bs_ 25 8388607) rfl rfl HT_ (by kernel_rfl) (fun _ _ _ h => h) (by rfl) (by simp only [Act.put, s_1, s_2, s_3, i64_w, i32_w]; rfl) ?_
    refine pua 23 28 (bs_ 25 16777215) HT_ ?_
    refine pua 24 4 (bs_ 25 33554431) HT_ ?_
    refine done_ (done_of HT_.out (by kernel_rfl)) ?_
    try go_wp2
    go_ret
    exact ⟨by first | rfl | (simp [errW_none, errW_some] <;> rfl) | (simp [*, errW_none, errW_some] <;> rfl), bB HB⟩
  subst c8
  rw [if_pos rfl] at H
  replace H := Option.bind_eq_some_iff.mp H
  obtain ⟨t399, A90, H⟩ := H
  try dsimp only at H
  have A9 := Aside0.mk A90
  clear A90
  replace H := Option.bind_eq_some_iff.mp H
  obtain ⟨t402, A100, H⟩ := H
  try dsimp only at H
  have A10 := Aside0.mk A100
  clear A100
  replace H := Option.bind_eq_some_iff.mp H
  obtain ⟨t405, A110, H⟩ := H
  try dsimp only at H
  have A11 := Aside0.mk A110
  clear A110
  obtain rfl := Option.some.inj H
  go_enter Tryz.func71, Tryz.ntmps71
  try go_wp2_with (first | ((with_reducible refine gate_dst (N := 2) rfl ?_); (try (refine gate_guard (by rfl) ?_; dsimp only)); refine box_event ?hg (N := 2) ?hd (cs := #[.int .i64 a0_0, .int .i64 a0_1]) (t := 23) ?hr ?_; (case hd => rfl); (case hg => rfl); (case hr => first | (go_simp; done) | (go_simp; rfl)); intro gb395 hg w12 hbox hb; have n0_ := bsx hb HB; have n1_ := Aside0.mk (hbox); have n2_ := gwx hg HB; have n3_ := n2_; clear HB; have HB := n0_; have BK395 := n1_; have GW395 := n2_; have GE395 := n3_; clear n0_ n1_ n2_ n3_; clear hb hbox hg))
  have n0_ := Aside0.mk (g_e BK395.out)
  have n1_ := Aside0.mk (b_e HB.out)
  clear BK395
  clear HB
  have BK395 := n0_
  have HB := n1_
  clear n0_ n1_
  refine start_ (n := 25) (S := fun w' => w'.cell? ⟨gb395, 0, none⟩ = some (.int .i64 a0_0) ∧ w'.cell? ⟨gb395, 1, none⟩ = some (.int .i64 a0_1)) (ds := []) (bs_ 25 0) (by kernel_rfl) rfl rfl ⟨(blk_cell BK395.out 0).trans rfl, (blk_cell BK395.out 1).trans rfl⟩ (fun hHeld => ?_); refine with_tabW impl_isRing.tab1 impl_isRing.bits1 (fun HT_ HW_ => ?_)
  generalize w12.drew = w13 at BK395 HB hHeld ⊢
  refine tk_ 0 5 (bs_ 25 1) rfl rfl HT_ HW_ (by kernel_rfl) (fun _ _ _ h => h) (by rfl) hHeld (by rintro w' ⟨s0, s1⟩; go_simp; with_reducible rfl) (by simp only [Act.put, s_1, s_2, s_3, i64_w, i32_w]; rfl) ?_
  refine one_ (i := 1) (N := some 6) (bs_ 25 3) rfl rfl (one_of HT_.out (by kernel_rfl)) (by decide) (fun K hK => ?_)
  refine goes_ Tryz.func50 (by kernel_rfl) rfl #[.agg #[.int .i64 a0_0, .int .i64 a0_1]] (by rfl) rfl rfl (by (try simp only [m_1, m_2, m_3]); first | done | rfl | (simp only [m_4, m_5]; rfl)) ?_
  with_reducible refine (impl_isRounded.calls k a0_0 a0_1 true _ A3.out).mono ?_
  rintro e w14 ⟨rfl, hb⟩
  refine ⟨_, rfl, ?_⟩
  have n0_ := bbx hb BK395
  have n1_ := bsx hb HB
  clear BK395
  clear HB
  have BK395 := n0_
  have HB := n1_
  clear n0_ n1_
  (try clear hb)
  (try clear hb2)
  (try clear hk)
  (try clear hi)
  refine hK.out _ _ ⟨(blk_cell BK395.out 0).trans rfl, (blk_cell BK395.out 1).trans rfl⟩ (fun hHeld => ?_)
  clear hK K
  refine norm_ (a' := ?_) ?_ ?_
  rotate_left
  · show Act.put _ (some 6) _ = _
    simp only [Act.put, s_1, s_2, s_3, i64_w, i32_w]
    rfl
  refine pua 2 7 (bs_ 25 7) HT_ ?_
  refine pua 3 8 (bs_ 25 15) HT_ ?_
  refine pua 4 9 (bs_ 25 31) HT_ ?_
  refine tk_ 5 10 (bs_ 25 63) rfl rfl HT_ HW_ (by kernel_rfl) (fun _ _ _ h => h) (by rfl) hHeld (by rintro w' ⟨s0, s1⟩; go_simp; with_reducible rfl) (by simp only [Act.put, s_1, s_2, s_3, i64_w, i32_w]; rfl) ?_
  refine one_ (i := 6) (N := some 11) (bs_ 25 127) rfl rfl (one_of HT_.out (by kernel_rfl)) (by decide) (fun K hK => ?_)
  refine goes_ Tryz.func65 (by kernel_rfl) rfl #[.agg #[.int .i64 a0_0, .int .i64 a0_1]] (by rfl) rfl rfl (by (try simp only [m_1, m_2, m_3]); first | done | rfl | (simp only [m_4, m_5]; rfl)) ?_
  with_reducible refine (impl_Lock_count.calls k a0_0 a0_1 t397 _ A5.out).mono ?_
  rintro e w15 ⟨rfl, hb⟩
  refine ⟨_, rfl, ?_⟩
  have n0_ := bbx hb BK395
  have n1_ := bsx hb HB
  clear BK395
  clear HB
  have BK395 := n0_
  have HB := n1_
  clear n0_ n1_
  (try clear hb)
  (try clear hb2)
  (try clear hk)
  (try clear hi)
  refine hK.out _ _ ⟨(blk_cell BK395.out 0).trans rfl, (blk_cell BK395.out 1).trans rfl⟩ (fun hHeld => ?_)
  clear hK K
  refine norm_ (a' := ?_) ?_ ?_
  rotate_left
  · show Act.put _ (some 11) _ = _
    simp only [Act.put, s_1, s_2, s_3, i64_w, i32_w]
    rfl
  refine pua 7 12 (bs_ 25 255) HT_ ?_
  refine pua 8 13 (bs_ 25 511) HT_ ?_
  refine pua 9 14 (bs_ 25 1023) HT_ ?_
  refine pua 11 16 (bs_ 25 3071) HT_ ?_
  refine tk_ 10 15 (bs_ 25 4095) rfl rfl HT_ HW_ (by kernel_rfl) (fun _ _ _ h => h) (by rfl) hHeld (by rintro w' ⟨s0, s1⟩; go_simp; with_reducible rfl) (by simp only [Act.put, s_1, s_2, s_3, i64_w, i32_w]; rfl) ?_
  refine one_ (i := 12) (N := some 17) (bs_ 25 8191) rfl rfl (one_of HT_.out (by kernel_rfl)) (by decide) (fun K hK => ?_)
  refine goes_ Tryz.func96 (by kernel_rfl) rfl #[.agg #[.int .i64 a0_0, .int .i64 a0_1], .string a1] (by rfl) rfl rfl (by (try simp only [m_1, m_2, m_3]); first | done | rfl | (simp only [m_4, m_5]; rfl)) ?_
  with_reducible refine (impl_Lock_isText.calls k a0_0 a0_1 a1 true _ A7.out).mono ?_
  rintro e w16 ⟨rfl, hb⟩
  refine ⟨_, rfl, ?_⟩
  have n0_ := bbx hb BK395
  have n1_ := bsx hb HB
  clear BK395
  clear HB
  have BK395 := n0_
  have HB := n1_
  clear n0_ n1_
  (try clear hb)
  (try clear hb2)
  (try clear hk)
  (try clear hi)
  refine hK.out _ _ ⟨(blk_cell BK395.out 0).trans rfl, (blk_cell BK395.out 1).trans rfl⟩ (fun hHeld => ?_)
  clear hK K
  refine norm_ (a' := ?_) ?_ ?_
  rotate_left
  · show Act.put _ (some 17) _ = _
    simp only [Act.put, s_1, s_2, s_3, i64_w, i32_w]
    rfl
  refine pua 13 18 (bs_ 25 16383) HT_ ?_
  refine pua 14 19 (bs_ 25 32767) HT_ ?_
  refine pua 16 21 (bs_ 25 98303) HT_ ?_
  refine tk_ 15 20 (bs_ 25 131071) rfl rfl HT_ HW_ (by kernel_rfl) (fun _ _ _ h => h) (by rfl) hHeld (by rintro w' ⟨s0, s1⟩; go_simp; with_reducible rfl) (by simp only [Act.put, s_1, s_2, s_3, i64_w, i32_w]; rfl) ?_
  refine tk_ 20 25 (bs_ 25 1179647) rfl rfl HT_ HW_ (by kernel_rfl) (fun _ _ _ h => h) (by rfl) hHeld (by rintro w' ⟨s0, s1⟩; go_simp; with_reducible rfl) (by simp only [Act.put, s_1, s_2, s_3, i64_w, i32_w]; rfl) ?_
  refine one_ (i := 17) (N := some 22) (bs_ 25 1310719) rfl rfl (one_of HT_.out (by kernel_rfl)) (by decide) (fun K hK => ?_)
  refine goes_ Tryz.func84 (by kernel_rfl) rfl #[.agg #[.int .i64 a0_0, .int .i64 a0_1], .string a1] (by rfl) rfl rfl (by (try simp only [m_1, m_2, m_3]); first | done | rfl | (simp only [m_4, m_5]; rfl)) ?_
  with_reducible refine (impl_Lock_rounded.calls k a0_0 a0_1 a1 t399 _ A9.out).mono ?_
  rintro e w17 ⟨v400, rfl, ho0, hb⟩
  refine ⟨_, rfl, ?_⟩
  have n0_ := Aside0.mk (Kd.R_lower ho0 (below_size (bB HB)))
  have n1_ := bbx hb BK395
  have n2_ := bsx hb HB
  clear BK395
  clear HB
  have HO401 := n0_
  have BK395 := n1_
  have HB := n2_
  clear n0_ n1_ n2_
  (try clear hb)
  (try clear hb2)
  (try clear hk)
  (try clear hi)
  (try clear ho0)
  obtain ⟨Ao18, co18, eo18⟩ := Kd.R_slice HO401.out
  (first | subst eo18 | (injection eo18 with f1_ f2_ f3_; have f4_ := f1_.symm; have f5_ := f3_.symm; clear f1_ f2_ f3_; subst f4_; subst f5_))
  refine hK.out _ _ ⟨(blk_cell BK395.out 0).trans rfl, (blk_cell BK395.out 1).trans rfl⟩ (fun hHeld => ?_)
  clear hK K
  refine norm_ (a' := ?_) ?_ ?_
  rotate_left
  · show Act.put _ (some 22) _ = _
    simp only [Act.put, s_1, s_2, s_3, i64_w, i32_w]
    rfl
  refine one_ (i := 18) (N := some 23) (bs_ 25 1572863) rfl rfl (one_of HT_.out (by kernel_rfl)) (by decide) (fun K hK => ?_)
  refine goes_ Tryz.func67 (by kernel_rfl) rfl #[.slice Ao18 t399.length co18] (by rfl) rfl rfl (by (try simp only [m_1, m_2, m_3]); first | done | rfl | (simp only [m_4, m_5]; rfl)) ?_
  with_reducible refine (impl_sorted.calls (fun k_ => some k_ = (.slice Ao18 t399.length co18 : Value).ownBlock) (.slice Ao18 t399.length co18) t399 t402 w _ ?side1 ?side2 A10.out).mono ?_
  (case side1 => exact bB HB)
  (case side2 => exact Kd.R_tight rfl HO401.out)
  rintro e w19 ⟨v403, rfl, ho0, hb, hkp⟩
  refine ⟨_, rfl, ?_⟩
  have n0_ := Aside0.mk (blk_kept (bK BK395) hkp (fun hs_ => (fun e_ => (Kd.R_ne HO401.out BK395.out (by decide)) e_) hs_))
  have n1_ := Aside0.mk (Kd.R_mono (ok' := fun k_ => True) ho0 (fun k_ hk_ => trivial))
  have n2_ := Aside0.mk (hb)
  clear BK395
  clear HB
  clear HO401
  have BK395 := n0_
  have HO404 := n1_
  have HB := n2_
  clear n0_ n1_ n2_
  (try clear hb)
  (try clear hkp)
  (try clear ho0)
  obtain ⟨Ao20, co20, eo20⟩ := Kd.R_slice HO404.out
  (first | subst eo20 | (injection eo20 with f1_ f2_ f3_; have f4_ := f1_.symm; have f5_ := f3_.symm; clear f1_ f2_ f3_; subst f4_; subst f5_))
  refine hK.out _ _ ⟨(blk_cell BK395.out 0).trans rfl, (blk_cell BK395.out 1).trans rfl⟩ (fun hHeld => ?_)
  clear hK K
  refine norm_ (a' := ?_) ?_ ?_
  rotate_left
  · show Act.put _ (some 23) _ = _
    simp only [Act.put, s_1, s_2, s_3, i64_w, i32_w]
    rfl
  refine pua 19 24 (bs_ 25 2097151) HT_ ?_
  refine one_ (i := 21) (N := some 26) (bs_ 25 4194303) rfl rfl (one_of HT_.out (by kernel_rfl)) (by decide) (fun K hK => ?_)
  refine goes_ Tryz.func65 (by kernel_rfl) rfl #[.agg #[.int .i64 a0_0, .int .i64 a0_1]] (by rfl) rfl rfl (by (try simp only [m_1, m_2, m_3]); first | done | rfl | (simp only [m_4, m_5]; rfl)) ?_
  with_reducible refine (impl_Lock_count.calls k a0_0 a0_1 t405 _ A11.out).mono ?_
  rintro e w21 ⟨rfl, hb⟩
  refine ⟨_, rfl, ?_⟩
  have n0_ := Aside0.mk (Kd.R_below (by (with_reducible repeat (first | apply r_a | apply r_d | apply r_e)); exact HO404.out) hb)
  have n1_ := bbx hb BK395
  have n2_ := bsx hb HB
  clear HO404
  clear BK395
  clear HB
  have HO404 := n0_
  have BK395 := n1_
  have HB := n2_
  clear n0_ n1_ n2_
  (try clear hb)
  (try clear hb2)
  (try clear hk)
  (try clear hi)
  refine hK.out _ _ ⟨(blk_cell BK395.out 0).trans rfl, (blk_cell BK395.out 1).trans rfl⟩ (fun hHeld => ?_)
  clear hK K
  refine norm_ (a' := ?_) ?_ ?_
  rotate_left
  · show Act.put _ (some 26) _ = _
    simp only [Act.put, s_1, s_2, s_3, i64_w, i32_w]
    rfl
  refine pua 22 27 (bs_ 25 8388607) HT_ ?_
  refine pua 23 28 (bs_ 25 16777215) HT_ ?_
  refine pua 24 4 (bs_ 25 33554431) HT_ ?_
  refine done_ (done_of HT_.out (by kernel_rfl)) ?_
  try go_wp2
  go_ret
  exact ⟨by first | rfl | (simp [errW_none, errW_some] <;> rfl) | (simp [*, errW_none, errW_some] <;> rfl), bB HB⟩
/-! ### impl_IsRing: function 20 -/
def impl_IsRing.f (k : Nat) (a0_0 : Int) (a0_1 : Int) (a1 : ByteArray) : Option (Bool × Bool) := (impl_isRounded.f k a0_0 a0_1).bind fun t407 => (if t407 = true then ((impl_isRing.f k a0_0 a0_1 a1).bind fun t408 => (some (t408, true))) else (some (false, false)))
theorem impl_IsRing.mono : ∀ a0 a1 a2 k, LeO (impl_IsRing.f k a0 a1 a2) (impl_IsRing.f (k + 1) a0 a1 a2) := by
  intro a0 a1 a2 k
  unfold impl_IsRing.f
  repeat' first
      | (with_reducible exact impl_isRing.mono _ _ _ _)
      | (with_reducible exact impl_isRounded.mono _ _ _)
      | (with_reducible exact LeO.refl _)
      | (with_reducible exact LeO.none _)
      | (with_reducible refine LeO.ite ?_ ?_)
      | (with_reducible refine LeO.bind ?_ (fun _ => ?_))
      | exact impl_isRing.mono _ _ _ _
      | exact impl_isRounded.mono _ _ _
      | exact LeO.none _
      | refine LeO.ite ?_ ?_
      | refine LeO.bind ?_ (fun _ => ?_)
set_option maxHeartbeats 8000000 in
set_option maxRecDepth 100000 in
theorem impl_IsRing.calls (k : Nat) (a0_0 : Int) (a0_1 : Int) (a1 : ByteArray) (r1 : Bool) (r2 : Bool) (w : World) (h : impl_IsRing.f k a0_0 a0_1 a1 = some (r1, r2)) :
    Calls Tryz.prog 20 #[.agg #[.int .i64 a0_0, .int .i64 a0_1], .string a1] w fun e w' => e = .returned (.tuple #[.bool r1, .bool r2]) ∧ Below w.heap.size w w' := by
  have hu23 := Tryz.underlying23
  have HB := Aside0.mk (Below.refl w.heap.size w)
  have H : ((impl_isRounded.f k a0_0 a0_1).bind fun t407 => (if t407 = true then ((impl_isRing.f k a0_0 a0_1 a1).bind fun t408 => (some (t408, true))) else (some (false, false)))) = some (r1, r2) := h
  clear h
  replace H := Option.bind_eq_some_iff.mp H
  obtain ⟨t407, A30, H⟩ := H
  try dsimp only at H
  have A3 := Aside0.mk A30
  clear A30
  by_cases c4 : t407 = true
  rotate_left
  · replace c4 := Bool.eq_false_iff.mpr c4
    subst c4
    rw [if_neg (show ¬ (false = true) by decide)] at H
    simp only [Option.some.injEq, Prod.mk.injEq] at H
    obtain ⟨rfl, rfl⟩ := H
    go_enter Tryz.func20, Tryz.ntmps20
    go_wp2_with (first | ((with_reducible refine gate_dst (N := 2) rfl ?_); refine box_event ?hg (N := 2) ?hd (cs := #[.int .i64 a0_0, .int .i64 a0_1]) (t := 23) ?hr ?_; (case hd => rfl); (case hg => rfl); (case hr => first | (go_simp; done) | (go_simp; rfl)); intro gb406 hg w11 hbox hb; have n0_ := bsx hb HB; have n1_ := Aside0.mk (hbox); have n2_ := gwx hg HB; have n3_ := n2_; clear HB; have HB := n0_; have BK406 := n1_; have GW406 := n2_; have GE406 := n3_; clear n0_ n1_ n2_ n3_; clear hb hbox hg; have hcz12_0 := cz0 BK406; have hcz12_1 := cz1 BK406; have hfz12_0 := blk_frozen BK406.out 0; have hfz12_1 := blk_frozen BK406.out 1) | ((with_reducible refine gate_callee (f := 50) rfl ?_); refine goesL_ (some 7) rfl rfl Tryz.func50 (by kernel_rfl) rfl #[.agg #[.int .i64 a0_0, .int .i64 a0_1]] rfl (by (try simp only [m_1, m_2, m_3]); first | done | rfl | (simp only [m_4, m_5]; rfl)) ?_; (with_reducible refine (impl_isRounded.calls k a0_0 a0_1 false _ A3.out).mono ?_); rintro e w13 ⟨rfl, hb⟩; refine ⟨_, rfl, ?_⟩; replace BK406 := bbx hb BK406; replace HB := bsx hb HB; skip; (try clear hb); (try clear hb2); (try clear hk); (try clear hi)))
    go_ret2
    exact ⟨by first | rfl | (simp [errW_none, errW_some] <;> rfl) | (simp [*, errW_none, errW_some] <;> rfl), bB HB⟩

  subst c4
  rw [if_pos rfl] at H
  replace H := Option.bind_eq_some_iff.mp H
  obtain ⟨t408, A50, H⟩ := H
  try dsimp only at H
  have A5 := Aside0.mk A50
  clear A50
  simp only [Option.some.injEq, Prod.mk.injEq] at H
  obtain ⟨rfl, rfl⟩ := H
  go_enter Tryz.func20, Tryz.ntmps20
  go_wp2_with (first | ((with_reducible refine gate_dst (N := 2) rfl ?_); refine box_event ?hg (N := 2) ?hd (cs := #[.int .i64 a0_0, .int .i64 a0_1]) (t := 23) ?hr ?_; (case hd => rfl); (case hg => rfl); (case hr => first | (go_simp; done) | (go_simp; rfl)); intro gb406 hg w6 hbox hb; have n0_ := bsx hb HB; have n1_ := Aside0.mk (hbox); have n2_ := gwx hg HB; have n3_ := n2_; clear HB; have HB := n0_; have BK406 := n1_; have GW406 := n2_; have GE406 := n3_; clear n0_ n1_ n2_ n3_; clear hb hbox hg; have hcz7_0 := cz0 BK406; have hcz7_1 := cz1 BK406; have hfz7_0 := blk_frozen BK406.out 0; have hfz7_1 := blk_frozen BK406.out 1) | ((with_reducible refine gate_callee (f := 50) rfl ?_); refine goesL_ (some 7) rfl rfl Tryz.func50 (by kernel_rfl) rfl #[.agg #[.int .i64 a0_0, .int .i64 a0_1]] rfl (by (try simp only [m_1, m_2, m_3]); first | done | rfl | (simp only [m_4, m_5]; rfl)) ?_; (with_reducible refine (impl_isRounded.calls k a0_0 a0_1 true _ A3.out).mono ?_); rintro e w8 ⟨rfl, hb⟩; refine ⟨_, rfl, ?_⟩; replace BK406 := bbx hb BK406; replace HB := bsx hb HB; skip; (try clear hb); (try clear hb2); (try clear hk); (try clear hi); have hcz9_0 := cz0 BK406; have hcz9_1 := cz1 BK406; have hfz9_0 := blk_frozen BK406.out 0; have hfz9_1 := blk_frozen BK406.out 1) | ((with_reducible refine gate_callee (f := 71) rfl ?_); refine goesL_ (some 11) rfl rfl Tryz.func71 (by kernel_rfl) rfl #[.agg #[.int .i64 a0_0, .int .i64 a0_1], .string a1] rfl (by (try simp only [m_1, m_2, m_3]); first | done | rfl | (simp only [m_4, m_5]; rfl)) ?_; (with_reducible refine (impl_isRing.calls k a0_0 a0_1 a1 t408 _ A5.out).mono ?_); rintro e w10 ⟨rfl, hb⟩; refine ⟨_, rfl, ?_⟩; replace BK406 := bbx hb BK406; replace HB := bsx hb HB; skip; (try clear hb); (try clear hb2); (try clear hk); (try clear hi)))
  go_ret2
  exact ⟨by first | rfl | (simp [errW_none, errW_some] <;> rfl) | (simp [*, errW_none, errW_some] <;> rfl), bB HB⟩
/-! ### spec_riText: function 100 (a text of our own) -/
def spec_riText.f (a0_0 : Int) (a0_1 : Int) (a1 : ByteArray) : Option (Bool) := if 2 ≤ a0_1 ∧ a0_1 ≤ 10 then some (a1.data.toList.all fun b => decide (48 ≤ (b.toNat : Int) ∧ (b.toNat : Int) < 48 + a0_1)) else none
theorem spec_riText.iter_drewN (w : World) (s : ByteArray) (pos : Nat) : ∀ n : Nat, (w.iter s pos).drewN n = (w.drewN n).iter s pos
  | 0 => rfl
  | n + 1 => by
    show ((w.iter s pos).drewN n).drew = ((w.drewN n).drew).iter s pos
    rw [spec_riText.iter_drewN w s pos n]; rfl
theorem spec_riText.cell_iter (w : World) (s : ByteArray) (pos : Nat) (a : Addr) (h : a.block < w.heap.size) : (w.iter s pos).cell? a = w.cell? a := World.cell?_alloc_lt _ _ _ h
theorem spec_riText.drewN_heap (w : World) : ∀ n : Nat, (w.drewN n).heap = w.heap
  | 0 => rfl
  | n + 1 => by show ((w.drewN n).drew).heap = _; exact spec_riText.drewN_heap w n
set_option maxHeartbeats 8000000 in
set_option maxRecDepth 100000 in
theorem spec_riText.calls (a0_0 : Int) (a0_1 : Int) (a1 : ByteArray) (r : Bool) (w : World) (h : spec_riText.f a0_0 a0_1 a1 = some r) :
    Calls Tryz.prog 100 #[.agg #[.int .i64 a0_0, .int .i64 a0_1], .string a1] w fun e w' => e = .returned (.bool r) ∧ Below w.heap.size w w' := by
  have hu9 := Tryz.underlying9
  have hu26 := Tryz.underlying23
  unfold spec_riText.f at h
  by_cases hD : 2 ≤ a0_1 ∧ a0_1 ≤ 10
  · rw [if_pos hD] at h
    have HDD := Aside0.mk hD
    clear hD
    have H := Aside0.mk (Option.some.inj h)
    clear h
    go_enter Tryz.func100, Tryz.ntmps100
    go_wp2
    go_loopg [5] (a1.size + 1) (fun kq v5 w' => ∃ (pos n : Nat), kq + pos = a1.size + 1 ∧ pos ≤ a1.size ∧ Aside0 ((a1.data.toList.drop pos).all (fun b => decide (48 ≤ (b.toNat : Int) ∧ (b.toNat : Int) < 48 + a0_1)) = r) ∧ Aside0 (w' = ((w.alloc (.cells #[.int .i64 a0_0, .int .i64 a0_1] 23)).drewN n).iter a1 pos))
    case atStart => exact ⟨0, 0, rfl, Nat.zero_le _, ⟨H.out⟩, ⟨rfl⟩⟩
    case round =>
      obtain ⟨pos, n, hk, hp, HA, HW⟩ := hrel
      obtain rfl := HW.out
      have HWc := Aside0.mk (show ((w.alloc (.cells #[.int .i64 a0_0, .int .i64 a0_1] 23)).drewN n).heap.size = w.heap.size + 1 from by rw [spec_riText.drewN_heap]; show (w.heap.push _).size = _; simp)
      clear HW
      obtain ⟨wb, Hwb⟩ : ∃ wb, wb = (w.alloc (.cells #[.int .i64 a0_0, .int .i64 a0_1] 23)).drewN n := ⟨_, rfl⟩
      rw [← Hwb] at HWc ⊢
      have HWB := Aside0.mk Hwb
      clear Hwb
      have Hbel : Aside0 (∀ p m, Below w.heap.size w ((wb.iter a1 p).drewN m)) := ⟨fun p m => by
        rw [HWB.out]
        exact pw_below_drewN (below_alloc (pw_below_drewN (below_alloc (Below.refl _ _) _) _) _) _⟩
      have Hcell : Aside0 (∀ p, (wb.iter a1 p).cell? ⟨w.heap.size, 1, none⟩ = some (.int .i64 a0_1)) := ⟨fun p => by
        have b : (w.alloc (.cells #[.int .i64 a0_0, .int .i64 a0_1] 23)).heap[w.heap.size]? = some (.cells #[.int .i64 a0_0, .int .i64 a0_1] 23 (0, 0)) := by
          show (w.heap.push _)[w.heap.size]? = _; simp
        have b2 : wb.heap[w.heap.size]? = some (.cells #[.int .i64 a0_0, .int .i64 a0_1] 23 (0, 0)) := by rw [HWB.out]; exact blk_drewN b _
        have b3 : (wb.iter a1 p).heap[w.heap.size]? = some (.cells #[.int .i64 a0_0, .int .i64 a0_1] 23 (0, 0)) := blk_alloc b2 _
        exact (blk_cell b3 1).trans rfl⟩
      by_cases hlt : pos < a1.size
      · have hnx0 := fun ty => run_next_any (P := Tryz.prog) wb a1 pos ty hlt
        have hl' : pos < a1.data.toList.length := by rw [Array.length_toList]; exact hlt
        have hbt : bt a1 (pos : Int) = ((a1.data.toList[pos]).toNat : Int) := by
          unfold bt
          rw [dif_pos (by rw [Int.toNat_natCast]; exact hlt)]
          simp only [Int.toNat_natCast, Array.getElem_toList]; rfl
        have hbb : bt a1 (pos : Int) < 256 ∧ 0 ≤ bt a1 (pos : Int) := by
          have := UInt8.toNat_lt (a1.data.toList[pos]); rw [hbt]; omega
        have hall : (a1.data.toList.drop pos).all (fun b => decide (48 ≤ (b.toNat : Int) ∧ (b.toNat : Int) < 48 + a0_1)) = (decide (48 ≤ bt a1 (pos : Int) ∧ bt a1 (pos : Int) < 48 + a0_1) && (a1.data.toList.drop (pos + 1)).all (fun b => decide (48 ≤ (b.toNat : Int) ∧ (b.toNat : Int) < 48 + a0_1))) := by
          rw [List.drop_eq_getElem_cons hl', List.all_cons, hbt]
        have hasc : bt a1 (pos : Int) < 128 → (Utf8.decode a1 pos).2 = 1 := fun hb => by
          have ha : (a1[pos]'hlt).toNat < 128 := by
            have e : bt a1 (pos : Int) = ((a1[pos]'hlt).toNat : Int) := by rw [hbt]; rfl
            omega
          rw [decode_ascii a1 pos hlt ha]
        rw [HWc.out] at hnx0
        obtain ⟨W0, HW0⟩ : ∃ W0, W0 = wb.iter a1 pos := ⟨_, rfl⟩
        obtain ⟨W2, HW2⟩ : ∃ W2, W2 = wb.iter a1 (pos + (Utf8.decode a1 pos).2) := ⟨_, rfl⟩
        obtain ⟨ru, Hru⟩ : ∃ ru, ru = (Utf8.decode a1 pos).1 := ⟨_, rfl⟩
        obtain ⟨x, Hx⟩ : ∃ x : Int, x = (pos : Int) := ⟨_, rfl⟩
        rw [← HW0, ← HW2, ← Hru, ← Hx] at hnx0
        rw [← HW0]
        rw [← Hx] at hbt hall hasc hbb
        have hcz := Hcell.out (pos + (Utf8.decode a1 pos).2)
        rw [← HW2] at hcz
        have HB2 : Aside0 (∀ m, Below w.heap.size w (W2.drewN m)) := ⟨fun m => by rw [HW2]; exact Hbel.out _ m⟩
        have hx0 : 0 ≤ x := by rw [Hx]; exact Int.natCast_nonneg _
        have hx1 : x < (a1.size : Int) := by rw [Hx]; exact Int.ofNat_lt.mpr hlt
        have hxb := bt_at a1 x
        replace hx0 := eq_true hx0
        replace hx1 := eq_true hx1
        have HX := Aside0.mk Hx; have HR := Aside0.mk Hru; have HW0' := Aside0.mk HW0; have HW2' := Aside0.mk HW2; have HALL := Aside0.mk hall; have HASC := Aside0.mk hasc; have HBB := Aside0.mk hbb; have HLT := Aside0.mk hlt; have HK := Aside0.mk hk; have HP := Aside0.mk hp
        clear Hx Hru HW0 HW2 hall hasc hbb hbt hl' hlt hk hp
        have ew1 : wrap64 (bt a1 x) = bt a1 x := by have := HBB.out; unfold wrap64; omega
        have ew2 : wrap64 (bt a1 x - 48) = bt a1 x - 48 := by have := HBB.out; unfold wrap64; omega
        have ew3 : wrap64 (a0_1 - 1) = a0_1 - 1 := by have := HDD.out; unfold wrap64; omega
        have EW := Aside0.mk (And.intro ew1 (And.intro ew2 ew3))
        clear ew1 ew2 ew3
        by_cases hd : 48 ≤ bt a1 x ∧ bt a1 x < 48 + a0_1
        · have A9 : Aside0 (spec_l1In.f (wrap64 ((wrap64 (bt a1 x)) - 48)) 0 (wrap64 (a0_1 - 1)) = some true) := ⟨by
            obtain ⟨e1, e2, e3⟩ := EW.out
            rw [e1, e2, e3]; unfold spec_l1In.f; rw [if_pos (by omega)]; congr 1; exact decide_eq_true (by omega)⟩
          have HD := Aside0.mk hd
          clear hd
          go_wp2_with (first | (go_at_call 73; (with_reducible refine (spec_l1In.calls (wrap64 ((wrap64 (bt a1 x)) - 48)) 0 (wrap64 (a0_1 - 1)) true _ A9.out).mono ?_); rintro e w' ⟨rfl, ⟨nd, rfl⟩⟩; (try first | exact ⟨rfl, _, World.drewN_drewN _ _ _⟩ | exact ⟨rfl, _, Eq.trans (World.drewN_drewN _ _ _) (congrArg (World.drewN _) (Nat.add_assoc _ _ _))⟩)))
          repeat (go_quiet (first | (go_at_call 73; (with_reducible refine (spec_l1In.calls (wrap64 ((wrap64 (bt a1 x)) - 48)) 0 (wrap64 (a0_1 - 1)) true _ A9.out).mono ?_); rintro e w' ⟨rfl, ⟨nd, rfl⟩⟩; (try first | exact ⟨rfl, _, World.drewN_drewN _ _ _⟩ | exact ⟨rfl, _, Eq.trans (World.drewN_drewN _ _ _) (congrArg (World.drewN _) (Nat.add_assoc _ _ _))⟩))); try go_wp2)
          obtain ⟨k1, hk1⟩ : ∃ k1, gk = k1 + 1 := ⟨gk - 1, by have := HK.out; have := HLT.out; omega⟩
          subst hk1
          go_roundg k1
          case measure => omega
          case rel =>
            have h1 : (Utf8.decode a1 pos).2 = 1 := HASC.out (by have := HD.out; have := HDD.out; omega)
            refine ⟨pos + 1, n + nq, by have := HK.out; omega, HLT.out, ⟨?_⟩, ⟨?_⟩⟩
            · have := HALL.out
              rw [HA.out, decide_eq_true HD.out, Bool.true_and] at this
              exact this.symm
            · rw [HW2'.out, h1, spec_riText.iter_drewN, HWB.out, World.drewN_drewN]
        · have A9 : Aside0 (spec_l1In.f (wrap64 ((wrap64 (bt a1 x)) - 48)) 0 (wrap64 (a0_1 - 1)) = some false) := ⟨by
            obtain ⟨e1, e2, e3⟩ := EW.out
            rw [e1, e2, e3]; unfold spec_l1In.f
            by_cases q : bt a1 x - 48 ≥ 0
            · rw [if_pos q]; congr 1; exact decide_eq_false (by omega)
            · rw [if_neg q]⟩
          have hr : r = false := by
            have := HALL.out
            rw [HA.out, decide_eq_false hd, Bool.false_and] at this
            exact this
          clear HA HALL
          subst hr
          clear hd
          go_wp2_with (first | (go_at_call 73; (with_reducible refine (spec_l1In.calls (wrap64 ((wrap64 (bt a1 x)) - 48)) 0 (wrap64 (a0_1 - 1)) false _ A9.out).mono ?_); rintro e w' ⟨rfl, ⟨nd, rfl⟩⟩; (try first | exact ⟨rfl, _, World.drewN_drewN _ _ _⟩ | exact ⟨rfl, _, Eq.trans (World.drewN_drewN _ _ _) (congrArg (World.drewN _) (Nat.add_assoc _ _ _))⟩)))
          repeat (go_quiet (first | (go_at_call 73; (with_reducible refine (spec_l1In.calls (wrap64 ((wrap64 (bt a1 x)) - 48)) 0 (wrap64 (a0_1 - 1)) false _ A9.out).mono ?_); rintro e w' ⟨rfl, ⟨nd, rfl⟩⟩; (try first | exact ⟨rfl, _, World.drewN_drewN _ _ _⟩ | exact ⟨rfl, _, Eq.trans (World.drewN_drewN _ _ _) (congrArg (World.drewN _) (Nat.add_assoc _ _ _))⟩))); try go_wp2)
          go_ret
          exact ⟨rfl, HB2.out _⟩
      · have hnx0 := fun ty => run_next_end (P := Tryz.prog) wb a1 pos ty hlt
        rw [HWc.out] at hnx0
        have hr : r = true := by
          rw [← HA.out, List.drop_of_length_le (by rw [Array.length_toList]; exact Nat.le_of_not_lt hlt)]; rfl
        clear HA
        subst hr
        obtain ⟨W0, HW0⟩ : ∃ W0, W0 = wb.iter a1 pos := ⟨_, rfl⟩
        rw [← HW0] at hnx0 ⊢
        have hB : Below w.heap.size w W0 := by have := Hbel.out pos 0; rw [HW0]; exact this
        have HB := Aside0.mk hB
        clear HW0 hB hlt
        go_wp2
        go_ret
        exact ⟨rfl, HB.out⟩
  · rw [if_neg hD] at h; exact absurd h (by simp)


/-! ### spec_whNumber: function 101 -/
def spec_whNumber.l0 : Nat → Int → List Int → Int → Int → Int → Int → Option (Int)
  | 0, _, _, _, _, _, _ => none
  | k + 1, x5, x9, x10, x11, x433000, x433001 => if x11 < x10 then (if 0 ≤ x11 then (if x11 < (x9.length : Int) then (spec_whNumber.l0 k (wrap64 ((wrap64 (x5 * x433001)) + (rd x9 x11))) x9 x10 (wrap64 (x11 + 1)) x433000 x433001) else (none)) else (none)) else (some x5)
def spec_whNumber.f (k : Nat) (a0_0 : Int) (a0_1 : Int) (a1 : ByteArray) : Option (Int) := (spec_whDigits.f k a1).bind fun t433 => (spec_whNumber.l0 k 0 t433 (t433.length : Int) 0 a0_0 a0_1)
theorem spec_whNumber.mono_l : ∀ k, (∀ y0 y1 y2 y3 y4 y5, LeO (spec_whNumber.l0 k y0 y1 y2 y3 y4 y5) (spec_whNumber.l0 (k + 1) y0 y1 y2 y3 y4 y5))
  | 0 => fun _ _ _ _ _ _ r h => by simp [spec_whNumber.l0] at h
  | k + 1 => by
    have ih0 := spec_whNumber.mono_l k
    · intro y0 y1 y2 y3 y4 y5
      unfold spec_whNumber.l0
      repeat' first
      | (with_reducible exact ih0 _ _ _ _ _ _)
      | (with_reducible exact spec_whDigits.mono _ _)
      | (with_reducible exact LeO.refl _)
      | (with_reducible exact LeO.none _)
      | (with_reducible refine LeO.ite ?_ ?_)
      | (with_reducible refine LeO.bind ?_ (fun _ => ?_))
      | exact ih0 _ _ _ _ _ _
      | exact spec_whDigits.mono _ _
      | exact LeO.none _
      | refine LeO.ite ?_ ?_
      | refine LeO.bind ?_ (fun _ => ?_)
theorem spec_whNumber.mono : ∀ a0 a1 a2 k, LeO (spec_whNumber.f k a0 a1 a2) (spec_whNumber.f (k + 1) a0 a1 a2) := by
  intro a0 a1 a2 k
  have ih0 := spec_whNumber.mono_l k
  unfold spec_whNumber.f
  repeat' first
      | (with_reducible exact ih0 _ _ _ _ _ _)
      | (with_reducible exact spec_whDigits.mono _ _)
      | (with_reducible exact LeO.refl _)
      | (with_reducible exact LeO.none _)
      | (with_reducible refine LeO.ite ?_ ?_)
      | (with_reducible refine LeO.bind ?_ (fun _ => ?_))
      | exact ih0 _ _ _ _ _ _
      | exact spec_whDigits.mono _ _
      | exact LeO.none _
      | refine LeO.ite ?_ ?_
      | refine LeO.bind ?_ (fun _ => ?_)
set_option maxHeartbeats 8000000 in
set_option maxRecDepth 100000 in
theorem spec_whNumber.calls (k : Nat) (a0_0 : Int) (a0_1 : Int) (a1 : ByteArray) (r : Int) (w : World) (h : spec_whNumber.f k a0_0 a0_1 a1 = some r) :
    Calls Tryz.prog 101 #[.agg #[.int .i64 a0_0, .int .i64 a0_1], .string a1] w fun e w' => e = .returned (.int .i64 r) ∧ Below w.heap.size w w' := by
  have hu23 := Tryz.underlying23
  have HB := Aside0.mk (Below.refl w.heap.size w)
  have H : ((spec_whDigits.f k a1).bind fun t433 => (spec_whNumber.l0 k 0 t433 (t433.length : Int) 0 a0_0 a0_1)) = some r := h
  clear h
  replace H := Option.bind_eq_some_iff.mp H
  obtain ⟨t433, A30, H⟩ := H
  try dsimp only at H
  have A3 := Aside0.mk A30
  clear A30
  have H' := Aside0.mk H
  clear H
  go_enter Tryz.func101, Tryz.ntmps101
  go_wp2_with (first | ((with_reducible refine gate_dst (N := 2) rfl ?_); refine box_event ?hg (N := 2) ?hd (cs := #[.int .i64 a0_0, .int .i64 a0_1]) (t := 23) ?hr ?_; (case hd => rfl); (case hg => rfl); (case hr => first | (go_simp; done) | (go_simp; rfl)); intro gb432 hg w4 hbox hb; have n0_ := bsx hb HB; have n1_ := Aside0.mk (hbox); have n2_ := gwx hg HB; have n3_ := n2_; clear HB; have HB := n0_; have BK432 := n1_; have GW432 := n2_; have GE432 := n3_; clear n0_ n1_ n2_ n3_; clear hb hbox hg) | ((with_reducible refine gate_callee (f := 56) rfl ?_); refine goesL_ (some 9) rfl rfl Tryz.func56 (by kernel_rfl) rfl #[.string a1] rfl (by (try simp only [m_1, m_2, m_3]); first | done | rfl | (simp only [m_4, m_5]; rfl)) ?_; (with_reducible refine (spec_whDigits.calls k a1 t433 _ A3.out).mono ?_); rintro e w5 ⟨v434, rfl, ho0, hb⟩; refine ⟨_, rfl, ?_⟩; have n0_ := Aside0.mk (Kd.R_lower ho0 (below_size (bB HB))); replace BK432 := bbx hb BK432; have n2_ := bsx hb HB; clear HB; have HO435 := n0_; have HB := n2_; clear n0_ n2_; (try clear hb); (try clear hb2); (try clear hk); (try clear hi); (try clear ho0); obtain ⟨Ao6, co6, eo6⟩ := Kd.R_slice HO435.out; subst eo6))
  go_loopg [5, 11] k (fun kq v5 v11 w' => ∃ (x5_1 : Int) (x11_1 : Int), v5 = .int .i64 x5_1 ∧ v11 = .int .i64 x11_1 ∧ Aside0 (spec_whNumber.l0 kq x5_1 t433 (t433.length : Int) x11_1 a0_0 a0_1 = some r) ∧ Aside0 (kq ≤ k) ∧ Aside0 (Kd.R (Kd.int .i64) 3 w' w.heap.size (fun _ => True) (.slice Ao6 t433.length co6) t433) ∧ Aside0 (w'.heap[gb432]? = some (.cells #[.int .i64 a0_0, .int .i64 a0_1] 23 (0, 0))) ∧ Aside0 (Below w.heap.size w w'))
  case atStart => refine ⟨(0), (0), (by first | rfl | (simp; done) | (simp [*]; done)), (by first | rfl | (simp; done) | (simp [*]; done)), H', ⟨Nat.le_refl _⟩, ⟨?_⟩, ⟨?_⟩, ⟨bB HB⟩⟩ <;> (with_reducible repeat (first | refine g_d ?_ _ | refine g_e ?_ | refine g_a ?_ _ | apply r_a | apply r_d | apply r_e)) <;> first | exact BK432.out | exact HO435.out
  clear H'
  obtain ⟨x5_1, x11_1, rfl, rfl, HA, HK1, HO_9, BK432, HB⟩ := hrel
  rcases gk with _ | k1
  · exact absurd HA.out (by simp [spec_whNumber.l0])
  have H := HA.out
  clear HA
  simp only [spec_whNumber.l0] at H
  by_cases c7 : x11_1 < (t433.length : Int)
  rotate_left
  · rw [if_neg c7] at H
    have c7b0 : decide (x11_1 < (t433.length : Int)) = false := decide_eq_false c7
    clear c7
    obtain rfl := Option.some.inj H
    go_wp2
    go_ret
    exact ⟨by first | rfl | (simp [errW_none, errW_some] <;> rfl) | (simp [*, errW_none, errW_some] <;> rfl), bB HB⟩

  rw [if_pos c7] at H
  have c7b0 : decide (x11_1 < (t433.length : Int)) = true := decide_eq_true c7
  clear c7
  by_cases c8 : 0 ≤ x11_1
  rotate_left
  · rw [if_neg c8] at H
    exact absurd H (by simp)
  rw [if_pos c8] at H
  have c8b0 : decide (0 ≤ x11_1) = true := decide_eq_true c8
  clear c8
  by_cases c9 : x11_1 < (t433.length : Int)
  rotate_left
  · rw [if_neg c9] at H
    exact absurd H (by simp)
  rw [if_pos c9] at H
  have c9b0 : decide (x11_1 < (t433.length : Int)) = true := decide_eq_true c9
  clear c9
  have H' := Aside0.mk H
  clear H
  have p436 : 0 ≤ (x11_1 : Int) := of_decide_eq_true (by first | (with_reducible assumption) | assumption)
  have q436 : x11_1 < (t433.length : Int) := of_decide_eq_true (by first | (with_reducible assumption) | assumption)
  obtain ⟨ad436, e436, hx436_0⟩ := Kd.at_int (Kd.R_reads' HO_9.out).2.2 x11_1 p436 q436
  cases e436
  replace p436 := eq_true p436
  replace q436 := eq_true q436
  have hcz10_0 := cz0 BK432
  have hcz10_1 := cz1 BK432
  have hfz10_0 := blk_frozen BK432.out 0
  have hfz10_1 := blk_frozen BK432.out 1
  go_wp2
  go_roundg k1
  case measure => have := HK1.out; omega
  case rel => refine ⟨(wrap64 ((wrap64 (x5_1 * a0_1)) + (rd t433 x11_1))), (wrap64 (x11_1 + 1)), (by first | rfl | (simp; done) | (simp [*]; done)), (by first | rfl | (simp; done) | (simp [*]; done)), H', ⟨by have := HK1.out; omega⟩, ⟨?_⟩, ⟨?_⟩, ⟨bB HB⟩⟩ <;> (with_reducible repeat (first | refine g_d ?_ _ | refine g_e ?_ | refine g_a ?_ _ | apply r_a | apply r_d | apply r_e)) <;> first | exact BK432.out | exact HO_9.out
/-! ### spec_riSeen: function 76 -/
def spec_riSeen.l0 : Nat → List Bool → List ByteArray → Int → Int → Int → Int → Option (List Bool)
  | 0, _, _, _, _, _, _ => none
  | k + 1, x5, x11, x12, x13, x438000, x438001 => if x13 < x12 then (if 0 ≤ x13 then (if x13 < (x11.length : Int) then ((spec_whNumber.f k x438000 x438001 (rdOf ByteArray.empty x11 x13)).bind fun t443 => (if 0 ≤ t443 then (if t443 < (x5.length : Int) then (spec_riSeen.l0 k (x5.set (t443 : Int).toNat true) x11 x12 (wrap64 (x13 + 1)) x438000 x438001) else (none)) else (none))) else (none)) else (none)) else (some x5)
def spec_riSeen.f (k : Nat) (a0_0 : Int) (a0_1 : Int) (l1 : List ByteArray) : Option (List Bool) := (spec_whCount.f k a0_0 a0_1).bind fun t438 => (if 0 ≤ t438 then (if (t438 : Int).toNat ≤ 281474976710656 then (spec_riSeen.l0 k (List.replicate (t438 : Int).toNat false) l1 (l1.length : Int) 0 a0_0 a0_1) else (none)) else (none))
theorem spec_riSeen.mono_l : ∀ k, (∀ y0 y1 y2 y3 y4 y5, LeO (spec_riSeen.l0 k y0 y1 y2 y3 y4 y5) (spec_riSeen.l0 (k + 1) y0 y1 y2 y3 y4 y5))
  | 0 => fun _ _ _ _ _ _ r h => by simp [spec_riSeen.l0] at h
  | k + 1 => by
    have ih0 := spec_riSeen.mono_l k
    · intro y0 y1 y2 y3 y4 y5
      unfold spec_riSeen.l0
      repeat' first
      | (with_reducible exact ih0 _ _ _ _ _ _)
      | (with_reducible exact spec_whCount.mono _ _ _)
      | (with_reducible exact spec_whNumber.mono _ _ _ _)
      | (with_reducible exact LeO.refl _)
      | (with_reducible exact LeO.none _)
      | (with_reducible refine LeO.ite ?_ ?_)
      | (with_reducible refine LeO.bind ?_ (fun _ => ?_))
      | exact ih0 _ _ _ _ _ _
      | exact spec_whCount.mono _ _ _
      | exact spec_whNumber.mono _ _ _ _
      | exact LeO.none _
      | refine LeO.ite ?_ ?_
      | refine LeO.bind ?_ (fun _ => ?_)
theorem spec_riSeen.mono : ∀ a0 a1 a2 k, LeO (spec_riSeen.f k a0 a1 a2) (spec_riSeen.f (k + 1) a0 a1 a2) := by
  intro a0 a1 a2 k
  have ih0 := spec_riSeen.mono_l k
  unfold spec_riSeen.f
  repeat' first
      | (with_reducible exact ih0 _ _ _ _ _ _)
      | (with_reducible exact spec_whCount.mono _ _ _)
      | (with_reducible exact spec_whNumber.mono _ _ _ _)
      | (with_reducible exact LeO.refl _)
      | (with_reducible exact LeO.none _)
      | (with_reducible refine LeO.ite ?_ ?_)
      | (with_reducible refine LeO.bind ?_ (fun _ => ?_))
      | exact ih0 _ _ _ _ _ _
      | exact spec_whCount.mono _ _ _
      | exact spec_whNumber.mono _ _ _ _
      | exact LeO.none _
      | refine LeO.ite ?_ ?_
      | refine LeO.bind ?_ (fun _ => ?_)
set_option maxHeartbeats 8000000 in
set_option maxRecDepth 100000 in
theorem spec_riSeen.calls (k : Nat) (a0_0 : Int) (a0_1 : Int) (A1 : Option Addr) (c1 : Nat) (l1 : List ByteArray) (r : List Bool) (w : World) (hr1 : Kd.C Kd.string w A1 l1.length l1) (hc1 : l1.length ≤ c1) (h : spec_riSeen.f k a0_0 a0_1 l1 = some r) :
    Calls Tryz.prog 76 #[.agg #[.int .i64 a0_0, .int .i64 a0_1], .slice A1 l1.length c1] w fun e w' => ∃ v0_ : Value, e = .returned (v0_) ∧ Kd.R Kd.bool 4 w' w.heap.size (fun _ => True) v0_ r ∧ Below w.heap.size w w' := by
  have hu23 := Tryz.underlying23
  have HR1 := Aside0.mk hr1
  have HC1 := Aside0.mk hc1
  clear hr1 hc1
  have HB := Aside0.mk (Below.refl w.heap.size w)
  have H : ((spec_whCount.f k a0_0 a0_1).bind fun t438 => (if 0 ≤ t438 then (if (t438 : Int).toNat ≤ 281474976710656 then (spec_riSeen.l0 k (List.replicate (t438 : Int).toNat false) l1 (l1.length : Int) 0 a0_0 a0_1) else (none)) else (none))) = some r := h
  clear h
  replace H := Option.bind_eq_some_iff.mp H
  obtain ⟨t438, A30, H⟩ := H
  try dsimp only at H
  have A3 := Aside0.mk A30
  clear A30
  by_cases c4 : 0 ≤ t438
  rotate_left
  · rw [if_neg c4] at H
    exact absurd H (by simp)

  rw [if_pos c4] at H
  have c4b0 := eq_true c4
  have c4b1 : decide (0 ≤ t438) = true := decide_eq_true c4
  clear c4
  by_cases c5 : (t438 : Int).toNat ≤ 281474976710656
  rotate_left
  · rw [if_neg c5] at H
    exact absurd H (by simp)
  rw [if_pos c5] at H
  have c5b0 := eq_true c5
  have c5b1 : decide ((t438 : Int).toNat ≤ 281474976710656) = true := decide_eq_true c5
  clear c5
  obtain ⟨y439, hy439⟩ : ∃ y_ : List Bool, y_ = (List.replicate (t438 : Int).toNat false) := ⟨_, rfl⟩
  replace H : (spec_riSeen.l0 k y439 l1 (l1.length : Int) 0 a0_0 a0_1) = some r := by first | (rw [hy439]; with_reducible exact H) | (have H2_ := (Option.bind_some _ _).symm.trans H; rw [hy439]; with_reducible exact H2_) | (have H2_ := (Option.bind_some _ _).symm.trans H; with_reducible exact H2_) | with_reducible exact H | (rw [hy439]; exact H) | exact H
  have Ny439 := Aside0.mk hy439
  clear hy439
  have H' := Aside0.mk H
  clear H
  go_enter Tryz.func76, Tryz.ntmps76
  go_wp2_with (first | ((with_reducible refine gate_dst (N := 2) rfl ?_); refine box_event ?hg (N := 2) ?hd (cs := #[.int .i64 a0_0, .int .i64 a0_1]) (t := 23) ?hr ?_; (case hd => rfl); (case hg => rfl); (case hr => first | (go_simp; done) | (go_simp; rfl)); intro gb437 hg w6 hbox hb; have n0_ := bsx hb HB; have n1_ := Aside0.mk (hbox); have n2_ := gwx hg HB; have n3_ := n2_; clear HB; have HB := n0_; have BK437 := n1_; have GW437 := n2_; have GE437 := n3_; clear n0_ n1_ n2_ n3_; clear hb hbox hg; have hcz7_0 := cz0 BK437; have hcz7_1 := cz1 BK437; have hfz7_0 := blk_frozen BK437.out 0; have hfz7_1 := blk_frozen BK437.out 1) | ((with_reducible refine gate_callee (f := 63) rfl ?_); refine goesL_ (some 9) rfl rfl Tryz.func63 (by kernel_rfl) rfl #[.agg #[.int .i64 a0_0, .int .i64 a0_1]] rfl (by (try simp only [m_1, m_2, m_3]); first | done | rfl | (simp only [m_4, m_5]; rfl)) ?_; (with_reducible refine (spec_whCount.calls k a0_0 a0_1 t438 _ A3.out).mono ?_); rintro e w8 ⟨rfl, hb⟩; refine ⟨_, rfl, ?_⟩; replace BK437 := bbx hb BK437; replace HB := bsx hb HB; skip; (try clear hb); (try clear hb2); (try clear hk); (try clear hi)) | ((with_reducible refine gate_dst (N := 10) rfl ?_); refine Kd.R_make Kd.bool _ 4 rfl (N := 10) rfl 72 _ _ rfl t438 rfl rfl Tryz.underlying72 (.bool false) 1 info4 rfl (by decide) (by omega) false (ok := fun _ => True) (okp := fun _ => True) rfl (fun _ hk => hk) trivial (of_decide_eq_true (by first | (with_reducible assumption) | assumption)) (Nat.le_trans (Nat.mul_le_mul_right _ (of_decide_eq_true (by first | (with_reducible assumption) | assumption) : t438.toNat ≤ 281474976710656)) (by omega)) (Below.refl _ _) (Nat.le_refl _) ?_; intro v440 w9 ho10 hb hg_ hnew_; clear hg_ hnew_; (first | rw [← Ny439.out] at ho10 | (simp only [Int.reduceToNat] at ho10; rw [← Ny439.out] at ho10)); have n0_ := Aside0.mk (Kd.R_lower ho10 (below_size (bB HB))); replace BK437 := bbx hb BK437; have n2_ := bsx hb HB; clear HB; have HO441 := n0_; have HB := n2_; clear n0_ n2_; clear hb ho10))
  go_loopg [13] k (fun kq v13 w' => ∃ (x5_1 : List Bool) (x13_1 : Int), v13 = .int .i64 x13_1 ∧ Aside0 (spec_riSeen.l0 kq x5_1 l1 (l1.length : Int) x13_1 a0_0 a0_1 = some r) ∧ Aside0 (kq ≤ k) ∧ Aside0 (Kd.R Kd.bool 4 w' w.heap.size (fun _ => True) v440 x5_1) ∧ Aside0 (w'.heap[gb437]? = some (.cells #[.int .i64 a0_0, .int .i64 a0_1] 23 (0, 0))) ∧ Aside0 (Below w.heap.size w w'))
  case atStart => refine ⟨(y439), (0), (by first | rfl | (simp; done) | (simp [*]; done)), H', ⟨Nat.le_refl _⟩, ⟨?_⟩, ⟨?_⟩, ⟨bB HB⟩⟩ <;> (with_reducible repeat (first | refine g_d ?_ _ | refine g_e ?_ | refine g_a ?_ _ | apply r_a | apply r_d | apply r_e)) <;> first | exact BK437.out | exact HO441.out
  clear H'
  try clear c1
  try clear c4
  try clear c4b0
  try clear c4b1
  try clear c5
  try clear c5b0
  try clear c5b1
  try clear hcz7_0
  try clear hcz7_1
  try clear hfz7_0
  try clear hfz7_1
  obtain ⟨x5_1, x13_1, rfl, HA, HK1, HO_5, BK437, HB⟩ := hrel
  rcases gk with _ | k1
  · exact absurd HA.out (by simp [spec_riSeen.l0])
  have H := HA.out
  clear HA
  simp only [spec_riSeen.l0] at H
  by_cases c11 : x13_1 < (l1.length : Int)
  rotate_left
  · rw [if_neg c11] at H
    have c11b0 : decide (x13_1 < (l1.length : Int)) = false := decide_eq_false c11
    clear c11
    obtain rfl := Option.some.inj H
    go_wp2
    go_ret
    exact ⟨_, by first | rfl | (simp [errW_none, errW_some] <;> rfl) | (simp [*, errW_none, errW_some] <;> rfl), by (with_reducible repeat (first | apply r_a | apply r_d | apply r_e)); exact HO_5.out, bB HB⟩
  rw [if_pos c11] at H
  have c11b0 : decide (x13_1 < (l1.length : Int)) = true := decide_eq_true c11
  clear c11
  by_cases c12 : 0 ≤ x13_1
  rotate_left
  · rw [if_neg c12] at H
    exact absurd H (by simp)
  rw [if_pos c12] at H
  have c12b0 : decide (0 ≤ x13_1) = true := decide_eq_true c12
  clear c12
  by_cases c13 : x13_1 < (l1.length : Int)
  rotate_left
  · rw [if_neg c13] at H
    exact absurd H (by simp)
  rw [if_pos c13] at H
  have c13b0 : decide (x13_1 < (l1.length : Int)) = true := decide_eq_true c13
  clear c13
  replace H := Option.bind_eq_some_iff.mp H
  obtain ⟨t443, A140, H⟩ := H
  try dsimp only at H
  have A14 := Aside0.mk A140
  clear A140
  by_cases c15 : 0 ≤ t443
  rotate_left
  · rw [if_neg c15] at H
    exact absurd H (by simp)
  rw [if_pos c15] at H
  have c15b0 : decide (0 ≤ t443) = true := decide_eq_true c15
  clear c15
  by_cases c16 : t443 < (x5_1.length : Int)
  rotate_left
  · rw [if_neg c16] at H
    exact absurd H (by simp)
  rw [if_pos c16] at H
  have c16b0 : decide (t443 < (x5_1.length : Int)) = true := decide_eq_true c16
  clear c16
  obtain ⟨y444, hy444⟩ : ∃ y_ : List Bool, y_ = (x5_1.set (t443 : Int).toNat true) := ⟨_, rfl⟩
  replace H : (spec_riSeen.l0 k1 y444 l1 (l1.length : Int) (wrap64 (x13_1 + 1)) a0_0 a0_1) = some r := by first | (rw [hy444]; with_reducible exact H) | (have H2_ := (Option.bind_some _ _).symm.trans H; rw [hy444]; with_reducible exact H2_) | (have H2_ := (Option.bind_some _ _).symm.trans H; with_reducible exact H2_) | with_reducible exact H | (rw [hy444]; exact H) | exact H
  have Ny444 := Aside0.mk hy444
  clear hy444
  have H' := Aside0.mk H
  clear H
  have p442 : 0 ≤ (x13_1 : Int) := of_decide_eq_true (by first | (with_reducible assumption) | assumption)
  have q442 : x13_1 < (l1.length : Int) := of_decide_eq_true (by first | (with_reducible assumption) | assumption)
  obtain ⟨ad442, e442, hx442_0⟩ := Kd.at_string HR1.out x13_1 p442 q442
  cases e442
  replace hx442_0 := (HB.out.cell (World.block_lt_of_cell? w _ hx442_0)).trans hx442_0
  replace p442 := eq_true p442
  replace q442 := eq_true q442
  have hcz18_0 := cz0 BK437
  have hcz18_1 := cz1 BK437
  have hfz18_0 := blk_frozen BK437.out 0
  have hfz18_1 := blk_frozen BK437.out 1
  go_wp2_with (first | ((with_reducible refine gate_callee (f := 101) rfl ?_); refine goesL_ (some 20) rfl rfl Tryz.func101 (by kernel_rfl) rfl #[.agg #[.int .i64 a0_0, .int .i64 a0_1], .string (rdOf ByteArray.empty l1 x13_1)] rfl (by (try simp only [m_1, m_2, m_3]); first | done | rfl | (simp only [m_4, m_5]; rfl)) ?_; (with_reducible refine (spec_whNumber.calls k1 a0_0 a0_1 (rdOf ByteArray.empty l1 x13_1) t443 _ A14.out).mono ?_); rintro e w19 ⟨rfl, hb⟩; refine ⟨_, rfl, ?_⟩; have n0_ := Aside0.mk (Kd.R_below (by (with_reducible repeat (first | apply r_a | apply r_d | apply r_e)); exact HO_5.out) hb); replace BK437 := bbx hb BK437; replace HB := bsx hb HB; clear HO_5; have HO_5 := n0_; clear n0_; (try clear hb); (try clear hb2); (try clear hk); (try clear hi); have p17 : 0 ≤ (t443 : Int) := of_decide_eq_true (by first | (with_reducible assumption) | assumption); have q17 : (t443 : Int) < ((x5_1.length : Int) : Int) := of_decide_eq_true (by first | (with_reducible assumption) | assumption); obtain ⟨go17, co17, eo17, gb17, gl17, cl17, HG17⟩ := Kd.R_form HO_5.out (by omega); (first | cases eo17 | (injection eo17 with ea_ en_ ec_; (first | subst ea_ | (injection ea_ with ea_; subst ea_)); subst ec_; clear en_)); have GB17 := Aside0.mk gb17; have GG17 := Aside0.mk HG17; clear gb17 gl17 HG17; obtain ⟨hx17_0, hf17_0⟩ := Kd.R_celln false HO_5.out (t443 : Int) p17 q17; replace p17 := eq_true p17; replace q17 := eq_true q17; obtain ⟨hy20_, hz20_⟩ := Kd.R_celln false HO_5.out (t443 : Int) (of_decide_eq_true (by first | (with_reducible assumption) | assumption)) (of_decide_eq_true (by first | (with_reducible assumption) | assumption)); have HP20 := Kd.R_putg HO_5.out (t443 : Int) true) | ((with_reducible refine gate_store (t := 4) (p := 21) rfl ?_); refine store_event (t := 4) (p := 21) (v := ?vo_w21) (w1 := (w19.setCell ⟨go17, (t443 : Int).toNat, none⟩ (.bool true))) ?hg ?ho ?hn ?hr ?_; (case ho => rfl); (case hg => rfl); (case hn => rfl); (case hr => first | (go_simp; done) | (go_simp; rfl)); intro w21 hw; have hg : w19.grownBy w21 (some go17) := (by rw [hw]; exact HP20.2); have hp_ : Kd.R Kd.bool 4 w21 w.heap.size (fun _ => True) (.slice (some ⟨go17, 0, none⟩) x5_1.length co17) y444 := (by rw [hw, Ny444.out]; exact HP20.1); clear HP20; have n0_ := Aside0.mk (hp_); have n1_ := Aside0.mk (blk_grown (g := gb437) (o := .cells #[.int .i64 a0_0, .int .i64 a0_1] 23 (0, 0)) (bK BK437) hg (Kd.R_ne HO_5.out BK437.out (by decide))); have n2_ := Aside0.mk ((by rw [hw]; exact b_s (HB.out) GB17.out : Below w.heap.size w w21)); clear HO_5; clear BK437; clear HB; have HO_5 := n0_; have BK437 := n1_; have HB := n2_; clear n0_ n1_ n2_; clear hg hw hp_))
  go_roundg k1
  case measure => have := HK1.out; omega
  case rel => refine ⟨(y444), (wrap64 (x13_1 + 1)), (by first | rfl | (simp; done) | (simp [*]; done)), H', ⟨by have := HK1.out; omega⟩, ⟨?_⟩, ⟨?_⟩, ⟨bB HB⟩⟩ <;> (with_reducible repeat (first | refine g_d ?_ _ | refine g_e ?_ | refine g_a ?_ _ | apply r_a | apply r_d | apply r_e)) <;> first | exact BK437.out | exact HO_5.out
/-! ### spec_l1Least: function 102 -/
def spec_l1Least.f (a0 : Int) (a1 : Int) : Option (Int) := if a0 < a1 then (some a0) else (some a1)
set_option maxHeartbeats 8000000 in
set_option maxRecDepth 100000 in
theorem spec_l1Least.calls (a0 : Int) (a1 : Int) (r : Int) (w : World) (h : spec_l1Least.f a0 a1 = some r) :
    Calls Tryz.prog 102 #[.int .i64 a0, .int .i64 a1] w fun e w' => e = .returned (.int .i64 r) ∧ Drawn0 w w' := by
  have H : (if a0 < a1 then (some a0) else (some a1)) = some r := h
  clear h
  by_cases c3 : a0 < a1
  · rw [if_pos c3] at H
    have c3b0 : decide (a0 < a1) = true := decide_eq_true c3
    clear c3
    obtain rfl := Option.some.inj H
    go_enter Tryz.func102, Tryz.ntmps102
    go_wp2
    go_ret
    exact ⟨by first | rfl | (simp; done) | (simp [*]; done), by repeat (first | exact Drawn0.refl _ | apply Drawn0.step)⟩
  rw [if_neg c3] at H
  have c3b0 : decide (a0 < a1) = false := decide_eq_false c3
  clear c3
  obtain rfl := Option.some.inj H
  go_enter Tryz.func102, Tryz.ntmps102
  go_wp2
  go_ret
  exact ⟨by first | rfl | (simp; done) | (simp [*]; done), by repeat (first | exact Drawn0.refl _ | apply Drawn0.step)⟩

/-! ### spec_riCodes: function 77 -/
mutual
def spec_riCodes.j1 : Nat → ByteArray → Int → Int → Option (List ByteArray)
  | 0, _, _, _ => none
  | k + 1, x1, x446000, x446001 => spec_riCodes.l1 k x1 ([] : List ByteArray) 0 x446000 x446001
def spec_riCodes.l1 : Nat → ByteArray → List ByteArray → Int → Int → Int → Option (List ByteArray)
  | 0, _, _, _, _, _ => none
  | k + 1, x1, x8, x9, x446000, x446001 => if (wrap64 (x9 + x446000)) ≤ (x1.size : Int) then (if 0 ≤ x9 then (if x9 ≤ (wrap64 (x9 + x446000)) then (if x8.length < 8796093022208 then (spec_riCodes.l1 k x1 (x8 ++ [x1.extract (x9 : Int).toNat ((wrap64 (x9 + x446000)) : Int).toNat]) (wrap64 (x9 + 1)) x446000 x446001) else (none)) else (none)) else (none)) else (some x8)
def spec_riCodes.l0 : Nat → ByteArray → Int → Int → Int → Option (List ByteArray)
  | 0, _, _, _, _ => none
  | k + 1, x1, x7, x446000, x446001 => if (x1.size : Int) < (wrap64 ((wrap64 (x7 + x446000)) - 1)) then ((spec_l1Least.f x7 (wrap64 ((wrap64 ((wrap64 (x7 + x446000)) - 1)) - (x1.size : Int)))).bind fun t446 => (if 0 ≤ t446 then (if t446 ≤ (x1.size : Int) then (if x1.size + (x1.extract 0 (t446 : Int).toNat).size ≤ 9223372036854775807 then (spec_riCodes.l0 k (x1 ++ (x1.extract 0 (t446 : Int).toNat)) x7 x446000 x446001) else (none)) else (none)) else (none))) else (spec_riCodes.j1 k x1 x446000 x446001)
end
def spec_riCodes.f (k : Nat) (a0_0 : Int) (a0_1 : Int) (a1 : ByteArray) (a2 : Bool) : Option (List ByteArray) := if a2 = true then (spec_riCodes.l0 k a1 (a1.size : Int) a0_0 a0_1) else (spec_riCodes.j1 k a1 a0_0 a0_1)
theorem spec_riCodes.mono_l : ∀ k, (∀ y0 y1 y2, LeO (spec_riCodes.j1 k y0 y1 y2) (spec_riCodes.j1 (k + 1) y0 y1 y2)) ∧ (∀ y0 y1 y2 y3 y4, LeO (spec_riCodes.l1 k y0 y1 y2 y3 y4) (spec_riCodes.l1 (k + 1) y0 y1 y2 y3 y4)) ∧ (∀ y0 y1 y2 y3, LeO (spec_riCodes.l0 k y0 y1 y2 y3) (spec_riCodes.l0 (k + 1) y0 y1 y2 y3))
  | 0 => ⟨fun _ _ _ r h => by simp [spec_riCodes.j1] at h, fun _ _ _ _ _ r h => by simp [spec_riCodes.l1] at h, fun _ _ _ _ r h => by simp [spec_riCodes.l0] at h⟩
  | k + 1 => by
    obtain ⟨ih0, ih1, ih2⟩ := spec_riCodes.mono_l k
    refine ⟨?_, ?_, ?_⟩
    · intro y0 y1 y2
      unfold spec_riCodes.j1
      repeat' first
      | (with_reducible exact ih0 _ _ _)
      | (with_reducible exact ih1 _ _ _ _ _)
      | (with_reducible exact ih2 _ _ _ _)
      | (with_reducible exact LeO.refl _)
      | (with_reducible exact LeO.none _)
      | (with_reducible refine LeO.ite ?_ ?_)
      | (with_reducible refine LeO.bind ?_ (fun _ => ?_))
      | exact ih0 _ _ _
      | exact ih1 _ _ _ _ _
      | exact ih2 _ _ _ _
      | exact LeO.none _
      | refine LeO.ite ?_ ?_
      | refine LeO.bind ?_ (fun _ => ?_)
    · intro y0 y1 y2 y3 y4
      unfold spec_riCodes.l1
      repeat' first
      | (with_reducible exact ih0 _ _ _)
      | (with_reducible exact ih1 _ _ _ _ _)
      | (with_reducible exact ih2 _ _ _ _)
      | (with_reducible exact LeO.refl _)
      | (with_reducible exact LeO.none _)
      | (with_reducible refine LeO.ite ?_ ?_)
      | (with_reducible refine LeO.bind ?_ (fun _ => ?_))
      | exact ih0 _ _ _
      | exact ih1 _ _ _ _ _
      | exact ih2 _ _ _ _
      | exact LeO.none _
      | refine LeO.ite ?_ ?_
      | refine LeO.bind ?_ (fun _ => ?_)
    · intro y0 y1 y2 y3
      unfold spec_riCodes.l0
      repeat' first
      | (with_reducible exact ih0 _ _ _)
      | (with_reducible exact ih1 _ _ _ _ _)
      | (with_reducible exact ih2 _ _ _ _)
      | (with_reducible exact LeO.refl _)
      | (with_reducible exact LeO.none _)
      | (with_reducible refine LeO.ite ?_ ?_)
      | (with_reducible refine LeO.bind ?_ (fun _ => ?_))
      | exact ih0 _ _ _
      | exact ih1 _ _ _ _ _
      | exact ih2 _ _ _ _
      | exact LeO.none _
      | refine LeO.ite ?_ ?_
      | refine LeO.bind ?_ (fun _ => ?_)
theorem spec_riCodes.mono : ∀ a0 a1 a2 a3 k, LeO (spec_riCodes.f k a0 a1 a2 a3) (spec_riCodes.f (k + 1) a0 a1 a2 a3) := by
  intro a0 a1 a2 a3 k
  obtain ⟨ih0, ih1, ih2⟩ := spec_riCodes.mono_l k
  unfold spec_riCodes.f
  repeat' first
      | (with_reducible exact ih0 _ _ _)
      | (with_reducible exact ih1 _ _ _ _ _)
      | (with_reducible exact ih2 _ _ _ _)
      | (with_reducible exact LeO.refl _)
      | (with_reducible exact LeO.none _)
      | (with_reducible refine LeO.ite ?_ ?_)
      | (with_reducible refine LeO.bind ?_ (fun _ => ?_))
      | exact ih0 _ _ _
      | exact ih1 _ _ _ _ _
      | exact ih2 _ _ _ _
      | exact LeO.none _
      | refine LeO.ite ?_ ?_
      | refine LeO.bind ?_ (fun _ => ?_)
set_option maxHeartbeats 8000000 in
set_option maxRecDepth 100000 in
theorem spec_riCodes.calls (k : Nat) (a0_0 : Int) (a0_1 : Int) (a1 : ByteArray) (a2 : Bool) (r : List ByteArray) (w : World) (h : spec_riCodes.f k a0_0 a0_1 a1 a2 = some r) :
    Calls Tryz.prog 77 #[.agg #[.int .i64 a0_0, .int .i64 a0_1], .string a1, .bool a2] w fun e w' => ∃ v0_ : Value, e = .returned (v0_) ∧ Kd.R Kd.string 9 w' w.heap.size (fun _ => True) v0_ r ∧ Below w.heap.size w w' := by
  have hu23 := Tryz.underlying23
  have HB := Aside0.mk (Below.refl w.heap.size w)
  have H : (if a2 = true then (spec_riCodes.l0 k a1 (a1.size : Int) a0_0 a0_1) else (spec_riCodes.j1 k a1 a0_0 a0_1)) = some r := h
  clear h
  have HC4 := Aside0.mk H
  clear H
  go_enter Tryz.func77, Tryz.ntmps77
  go_upto_if 12 with (first | ((with_reducible refine gate_dst (N := 3) rfl ?_); refine box_event ?hg (N := 3) ?hd (cs := #[.int .i64 a0_0, .int .i64 a0_1]) (t := 23) ?hr ?_; (case hd => rfl); (case hg => rfl); (case hr => first | (go_simp; done) | (go_simp; rfl)); intro gb445 hg w5 hbox hb; have n0_ := bsx hb HB; have n1_ := Aside0.mk (hbox); have n2_ := gwx hg HB; have n3_ := n2_; clear HB; have HB := n0_; have BK445 := n1_; have GW445 := n2_; have GE445 := n3_; clear n0_ n1_ n2_ n3_; clear hb hbox hg))
  (try simp only [Act.put, s_1, s_2, s_3])
  go_cut [1] (fun v1 wc => ∃ (kq : Nat) (x1_3 : ByteArray), v1 = .string x1_3 ∧ Aside0 (spec_riCodes.j1 kq x1_3 a0_0 a0_1 = some r) ∧ Aside0 (kq ≤ k) ∧ Aside0 (wc.heap[gb445]? = some (.cells #[.int .i64 a0_0, .int .i64 a0_1] 23 (0, 0))) ∧ Aside0 (Below w.heap.size w wc))
  case first =>
    have H := HC4.out
    clear HC4
    by_cases c6 : a2 = true
    rotate_left
    · replace c6 := Bool.eq_false_iff.mpr c6
      subst c6
      rw [if_neg (show ¬ (false = true) by decide)] at H
      have H' := Aside0.mk H
      clear H
      go_wp2
      go_meet
      case rel => exact ⟨_, (a1), (by first | rfl | (simp; done) | (simp [*]; done)), H', ⟨by first | omega | exact Nat.le_refl _⟩, ⟨bK BK445⟩, ⟨bB HB⟩⟩
    subst c6
    rw [if_pos rfl] at H
    have H' := Aside0.mk H
    clear H
    go_wp2
    go_loopg [1] k (fun kq v1 w' => ∃ (x1_1 : ByteArray), v1 = .string x1_1 ∧ Aside0 (spec_riCodes.l0 kq x1_1 (a1.size : Int) a0_0 a0_1 = some r) ∧ Aside0 (kq ≤ k) ∧ Aside0 (w'.heap[gb445]? = some (.cells #[.int .i64 a0_0, .int .i64 a0_1] 23 (0, 0))) ∧ Aside0 (Below w.heap.size w w'))
    case atStart => exact ⟨(a1), (by first | rfl | (simp; done) | (simp [*]; done)), H', ⟨Nat.le_refl _⟩, ⟨bK BK445⟩, ⟨bB HB⟩⟩
    clear H'
    try clear c6
    obtain ⟨x1_1, rfl, HA, HK1, BK445, HB⟩ := hrel
    rcases gk with _ | k1
    · exact absurd HA.out (by simp [spec_riCodes.l0])
    have H := HA.out
    clear HA
    simp only [spec_riCodes.l0] at H
    by_cases c7 : (x1_1.size : Int) < (wrap64 ((wrap64 ((a1.size : Int) + a0_0)) - 1))
    rotate_left
    · rw [if_neg c7] at H
      have c7b0 : decide ((x1_1.size : Int) < (wrap64 ((wrap64 ((a1.size : Int) + a0_0)) - 1))) = false := decide_eq_false c7
      clear c7
      (first | rw [c7b0] | (simp only [i64_w, i32_w]; rw [c7b0]) | skip)
      have H' := Aside0.mk H
      clear H
      have hcz13_0 := cz0 BK445
      have hcz13_1 := cz1 BK445
      have hfz13_0 := blk_frozen BK445.out 0
      have hfz13_1 := blk_frozen BK445.out 1
      go_wp2
      go_meet
      case rel => exact ⟨_, (x1_1), (by first | rfl | (simp; done) | (simp [*]; done)), H', ⟨by have := HK1.out; first | omega | exact Nat.le_refl _⟩, ⟨bK BK445⟩, ⟨bB HB⟩⟩
    rw [if_pos c7] at H
    have c7b0 : decide ((x1_1.size : Int) < (wrap64 ((wrap64 ((a1.size : Int) + a0_0)) - 1))) = true := decide_eq_true c7
    clear c7
    (first | rw [c7b0] | (simp only [i64_w, i32_w]; rw [c7b0]) | skip)
    replace H := Option.bind_eq_some_iff.mp H
    obtain ⟨t446, A80, H⟩ := H
    try dsimp only at H
    have A8 := Aside0.mk A80
    clear A80
    by_cases c9 : 0 ≤ t446
    rotate_left
    · rw [if_neg c9] at H
      exact absurd H (by simp)
    rw [if_pos c9] at H
    have c9b0 := eq_true c9
    have c9b1 : decide (0 ≤ t446) = true := decide_eq_true c9
    clear c9
    by_cases c10 : t446 ≤ (x1_1.size : Int)
    rotate_left
    · rw [if_neg c10] at H
      exact absurd H (by simp)
    rw [if_pos c10] at H
    have c10b0 := eq_true c10
    have c10b1 : decide (t446 ≤ (x1_1.size : Int)) = true := decide_eq_true c10
    clear c10
    by_cases c11 : x1_1.size + (x1_1.extract 0 (t446 : Int).toNat).size ≤ 9223372036854775807
    rotate_left
    · rw [if_neg c11] at H
      exact absurd H (by simp)
    rw [if_pos c11] at H
    have c11b0 := eq_true c11
    have c11b1 : decide (x1_1.size + (x1_1.extract 0 (t446 : Int).toNat).size ≤ 9223372036854775807) = true := decide_eq_true c11
    try have c11b2 : (9223372036854775807 < x1_1.size + (x1_1.extract 0 (t446 : Int).toNat).size) = False := eq_false (Nat.not_lt.2 c11)
    have H' := Aside0.mk H
    clear H
    have hcz12_0 := cz0 BK445
    have hcz12_1 := cz1 BK445
    have hfz12_0 := blk_frozen BK445.out 0
    have hfz12_1 := blk_frozen BK445.out 1
    go_wp2_with (first | ((with_reducible refine gate_callee (f := 102) rfl ?_); refine goesL_ (some 32) rfl rfl Tryz.func102 (by kernel_rfl) rfl #[.int .i64 (a1.size : Int), .int .i64 (wrap64 ((wrap64 ((wrap64 ((a1.size : Int) + a0_0)) - 1)) - (x1_1.size : Int)))] rfl (by (try simp only [m_1, m_2, m_3]); first | done | rfl | (simp only [m_4, m_5]; rfl)) ?_; (with_reducible refine (spec_l1Least.calls (a1.size : Int) (wrap64 ((wrap64 ((wrap64 ((a1.size : Int) + a0_0)) - 1)) - (x1_1.size : Int))) t446 _ A8.out).mono ?_); rintro e w' ⟨rfl, ⟨nd, rfl⟩⟩; refine ⟨_, rfl, ?_⟩))
    go_roundg k1
    case measure => have := HK1.out; omega
    case rel => exact ⟨(x1_1 ++ (x1_1.extract 0 (t446 : Int).toNat)), (by first | rfl | (simp; done) | (simp [*]; done)), H', ⟨by have := HK1.out; omega⟩, ⟨bK BK445⟩, ⟨bB HB⟩⟩
  clear HC4
  obtain ⟨kq, x1_3, rfl, HA, HJ3, BK445, HB⟩ := hcut
  rcases kq with _ | kj3
  · exact absurd HA.out (by simp [spec_riCodes.j1])
  have H := HA.out
  clear HA
  simp only [spec_riCodes.j1] at H
  have H' := Aside0.mk H
  clear H
  go_wp2
  go_loopg [8, 9] kj3 (fun kq v8 v9 w' => ∃ (x8_2 : List ByteArray) (x9_2 : Int), v9 = .int .i64 x9_2 ∧ Aside0 (spec_riCodes.l1 kq x1_3 x8_2 x9_2 a0_0 a0_1 = some r) ∧ Aside0 (kq ≤ kj3) ∧ Aside0 (Kd.R Kd.string 9 w' w.heap.size (fun _ => True) v8 x8_2) ∧ Aside0 (w'.heap[gb445]? = some (.cells #[.int .i64 a0_0, .int .i64 a0_1] 23 (0, 0))) ∧ Aside0 (Below w.heap.size w w'))
  case atStart => exact ⟨(([] : List ByteArray)), (0), (by first | rfl | (simp; done) | (simp [*]; done)), H', ⟨Nat.le_refl _⟩, ⟨by first | exact Kd.R_nil _ _ _ _ _ | exact Kd.N_nil _ _ _ _ _ | exact Kd.V_nil _ _ _ _ _ | exact Kd.Q_nil _ _ _ _ _ | exact Kd.S_nil _ _ _ _ _⟩, ⟨bK BK445⟩, ⟨bB HB⟩⟩
  clear H'
  obtain ⟨x8_2, x9_2, rfl, HA, HK2, HO_8, BK445, HB⟩ := hrel
  rcases gk with _ | k2
  · exact absurd HA.out (by simp [spec_riCodes.l1])
  have H := HA.out
  clear HA
  simp only [spec_riCodes.l1] at H
  by_cases c14 : (wrap64 (x9_2 + a0_0)) ≤ (x1_3.size : Int)
  rotate_left
  · rw [if_neg c14] at H
    have c14b0 : decide ((wrap64 (x9_2 + a0_0)) ≤ (x1_3.size : Int)) = false := decide_eq_false c14
    clear c14
    obtain rfl := Option.some.inj H
    have hcz21_0 := cz0 BK445
    have hcz21_1 := cz1 BK445
    have hfz21_0 := blk_frozen BK445.out 0
    have hfz21_1 := blk_frozen BK445.out 1
    go_wp2
    go_ret
    exact ⟨_, by first | rfl | (simp [errW_none, errW_some] <;> rfl) | (simp [*, errW_none, errW_some] <;> rfl), by (with_reducible repeat (first | apply r_a | apply r_d | apply r_e)); exact HO_8.out, bB HB⟩

  rw [if_pos c14] at H
  have c14b0 : decide ((wrap64 (x9_2 + a0_0)) ≤ (x1_3.size : Int)) = true := decide_eq_true c14
  clear c14
  by_cases c15 : 0 ≤ x9_2
  rotate_left
  · rw [if_neg c15] at H
    exact absurd H (by simp)
  rw [if_pos c15] at H
  have c15b0 := eq_true c15
  have c15b1 : decide (0 ≤ x9_2) = true := decide_eq_true c15
  clear c15
  by_cases c16 : x9_2 ≤ (wrap64 (x9_2 + a0_0))
  rotate_left
  · rw [if_neg c16] at H
    exact absurd H (by simp)
  rw [if_pos c16] at H
  have c16b0 := eq_true c16
  have c16b1 : decide (x9_2 ≤ (wrap64 (x9_2 + a0_0))) = true := decide_eq_true c16
  have c17b0 := eq_true (of_decide_eq_true (by first | (with_reducible assumption) | assumption) : (wrap64 (x9_2 + a0_0)) ≤ (x1_3.size : Int))
  by_cases c18 : x8_2.length < 8796093022208
  rotate_left
  · rw [if_neg c18] at H
    exact absurd H (by simp)
  rw [if_pos c18] at H
  have LMc18 := Aside0.mk c18
  clear c18
  obtain ⟨y447, hy447⟩ : ∃ y_ : List ByteArray, y_ = (x8_2 ++ [x1_3.extract (x9_2 : Int).toNat ((wrap64 (x9_2 + a0_0)) : Int).toNat]) := ⟨_, rfl⟩
  replace H : (spec_riCodes.l1 k2 x1_3 y447 (wrap64 (x9_2 + 1)) a0_0 a0_1) = some r := by first | (rw [hy447]; with_reducible exact H) | (have H2_ := (Option.bind_some _ _).symm.trans H; rw [hy447]; with_reducible exact H2_) | (have H2_ := (Option.bind_some _ _).symm.trans H; with_reducible exact H2_) | with_reducible exact H | (rw [hy447]; exact H) | exact H
  have Ny447 := Aside0.mk hy447
  clear hy447
  have H' := Aside0.mk H
  clear H
  have hcz19_0 := cz0 BK445
  have hcz19_1 := cz1 BK445
  have hfz19_0 := blk_frozen BK445.out 0
  have hfz19_1 := blk_frozen BK445.out 1
  go_wp2_with (first | ((with_reducible refine gate_builtin (b := .append) (xs := #[.tmp 44, .tmp 52]) rfl ?_); at_builtin; refine Kd.R_append Kd.string (w0 := w) w.heap.size rfl (.tmp 44) (.tmp 52) 26 9 (.string ⟨#[]⟩) 16 rfl Tryz.underlying26 info9 rfl (by decide) (by omega) u8 x8_2 (x1_3.extract (x9_2 : Int).toNat ((wrap64 (x9_2 + a0_0)) : Int).toNat) [.string (x1_3.extract (x9_2 : Int).toNat ((wrap64 (x9_2 + a0_0)) : Int).toNat)] (fun _ => True) (fun _ => False) rfl rfl ?aP (fun _ hk => hk.elim) ?aF ?aO ?aB ?aS ?aL ?_; (case aP => exact rfl); (case aB => exact (bB HB)); (case aF => exact (fun _ _ => trivial)); (case aO => exact (by (with_reducible repeat (first | apply r_a | apply r_d | apply r_e)); exact HO_8.out)); (case aS => exact (below_size (bB HB))); (case aL => have := LMc18.out; omega); intro v448 w20 ho hb hg hat; rw [← Ny447.out] at ho; have n0_ := Aside0.mk (blk_grown (g := gb445) (o := .cells #[.int .i64 a0_0, .int .i64 a0_1] 23 (0, 0)) (bK BK445) hg (Kd.R_ne HO_8.out BK445.out (by decide))); have n1_ := Aside0.mk (hb); have n2_ := Aside0.mk (ho); clear BK445; clear HB; clear HO_8; have BK445 := n0_; have HB := n1_; have HO449 := n2_; clear n0_ n1_ n2_; clear ho hb hg hat))
  go_roundg k2
  case measure => have := HJ3.out; have := HK2.out; omega
  case rel => refine ⟨(y447), (wrap64 (x9_2 + 1)), (by first | rfl | (simp; done) | (simp [*]; done)), H', ⟨by have := HJ3.out; have := HK2.out; omega⟩, ⟨?_⟩, ⟨?_⟩, ⟨bB HB⟩⟩ <;> (with_reducible repeat (first | refine g_d ?_ _ | refine g_e ?_ | refine g_a ?_ _ | apply r_a | apply r_d | apply r_e)) <;> first | exact BK445.out | exact HO449.out
/-! ### impl_Lock_isCode: function 103 -/
def impl_Lock_isCode.f (k : Nat) (a0_0 : Int) (a0_1 : Int) (a1 : ByteArray) : Option (Bool) := if (a1.size : Int) = a0_0 then ((impl_Lock_isText.f k a0_0 a0_1 a1).bind fun t476 => (some t476)) else (some false)
theorem impl_Lock_isCode.mono : ∀ a0 a1 a2 k, LeO (impl_Lock_isCode.f k a0 a1 a2) (impl_Lock_isCode.f (k + 1) a0 a1 a2) := by
  intro a0 a1 a2 k
  unfold impl_Lock_isCode.f
  repeat' first
      | (with_reducible exact impl_Lock_isText.mono _ _ _ _)
      | (with_reducible exact LeO.refl _)
      | (with_reducible exact LeO.none _)
      | (with_reducible refine LeO.ite ?_ ?_)
      | (with_reducible refine LeO.bind ?_ (fun _ => ?_))
      | exact impl_Lock_isText.mono _ _ _ _
      | exact LeO.none _
      | refine LeO.ite ?_ ?_
      | refine LeO.bind ?_ (fun _ => ?_)
set_option maxHeartbeats 8000000 in
set_option maxRecDepth 100000 in
theorem impl_Lock_isCode.calls (k : Nat) (a0_0 : Int) (a0_1 : Int) (a1 : ByteArray) (r : Bool) (w : World) (h : impl_Lock_isCode.f k a0_0 a0_1 a1 = some r) :
    Calls Tryz.prog 103 #[.agg #[.int .i64 a0_0, .int .i64 a0_1], .string a1] w fun e w' => e = .returned (.bool r) ∧ Below w.heap.size w w' := by
  have hu23 := Tryz.underlying23
  have HB := Aside0.mk (Below.refl w.heap.size w)
  have H : (if (a1.size : Int) = a0_0 then ((impl_Lock_isText.f k a0_0 a0_1 a1).bind fun t476 => (some t476)) else (some false)) = some r := h
  clear h
  by_cases c3 : (a1.size : Int) = a0_0
  rotate_left
  · rw [if_neg c3] at H
    have c3b0 : ((a1.size : Int) == a0_0) = false := beq_eq_false_iff_ne.mpr c3
    have c3b1 : ((a1.size : Int) != a0_0) = true := bne_iff_ne.mpr c3
    obtain rfl := Option.some.inj H
    go_enter Tryz.func103, Tryz.ntmps103
    go_wp2_with (first | ((with_reducible refine gate_dst (N := 2) rfl ?_); refine box_event ?hg (N := 2) ?hd (cs := #[.int .i64 a0_0, .int .i64 a0_1]) (t := 23) ?hr ?_; (case hd => rfl); (case hg => rfl); (case hr => first | (go_simp; done) | (go_simp; rfl)); intro gb475 hg w8 hbox hb; have n0_ := bsx hb HB; have n1_ := Aside0.mk (hbox); have n2_ := gwx hg HB; have n3_ := n2_; clear HB; have HB := n0_; have BK475 := n1_; have GW475 := n2_; have GE475 := n3_; clear n0_ n1_ n2_ n3_; clear hb hbox hg; have hcz9_0 := cz0 BK475; have hcz9_1 := cz1 BK475; have hfz9_0 := blk_frozen BK475.out 0; have hfz9_1 := blk_frozen BK475.out 1))
    go_ret
    exact ⟨by first | rfl | (simp [errW_none, errW_some] <;> rfl) | (simp [*, errW_none, errW_some] <;> rfl), bB HB⟩

  rw [if_pos c3] at H
  have c3b0 : ((a1.size : Int) == a0_0) = true := beq_iff_eq.mpr c3
  have c3b1 : ((a1.size : Int) != a0_0) = false := bne_eq_false_iff_eq.mpr c3
  clear c3
  replace H := Option.bind_eq_some_iff.mp H
  obtain ⟨t476, A40, H⟩ := H
  try dsimp only at H
  have A4 := Aside0.mk A40
  clear A40
  obtain rfl := Option.some.inj H
  go_enter Tryz.func103, Tryz.ntmps103
  go_wp2_with (first | ((with_reducible refine gate_dst (N := 2) rfl ?_); refine box_event ?hg (N := 2) ?hd (cs := #[.int .i64 a0_0, .int .i64 a0_1]) (t := 23) ?hr ?_; (case hd => rfl); (case hg => rfl); (case hr => first | (go_simp; done) | (go_simp; rfl)); intro gb475 hg w5 hbox hb; have n0_ := bsx hb HB; have n1_ := Aside0.mk (hbox); have n2_ := gwx hg HB; have n3_ := n2_; clear HB; have HB := n0_; have BK475 := n1_; have GW475 := n2_; have GE475 := n3_; clear n0_ n1_ n2_ n3_; clear hb hbox hg; have hcz6_0 := cz0 BK475; have hcz6_1 := cz1 BK475; have hfz6_0 := blk_frozen BK475.out 0; have hfz6_1 := blk_frozen BK475.out 1) | (go_at_call 96; (with_reducible refine (impl_Lock_isText.calls k a0_0 a0_1 a1 t476 _ A4.out).mono ?_); rintro e w7 ⟨rfl, hb⟩; replace BK475 := bbx hb BK475; replace HB := bsx hb HB; skip; (try clear hb); (try clear hb2); (try clear hk); (try clear hi)))
  go_ret
  exact ⟨by first | rfl | (simp [errW_none, errW_some] <;> rfl) | (simp [*, errW_none, errW_some] <;> rfl), bB HB⟩
/-! ### impl_has: function 79 -/
def impl_has.l0 : Nat → List ByteArray → Int → Int → Int → Int → Option (Bool)
  | 0, _, _, _, _, _ => none
  | k + 1, x10, x11, x12, x478000, x478001 => if x12 < x11 then (if 0 ≤ x12 then (if x12 < (x10.length : Int) then ((impl_Lock_isCode.f k x478000 x478001 (rdOf ByteArray.empty x10 x12)).bind fun t480 => (if t480 = true then (impl_has.l0 k x10 x11 (wrap64 (x12 + 1)) x478000 x478001) else (some false))) else (none)) else (none)) else (some true)
def impl_has.f (k : Nat) (a0_0 : Int) (a0_1 : Int) (l1 : List ByteArray) : Option (Bool) := (impl_IsLock.f a0_0 a0_1).bind fun t478 => (if t478 = true then (impl_has.l0 k l1 (l1.length : Int) 0 a0_0 a0_1) else (some false))
theorem impl_has.mono_l : ∀ k, (∀ y0 y1 y2 y3 y4, LeO (impl_has.l0 k y0 y1 y2 y3 y4) (impl_has.l0 (k + 1) y0 y1 y2 y3 y4))
  | 0 => fun _ _ _ _ _ r h => by simp [impl_has.l0] at h
  | k + 1 => by
    have ih0 := impl_has.mono_l k
    · intro y0 y1 y2 y3 y4
      unfold impl_has.l0
      repeat' first
      | (with_reducible exact ih0 _ _ _ _ _)
      | (with_reducible exact impl_Lock_isCode.mono _ _ _ _)
      | (with_reducible exact LeO.refl _)
      | (with_reducible exact LeO.none _)
      | (with_reducible refine LeO.ite ?_ ?_)
      | (with_reducible refine LeO.bind ?_ (fun _ => ?_))
      | exact ih0 _ _ _ _ _
      | exact impl_Lock_isCode.mono _ _ _ _
      | exact LeO.none _
      | refine LeO.ite ?_ ?_
      | refine LeO.bind ?_ (fun _ => ?_)
theorem impl_has.mono : ∀ a0 a1 a2 k, LeO (impl_has.f k a0 a1 a2) (impl_has.f (k + 1) a0 a1 a2) := by
  intro a0 a1 a2 k
  have ih0 := impl_has.mono_l k
  unfold impl_has.f
  repeat' first
      | (with_reducible exact ih0 _ _ _ _ _)
      | (with_reducible exact impl_Lock_isCode.mono _ _ _ _)
      | (with_reducible exact LeO.refl _)
      | (with_reducible exact LeO.none _)
      | (with_reducible refine LeO.ite ?_ ?_)
      | (with_reducible refine LeO.bind ?_ (fun _ => ?_))
      | exact ih0 _ _ _ _ _
      | exact impl_Lock_isCode.mono _ _ _ _
      | exact LeO.none _
      | refine LeO.ite ?_ ?_
      | refine LeO.bind ?_ (fun _ => ?_)
set_option maxHeartbeats 8000000 in
set_option maxRecDepth 100000 in
theorem impl_has.calls (k : Nat) (a0_0 : Int) (a0_1 : Int) (A1 : Option Addr) (c1 : Nat) (l1 : List ByteArray) (r : Bool) (w : World) (hr1 : Kd.C Kd.string w A1 l1.length l1) (hc1 : l1.length ≤ c1) (h : impl_has.f k a0_0 a0_1 l1 = some r) :
    Calls Tryz.prog 79 #[.agg #[.int .i64 a0_0, .int .i64 a0_1], .slice A1 l1.length c1] w fun e w' => e = .returned (.bool r) ∧ Below w.heap.size w w' := by
  have hu23 := Tryz.underlying23
  have HR1 := Aside0.mk hr1
  have HC1 := Aside0.mk hc1
  clear hr1 hc1
  have HB := Aside0.mk (Below.refl w.heap.size w)
  have H : ((impl_IsLock.f a0_0 a0_1).bind fun t478 => (if t478 = true then (impl_has.l0 k l1 (l1.length : Int) 0 a0_0 a0_1) else (some false))) = some r := h
  clear h
  replace H := Option.bind_eq_some_iff.mp H
  obtain ⟨t478, A30, H⟩ := H
  try dsimp only at H
  have A3 := Aside0.mk A30
  clear A30
  by_cases c4 : t478 = true
  rotate_left
  · replace c4 := Bool.eq_false_iff.mpr c4
    subst c4
    rw [if_neg (show ¬ (false = true) by decide)] at H
    obtain rfl := Option.some.inj H
    go_enter Tryz.func79, Tryz.ntmps79
    go_wp2_with (first | ((with_reducible refine gate_dst (N := 2) rfl ?_); refine box_event ?hg (N := 2) ?hd (cs := #[.int .i64 a0_0, .int .i64 a0_1]) (t := 23) ?hr ?_; (case hd => rfl); (case hg => rfl); (case hr => first | (go_simp; done) | (go_simp; rfl)); intro gb477 hg w17 hbox hb; have n0_ := bsx hb HB; have n1_ := Aside0.mk (hbox); have n2_ := gwx hg HB; have n3_ := n2_; clear HB; have HB := n0_; have BK477 := n1_; have GW477 := n2_; have GE477 := n3_; clear n0_ n1_ n2_ n3_; clear hb hbox hg; have hcz18_0 := cz0 BK477; have hcz18_1 := cz1 BK477; have hfz18_0 := blk_frozen BK477.out 0; have hfz18_1 := blk_frozen BK477.out 1) | ((with_reducible refine gate_callee (f := 64) rfl ?_); refine goesL_ (some 8) rfl rfl Tryz.func64 (by kernel_rfl) rfl #[.agg #[.int .i64 a0_0, .int .i64 a0_1]] rfl (by (try simp only [m_1, m_2, m_3]); first | done | rfl | (simp only [m_4, m_5]; rfl)) ?_; (with_reducible refine (impl_IsLock.calls a0_0 a0_1 false _ A3.out).mono ?_); rintro e w19 ⟨rfl, hb⟩; refine ⟨_, rfl, ?_⟩; replace BK477 := bbx hb BK477; replace HB := bsx hb HB; skip; (try clear hb); (try clear hb2); (try clear hk); (try clear hi)))
    go_ret
    exact ⟨by first | rfl | (simp [errW_none, errW_some] <;> rfl) | (simp [*, errW_none, errW_some] <;> rfl), bB HB⟩

  subst c4
  rw [if_pos rfl] at H
  have H' := Aside0.mk H
  clear H
  go_enter Tryz.func79, Tryz.ntmps79
  go_wp2_with (first | ((with_reducible refine gate_dst (N := 2) rfl ?_); refine box_event ?hg (N := 2) ?hd (cs := #[.int .i64 a0_0, .int .i64 a0_1]) (t := 23) ?hr ?_; (case hd => rfl); (case hg => rfl); (case hr => first | (go_simp; done) | (go_simp; rfl)); intro gb477 hg w5 hbox hb; have n0_ := bsx hb HB; have n1_ := Aside0.mk (hbox); have n2_ := gwx hg HB; have n3_ := n2_; clear HB; have HB := n0_; have BK477 := n1_; have GW477 := n2_; have GE477 := n3_; clear n0_ n1_ n2_ n3_; clear hb hbox hg; have hcz6_0 := cz0 BK477; have hcz6_1 := cz1 BK477; have hfz6_0 := blk_frozen BK477.out 0; have hfz6_1 := blk_frozen BK477.out 1) | ((with_reducible refine gate_callee (f := 64) rfl ?_); refine goesL_ (some 8) rfl rfl Tryz.func64 (by kernel_rfl) rfl #[.agg #[.int .i64 a0_0, .int .i64 a0_1]] rfl (by (try simp only [m_1, m_2, m_3]); first | done | rfl | (simp only [m_4, m_5]; rfl)) ?_; (with_reducible refine (impl_IsLock.calls a0_0 a0_1 true _ A3.out).mono ?_); rintro e w7 ⟨rfl, hb⟩; refine ⟨_, rfl, ?_⟩; replace BK477 := bbx hb BK477; replace HB := bsx hb HB; skip; (try clear hb); (try clear hb2); (try clear hk); (try clear hi)))
  go_loopg [12] k (fun kq v12 w' => ∃ (x12_1 : Int), v12 = .int .i64 x12_1 ∧ Aside0 (impl_has.l0 kq l1 (l1.length : Int) x12_1 a0_0 a0_1 = some r) ∧ Aside0 (kq ≤ k) ∧ Aside0 (w'.heap[gb477]? = some (.cells #[.int .i64 a0_0, .int .i64 a0_1] 23 (0, 0))) ∧ Aside0 (Below w.heap.size w w'))
  case atStart => exact ⟨(0), (by first | rfl | (simp; done) | (simp [*]; done)), H', ⟨Nat.le_refl _⟩, ⟨bK BK477⟩, ⟨bB HB⟩⟩
  clear H'
  try clear c1
  try clear c4
  try clear hcz6_0
  try clear hcz6_1
  try clear hfz6_0
  try clear hfz6_1
  obtain ⟨x12_1, rfl, HA, HK1, BK477, HB⟩ := hrel
  rcases gk with _ | k1
  · exact absurd HA.out (by simp [impl_has.l0])
  have H := HA.out
  clear HA
  simp only [impl_has.l0] at H
  by_cases c8 : x12_1 < (l1.length : Int)
  rotate_left
  · rw [if_neg c8] at H
    have c8b0 : decide (x12_1 < (l1.length : Int)) = false := decide_eq_false c8
    clear c8
    obtain rfl := Option.some.inj H
    go_wp2
    go_ret
    exact ⟨by first | rfl | (simp [errW_none, errW_some] <;> rfl) | (simp [*, errW_none, errW_some] <;> rfl), bB HB⟩
  rw [if_pos c8] at H
  have c8b0 : decide (x12_1 < (l1.length : Int)) = true := decide_eq_true c8
  clear c8
  by_cases c9 : 0 ≤ x12_1
  rotate_left
  · rw [if_neg c9] at H
    exact absurd H (by simp)
  rw [if_pos c9] at H
  have c9b0 : decide (0 ≤ x12_1) = true := decide_eq_true c9
  clear c9
  by_cases c10 : x12_1 < (l1.length : Int)
  rotate_left
  · rw [if_neg c10] at H
    exact absurd H (by simp)
  rw [if_pos c10] at H
  have c10b0 : decide (x12_1 < (l1.length : Int)) = true := decide_eq_true c10
  clear c10
  replace H := Option.bind_eq_some_iff.mp H
  obtain ⟨t480, A110, H⟩ := H
  try dsimp only at H
  have A11 := Aside0.mk A110
  clear A110
  by_cases c12 : t480 = true
  rotate_left
  · replace c12 := Bool.eq_false_iff.mpr c12
    subst c12
    rw [if_neg (show ¬ (false = true) by decide)] at H
    obtain rfl := Option.some.inj H
    have p479 : 0 ≤ (x12_1 : Int) := of_decide_eq_true (by first | (with_reducible assumption) | assumption)
    have q479 : x12_1 < (l1.length : Int) := of_decide_eq_true (by first | (with_reducible assumption) | assumption)
    obtain ⟨ad479, e479, hx479_0⟩ := Kd.at_string HR1.out x12_1 p479 q479
    cases e479
    replace hx479_0 := (HB.out.cell (World.block_lt_of_cell? w _ hx479_0)).trans hx479_0
    replace p479 := eq_true p479
    replace q479 := eq_true q479
    have hcz15_0 := cz0 BK477
    have hcz15_1 := cz1 BK477
    have hfz15_0 := blk_frozen BK477.out 0
    have hfz15_1 := blk_frozen BK477.out 1
    go_wp2_with (first | ((with_reducible refine gate_callee (f := 103) rfl ?_); refine goesL_ (some 18) rfl rfl Tryz.func103 (by kernel_rfl) rfl #[.agg #[.int .i64 a0_0, .int .i64 a0_1], .string (rdOf ByteArray.empty l1 x12_1)] rfl (by (try simp only [m_1, m_2, m_3]); first | done | rfl | (simp only [m_4, m_5]; rfl)) ?_; (with_reducible refine (impl_Lock_isCode.calls k1 a0_0 a0_1 (rdOf ByteArray.empty l1 x12_1) false _ A11.out).mono ?_); rintro e w16 ⟨rfl, hb⟩; refine ⟨_, rfl, ?_⟩; replace BK477 := bbx hb BK477; replace HB := bsx hb HB; skip; (try clear hb); (try clear hb2); (try clear hk); (try clear hi)))
    go_ret
    exact ⟨by first | rfl | (simp [errW_none, errW_some] <;> rfl) | (simp [*, errW_none, errW_some] <;> rfl), bB HB⟩
  subst c12
  rw [if_pos rfl] at H
  have H' := Aside0.mk H
  clear H
  have p479 : 0 ≤ (x12_1 : Int) := of_decide_eq_true (by first | (with_reducible assumption) | assumption)
  have q479 : x12_1 < (l1.length : Int) := of_decide_eq_true (by first | (with_reducible assumption) | assumption)
  obtain ⟨ad479, e479, hx479_0⟩ := Kd.at_string HR1.out x12_1 p479 q479
  cases e479
  replace hx479_0 := (HB.out.cell (World.block_lt_of_cell? w _ hx479_0)).trans hx479_0
  replace p479 := eq_true p479
  replace q479 := eq_true q479
  have hcz13_0 := cz0 BK477
  have hcz13_1 := cz1 BK477
  have hfz13_0 := blk_frozen BK477.out 0
  have hfz13_1 := blk_frozen BK477.out 1
  go_wp2_with (first | ((with_reducible refine gate_callee (f := 103) rfl ?_); refine goesL_ (some 18) rfl rfl Tryz.func103 (by kernel_rfl) rfl #[.agg #[.int .i64 a0_0, .int .i64 a0_1], .string (rdOf ByteArray.empty l1 x12_1)] rfl (by (try simp only [m_1, m_2, m_3]); first | done | rfl | (simp only [m_4, m_5]; rfl)) ?_; (with_reducible refine (impl_Lock_isCode.calls k1 a0_0 a0_1 (rdOf ByteArray.empty l1 x12_1) true _ A11.out).mono ?_); rintro e w14 ⟨rfl, hb⟩; refine ⟨_, rfl, ?_⟩; replace BK477 := bbx hb BK477; replace HB := bsx hb HB; skip; (try clear hb); (try clear hb2); (try clear hk); (try clear hi)))
  go_roundg k1
  case measure => have := HK1.out; omega
  case rel => exact ⟨(wrap64 (x12_1 + 1)), (by first | rfl | (simp; done) | (simp [*]; done)), H', ⟨by have := HK1.out; omega⟩, ⟨bK BK477⟩, ⟨bB HB⟩⟩
/-! ### spec_whCode: function 81 -/
def spec_whCode.l0 : Nat → ByteArray → Int → Int → Int → Option (Bool)
  | 0, _, _, _, _ => none
  | k + 1, x1, x5, x489000, x489001 => if x5 < (x1.size : Int) then (if 0 ≤ x5 then ((spec_l1In.f (wrap64 ((wrap64 (bt x1 x5)) - 48)) 0 (wrap64 (x489001 - 1))).bind fun t489 => (if t489 = true then (spec_whCode.l0 k x1 (wrap64 (x5 + 1)) x489000 x489001) else (some false))) else (none)) else (some true)
def spec_whCode.f (k : Nat) (a0_0 : Int) (a0_1 : Int) (a1 : ByteArray) : Option (Bool) := if (a1.size : Int) = a0_0 then (spec_whCode.l0 k a1 0 a0_0 a0_1) else (some false)
theorem spec_whCode.mono_l : ∀ k, (∀ y0 y1 y2 y3, LeO (spec_whCode.l0 k y0 y1 y2 y3) (spec_whCode.l0 (k + 1) y0 y1 y2 y3))
  | 0 => fun _ _ _ _ r h => by simp [spec_whCode.l0] at h
  | k + 1 => by
    have ih0 := spec_whCode.mono_l k
    · intro y0 y1 y2 y3
      unfold spec_whCode.l0
      repeat' first
      | (with_reducible exact ih0 _ _ _ _)
      | (with_reducible exact LeO.refl _)
      | (with_reducible exact LeO.none _)
      | (with_reducible refine LeO.ite ?_ ?_)
      | (with_reducible refine LeO.bind ?_ (fun _ => ?_))
      | exact ih0 _ _ _ _
      | exact LeO.none _
      | refine LeO.ite ?_ ?_
      | refine LeO.bind ?_ (fun _ => ?_)
theorem spec_whCode.mono : ∀ a0 a1 a2 k, LeO (spec_whCode.f k a0 a1 a2) (spec_whCode.f (k + 1) a0 a1 a2) := by
  intro a0 a1 a2 k
  have ih0 := spec_whCode.mono_l k
  unfold spec_whCode.f
  repeat' first
      | (with_reducible exact ih0 _ _ _ _)
      | (with_reducible exact LeO.refl _)
      | (with_reducible exact LeO.none _)
      | (with_reducible refine LeO.ite ?_ ?_)
      | (with_reducible refine LeO.bind ?_ (fun _ => ?_))
      | exact ih0 _ _ _ _
      | exact LeO.none _
      | refine LeO.ite ?_ ?_
      | refine LeO.bind ?_ (fun _ => ?_)
set_option maxHeartbeats 8000000 in
set_option maxRecDepth 100000 in
theorem spec_whCode.calls (k : Nat) (a0_0 : Int) (a0_1 : Int) (a1 : ByteArray) (r : Bool) (w : World) (h : spec_whCode.f k a0_0 a0_1 a1 = some r) :
    Calls Tryz.prog 81 #[.agg #[.int .i64 a0_0, .int .i64 a0_1], .string a1] w fun e w' => e = .returned (.bool r) ∧ Below w.heap.size w w' := by
  have hu23 := Tryz.underlying23
  have HB := Aside0.mk (Below.refl w.heap.size w)
  have H : (if (a1.size : Int) = a0_0 then (spec_whCode.l0 k a1 0 a0_0 a0_1) else (some false)) = some r := h
  clear h
  by_cases c3 : (a1.size : Int) = a0_0
  rotate_left
  · rw [if_neg c3] at H
    have c3b0 : ((a1.size : Int) == a0_0) = false := beq_eq_false_iff_ne.mpr c3
    have c3b1 : ((a1.size : Int) != a0_0) = true := bne_iff_ne.mpr c3
    obtain rfl := Option.some.inj H
    go_enter Tryz.func81, Tryz.ntmps81
    go_wp2_with (first | ((with_reducible refine gate_dst (N := 2) rfl ?_); refine box_event ?hg (N := 2) ?hd (cs := #[.int .i64 a0_0, .int .i64 a0_1]) (t := 23) ?hr ?_; (case hd => rfl); (case hg => rfl); (case hr => first | (go_simp; done) | (go_simp; rfl)); intro gb488 hg w13 hbox hb; have n0_ := bsx hb HB; have n1_ := Aside0.mk (hbox); have n2_ := gwx hg HB; have n3_ := n2_; clear HB; have HB := n0_; have BK488 := n1_; have GW488 := n2_; have GE488 := n3_; clear n0_ n1_ n2_ n3_; clear hb hbox hg; have hcz14_0 := cz0 BK488; have hcz14_1 := cz1 BK488; have hfz14_0 := blk_frozen BK488.out 0; have hfz14_1 := blk_frozen BK488.out 1))
    repeat (go_quiet (first | ((with_reducible refine gate_dst (N := 2) rfl ?_); refine box_event ?hg (N := 2) ?hd (cs := #[.int .i64 a0_0, .int .i64 a0_1]) (t := 23) ?hr ?_; (case hd => rfl); (case hg => rfl); (case hr => first | (go_simp; done) | (go_simp; rfl)); intro gb488 hg w13 hbox hb; have n0_ := bsx hb HB; have n1_ := Aside0.mk (hbox); have n2_ := gwx hg HB; have n3_ := n2_; clear HB; have HB := n0_; have BK488 := n1_; have GW488 := n2_; have GE488 := n3_; clear n0_ n1_ n2_ n3_; clear hb hbox hg; have hcz14_0 := cz0 BK488; have hcz14_1 := cz1 BK488; have hfz14_0 := blk_frozen BK488.out 0; have hfz14_1 := blk_frozen BK488.out 1)); try go_wp2_with (first | ((with_reducible refine gate_dst (N := 2) rfl ?_); refine box_event ?hg (N := 2) ?hd (cs := #[.int .i64 a0_0, .int .i64 a0_1]) (t := 23) ?hr ?_; (case hd => rfl); (case hg => rfl); (case hr => first | (go_simp; done) | (go_simp; rfl)); intro gb488 hg w13 hbox hb; have n0_ := bsx hb HB; have n1_ := Aside0.mk (hbox); have n2_ := gwx hg HB; have n3_ := n2_; clear HB; have HB := n0_; have BK488 := n1_; have GW488 := n2_; have GE488 := n3_; clear n0_ n1_ n2_ n3_; clear hb hbox hg; have hcz14_0 := cz0 BK488; have hcz14_1 := cz1 BK488; have hfz14_0 := blk_frozen BK488.out 0; have hfz14_1 := blk_frozen BK488.out 1)))
    go_ret
    exact ⟨by first | rfl | (simp [errW_none, errW_some] <;> rfl) | (simp [*, errW_none, errW_some] <;> rfl), bB HB⟩

  rw [if_pos c3] at H
  have c3b0 : ((a1.size : Int) == a0_0) = true := beq_iff_eq.mpr c3
  have c3b1 : ((a1.size : Int) != a0_0) = false := bne_eq_false_iff_eq.mpr c3
  clear c3
  have H' := Aside0.mk H
  clear H
  go_enter Tryz.func81, Tryz.ntmps81
  go_wp2_with (first | ((with_reducible refine gate_dst (N := 2) rfl ?_); refine box_event ?hg (N := 2) ?hd (cs := #[.int .i64 a0_0, .int .i64 a0_1]) (t := 23) ?hr ?_; (case hd => rfl); (case hg => rfl); (case hr => first | (go_simp; done) | (go_simp; rfl)); intro gb488 hg w4 hbox hb; have n0_ := bsx hb HB; have n1_ := Aside0.mk (hbox); have n2_ := gwx hg HB; have n3_ := n2_; clear HB; have HB := n0_; have BK488 := n1_; have GW488 := n2_; have GE488 := n3_; clear n0_ n1_ n2_ n3_; clear hb hbox hg; have hcz5_0 := cz0 BK488; have hcz5_1 := cz1 BK488; have hfz5_0 := blk_frozen BK488.out 0; have hfz5_1 := blk_frozen BK488.out 1))
  repeat (go_quiet (first | ((with_reducible refine gate_dst (N := 2) rfl ?_); refine box_event ?hg (N := 2) ?hd (cs := #[.int .i64 a0_0, .int .i64 a0_1]) (t := 23) ?hr ?_; (case hd => rfl); (case hg => rfl); (case hr => first | (go_simp; done) | (go_simp; rfl)); intro gb488 hg w4 hbox hb; have n0_ := bsx hb HB; have n1_ := Aside0.mk (hbox); have n2_ := gwx hg HB; have n3_ := n2_; clear HB; have HB := n0_; have BK488 := n1_; have GW488 := n2_; have GE488 := n3_; clear n0_ n1_ n2_ n3_; clear hb hbox hg; have hcz5_0 := cz0 BK488; have hcz5_1 := cz1 BK488; have hfz5_0 := blk_frozen BK488.out 0; have hfz5_1 := blk_frozen BK488.out 1)); try go_wp2_with (first | ((with_reducible refine gate_dst (N := 2) rfl ?_); refine box_event ?hg (N := 2) ?hd (cs := #[.int .i64 a0_0, .int .i64 a0_1]) (t := 23) ?hr ?_; (case hd => rfl); (case hg => rfl); (case hr => first | (go_simp; done) | (go_simp; rfl)); intro gb488 hg w4 hbox hb; have n0_ := bsx hb HB; have n1_ := Aside0.mk (hbox); have n2_ := gwx hg HB; have n3_ := n2_; clear HB; have HB := n0_; have BK488 := n1_; have GW488 := n2_; have GE488 := n3_; clear n0_ n1_ n2_ n3_; clear hb hbox hg; have hcz5_0 := cz0 BK488; have hcz5_1 := cz1 BK488; have hfz5_0 := blk_frozen BK488.out 0; have hfz5_1 := blk_frozen BK488.out 1)))
  go_loopg [5] k (fun kq v5 w' => ∃ (x5_1 : Int), v5 = .int .i64 x5_1 ∧ Aside0 (spec_whCode.l0 kq a1 x5_1 a0_0 a0_1 = some r) ∧ Aside0 (kq ≤ k) ∧ Aside0 (w'.heap[gb488]? = some (.cells #[.int .i64 a0_0, .int .i64 a0_1] 23 (0, 0))) ∧ Aside0 (Below w.heap.size w w'))
  case atStart => exact ⟨(0), (by first | rfl | (simp; done) | (simp [*]; done)), H', ⟨Nat.le_refl _⟩, ⟨bK BK488⟩, ⟨bB HB⟩⟩
  clear H'
  try clear c3
  try clear c3b0
  try clear c3b1
  try clear hcz5_0
  try clear hcz5_1
  try clear hfz5_0
  try clear hfz5_1
  obtain ⟨x5_1, rfl, HA, HK1, BK488, HB⟩ := hrel
  rcases gk with _ | k1
  · exact absurd HA.out (by simp [spec_whCode.l0])
  have H := HA.out
  clear HA
  simp only [spec_whCode.l0] at H
  by_cases c6 : x5_1 < (a1.size : Int)
  rotate_left
  · rw [if_neg c6] at H
    have c6b0 : decide (x5_1 < (a1.size : Int)) = false := decide_eq_false c6
    clear c6
    obtain rfl := Option.some.inj H
    go_wp2
    repeat (go_quiet (fail); try go_wp2)
    go_ret
    exact ⟨by first | rfl | (simp [errW_none, errW_some] <;> rfl) | (simp [*, errW_none, errW_some] <;> rfl), bB HB⟩
  rw [if_pos c6] at H
  have c6b0 : decide (x5_1 < (a1.size : Int)) = true := decide_eq_true c6
  clear c6
  by_cases c7 : 0 ≤ x5_1
  rotate_left
  · rw [if_neg c7] at H
    exact absurd H (by simp)
  rw [if_pos c7] at H
  have c7b0 : decide (0 ≤ x5_1) = true := decide_eq_true c7
  clear c7
  replace H := Option.bind_eq_some_iff.mp H
  obtain ⟨t489, A90, H⟩ := H
  try dsimp only at H
  have A9 := Aside0.mk A90
  clear A90
  by_cases c10 : t489 = true
  rotate_left
  · replace c10 := Bool.eq_false_iff.mpr c10
    subst c10
    rw [if_neg (show ¬ (false = true) by decide)] at H
    obtain rfl := Option.some.inj H
    have p8 : 0 ≤ (x5_1 : Int) := of_decide_eq_true (by first | (with_reducible assumption) | assumption)
    have q8 : x5_1 < (a1.size : Int) := of_decide_eq_true (by first | (with_reducible assumption) | assumption)
    have hx8 := bt_at a1 x5_1
    replace p8 := eq_true p8
    replace q8 := eq_true q8
    have hcz12_0 := cz0 BK488
    have hcz12_1 := cz1 BK488
    have hfz12_0 := blk_frozen BK488.out 0
    have hfz12_1 := blk_frozen BK488.out 1
    go_wp2_with (first | (go_at_call 73; (with_reducible refine (spec_l1In.calls (wrap64 ((wrap64 (bt a1 x5_1)) - 48)) 0 (wrap64 (a0_1 - 1)) false _ A9.out).mono ?_); rintro e w' ⟨rfl, ⟨nd, rfl⟩⟩; (try first | exact ⟨rfl, _, World.drewN_drewN _ _ _⟩ | exact ⟨rfl, _, Eq.trans (World.drewN_drewN _ _ _) (congrArg (World.drewN _) (Nat.add_assoc _ _ _))⟩)))
    repeat (go_quiet (first | (go_at_call 73; (with_reducible refine (spec_l1In.calls (wrap64 ((wrap64 (bt a1 x5_1)) - 48)) 0 (wrap64 (a0_1 - 1)) false _ A9.out).mono ?_); rintro e w' ⟨rfl, ⟨nd, rfl⟩⟩; (try first | exact ⟨rfl, _, World.drewN_drewN _ _ _⟩ | exact ⟨rfl, _, Eq.trans (World.drewN_drewN _ _ _) (congrArg (World.drewN _) (Nat.add_assoc _ _ _))⟩))); try go_wp2_with (first | (go_at_call 73; (with_reducible refine (spec_l1In.calls (wrap64 ((wrap64 (bt a1 x5_1)) - 48)) 0 (wrap64 (a0_1 - 1)) false _ A9.out).mono ?_); rintro e w' ⟨rfl, ⟨nd, rfl⟩⟩; (try first | exact ⟨rfl, _, World.drewN_drewN _ _ _⟩ | exact ⟨rfl, _, Eq.trans (World.drewN_drewN _ _ _) (congrArg (World.drewN _) (Nat.add_assoc _ _ _))⟩))))
    go_ret
    exact ⟨by first | rfl | (simp [errW_none, errW_some] <;> rfl) | (simp [*, errW_none, errW_some] <;> rfl), bB HB⟩
  subst c10
  rw [if_pos rfl] at H
  have H' := Aside0.mk H
  clear H
  have p8 : 0 ≤ (x5_1 : Int) := of_decide_eq_true (by first | (with_reducible assumption) | assumption)
  have q8 : x5_1 < (a1.size : Int) := of_decide_eq_true (by first | (with_reducible assumption) | assumption)
  have hx8 := bt_at a1 x5_1
  replace p8 := eq_true p8
  replace q8 := eq_true q8
  have hcz11_0 := cz0 BK488
  have hcz11_1 := cz1 BK488
  have hfz11_0 := blk_frozen BK488.out 0
  have hfz11_1 := blk_frozen BK488.out 1
  go_wp2_with (first | (go_at_call 73; (with_reducible refine (spec_l1In.calls (wrap64 ((wrap64 (bt a1 x5_1)) - 48)) 0 (wrap64 (a0_1 - 1)) true _ A9.out).mono ?_); rintro e w' ⟨rfl, ⟨nd, rfl⟩⟩; (try first | exact ⟨rfl, _, World.drewN_drewN _ _ _⟩ | exact ⟨rfl, _, Eq.trans (World.drewN_drewN _ _ _) (congrArg (World.drewN _) (Nat.add_assoc _ _ _))⟩)))
  repeat (go_quiet (first | (go_at_call 73; (with_reducible refine (spec_l1In.calls (wrap64 ((wrap64 (bt a1 x5_1)) - 48)) 0 (wrap64 (a0_1 - 1)) true _ A9.out).mono ?_); rintro e w' ⟨rfl, ⟨nd, rfl⟩⟩; (try first | exact ⟨rfl, _, World.drewN_drewN _ _ _⟩ | exact ⟨rfl, _, Eq.trans (World.drewN_drewN _ _ _) (congrArg (World.drewN _) (Nat.add_assoc _ _ _))⟩))); try go_wp2_with (first | (go_at_call 73; (with_reducible refine (spec_l1In.calls (wrap64 ((wrap64 (bt a1 x5_1)) - 48)) 0 (wrap64 (a0_1 - 1)) true _ A9.out).mono ?_); rintro e w' ⟨rfl, ⟨nd, rfl⟩⟩; (try first | exact ⟨rfl, _, World.drewN_drewN _ _ _⟩ | exact ⟨rfl, _, Eq.trans (World.drewN_drewN _ _ _) (congrArg (World.drewN _) (Nat.add_assoc _ _ _))⟩))))
  go_roundg k1
  case measure => have := HK1.out; omega
  case rel => exact ⟨(wrap64 (x5_1 + 1)), (by first | rfl | (simp; done) | (simp [*]; done)), H', ⟨by have := HK1.out; omega⟩, ⟨bK BK488⟩, ⟨bB HB⟩⟩
end Go.Proofs.YtmpcefcgboljkaaGreat.P
