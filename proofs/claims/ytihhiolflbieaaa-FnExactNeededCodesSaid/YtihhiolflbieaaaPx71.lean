-- Texts of this session's own program (wip/dr.py), which runs the kit's printer.
import Derived.Test.YtihhiolflbieaaaPx0
import Derived.Test.YtihhiolflbieaaaPx2
import Derived.Test.YtihhiolflbieaaaPx32
namespace Go.Proofs.Ytihhiolflbieaaa.P
open Go.RowKit Go.Proofs.YtihhiolflbieaaaW.PrintWords Go.Proofs.YtihhiolflbieaaaW.PrintLast Go.Proofs.YtihhiolflbieaaaW.PrintMore
attribute [local go_sem] max2_int min2_int max_two min_two max_three min_three max_four min_four   -- for this text's walks alone
set_option linter.unusedVariables false
set_option linter.unusedSimpArgs false

/-! ### impl_isSmall: function 82 -/
def impl_isSmall.f (k : Nat) (a0_0 : Int) (a0_1 : Int) (a1 : Int) : Option (Bool) := (impl_IsLock.f a0_0 a0_1).bind fun t510 => (if t510 = true then ((impl_Lock_count.f k a0_0 a0_1).bind fun t511 => (some (decide (t511 ≤ a1)))) else (some false))
theorem impl_isSmall.mono : ∀ a0 a1 a2 k, LeO (impl_isSmall.f k a0 a1 a2) (impl_isSmall.f (k + 1) a0 a1 a2) := by
  intro a0 a1 a2 k
  unfold impl_isSmall.f
  repeat' first
      | (with_reducible exact impl_Lock_count.mono _ _ _)
      | (with_reducible exact LeO.refl _)
      | (with_reducible exact LeO.none _)
      | (with_reducible refine LeO.ite ?_ ?_)
      | (with_reducible refine LeO.bind ?_ (fun _ => ?_))
      | exact impl_Lock_count.mono _ _ _
      | exact LeO.none _
      | refine LeO.ite ?_ ?_
      | refine LeO.bind ?_ (fun _ => ?_)
set_option maxHeartbeats 8000000 in
set_option maxRecDepth 100000 in
theorem impl_isSmall.calls (k : Nat) (a0_0 : Int) (a0_1 : Int) (a1 : Int) (r : Bool) (w : World) (h : impl_isSmall.f k a0_0 a0_1 a1 = some r) :
    Calls Try.prog 82 #[.agg #[.int .i64 a0_0, .int .i64 a0_1], .int .i64 a1] w fun e w' => e = .returned (.bool r) ∧ Below w.heap.size w w' := by
  have hu28 := Try.underlying28
  have HB := Aside0.mk (Below.refl w.heap.size w)
  have H : ((impl_IsLock.f a0_0 a0_1).bind fun t510 => (if t510 = true then ((impl_Lock_count.f k a0_0 a0_1).bind fun t511 => (some (decide (t511 ≤ a1)))) else (some false))) = some r := h
  clear h
  replace H := Option.bind_eq_some_iff.mp H
  obtain ⟨t510, A30, H⟩ := H
  try dsimp only at H
  have A3 := Aside0.mk A30
  clear A30
  by_cases c4 : t510 = true
  rotate_left
  · replace c4 := Bool.eq_false_iff.mpr c4
    subst c4
    rw [if_neg (show ¬ (false = true) by decide)] at H
    obtain rfl := Option.some.inj H
    go_enter Try.func82, Try.ntmps82
    go_wp2_with (first | ((with_reducible refine gate_dst (N := 2) rfl ?_); refine box_event ?hg (N := 2) ?hd (cs := #[.int .i64 a0_0, .int .i64 a0_1]) (t := 28) ?hr ?_; (case hd => rfl); (case hg => rfl); (case hr => first | (go_simp; done) | (go_simp; rfl)); intro gb509 hg w11 hbox hb; have n0_ := bsx hb HB; have n1_ := Aside0.mk (hbox); have n2_ := gwx hg HB; have n3_ := n2_; clear HB; have HB := n0_; have BK509 := n1_; have GW509 := n2_; have GE509 := n3_; clear n0_ n1_ n2_ n3_; clear hb hbox hg; have hcz12_0 := cz0 BK509; have hcz12_1 := cz1 BK509; have hfz12_0 := blk_frozen BK509.out 0; have hfz12_1 := blk_frozen BK509.out 1) | ((with_reducible refine gate_callee (f := 51) rfl ?_); refine goesL_ (some 6) rfl rfl Try.func51 (by kernel_rfl) rfl #[.agg #[.int .i64 a0_0, .int .i64 a0_1]] rfl (by (try simp only [m_1, m_2, m_3]); first | done | rfl | (simp only [m_4, m_5]; rfl)) ?_; (with_reducible refine (impl_IsLock.calls a0_0 a0_1 false _ A3.out).mono ?_); rintro e w13 ⟨rfl, hb⟩; refine ⟨_, rfl, ?_⟩; replace BK509 := bbx hb BK509; replace HB := bsx hb HB; skip; (try clear hb); (try clear hb2); (try clear hk); (try clear hi)))
    go_ret
    exact ⟨by first | rfl | (simp [errW_none, errW_some] <;> rfl) | (simp [*, errW_none, errW_some] <;> rfl), bB HB⟩

  subst c4
  rw [if_pos rfl] at H
  replace H := Option.bind_eq_some_iff.mp H
  obtain ⟨t511, A50, H⟩ := H
  try dsimp only at H
  have A5 := Aside0.mk A50
  clear A50
  obtain rfl := Option.some.inj H
  go_enter Try.func82, Try.ntmps82
  go_wp2_with (first | ((with_reducible refine gate_dst (N := 2) rfl ?_); refine box_event ?hg (N := 2) ?hd (cs := #[.int .i64 a0_0, .int .i64 a0_1]) (t := 28) ?hr ?_; (case hd => rfl); (case hg => rfl); (case hr => first | (go_simp; done) | (go_simp; rfl)); intro gb509 hg w6 hbox hb; have n0_ := bsx hb HB; have n1_ := Aside0.mk (hbox); have n2_ := gwx hg HB; have n3_ := n2_; clear HB; have HB := n0_; have BK509 := n1_; have GW509 := n2_; have GE509 := n3_; clear n0_ n1_ n2_ n3_; clear hb hbox hg; have hcz7_0 := cz0 BK509; have hcz7_1 := cz1 BK509; have hfz7_0 := blk_frozen BK509.out 0; have hfz7_1 := blk_frozen BK509.out 1) | ((with_reducible refine gate_callee (f := 51) rfl ?_); refine goesL_ (some 6) rfl rfl Try.func51 (by kernel_rfl) rfl #[.agg #[.int .i64 a0_0, .int .i64 a0_1]] rfl (by (try simp only [m_1, m_2, m_3]); first | done | rfl | (simp only [m_4, m_5]; rfl)) ?_; (with_reducible refine (impl_IsLock.calls a0_0 a0_1 true _ A3.out).mono ?_); rintro e w8 ⟨rfl, hb⟩; refine ⟨_, rfl, ?_⟩; replace BK509 := bbx hb BK509; replace HB := bsx hb HB; skip; (try clear hb); (try clear hb2); (try clear hk); (try clear hi); have hcz9_0 := cz0 BK509; have hcz9_1 := cz1 BK509; have hfz9_0 := blk_frozen BK509.out 0; have hfz9_1 := blk_frozen BK509.out 1) | (go_at_call 107; (with_reducible refine (impl_Lock_count.calls k a0_0 a0_1 t511 _ A5.out).mono ?_); rintro e w10 ⟨rfl, hb⟩; replace BK509 := bbx hb BK509; replace HB := bsx hb HB; skip; (try clear hb); (try clear hb2); (try clear hk); (try clear hi)))
  go_ret
  exact ⟨by first | rfl | (simp [errW_none, errW_some] <;> rfl) | (simp [*, errW_none, errW_some] <;> rfl), bB HB⟩
/-! ### impl_sorted: function 101 (a text of our own) -/
/-- Texts as lists of bytes, in order, each once. -/
def impl_sorted.bs (l : List ByteArray) : List (List UInt8) := (l.map fun s => s.data.toList).mergeSort fun x y => decide (x ≤ y)
def impl_sorted.val (l : List ByteArray) : List ByteArray := (Lib.compact (impl_sorted.bs l)).map fun b => ⟨b.toArray⟩
def impl_sorted.f (l0 : List ByteArray) : Option (List ByteArray) := if l0.length ≤ 1000000000 then some (impl_sorted.val l0) else none
theorem impl_sorted.enc (l : List ByteArray) : l.map Value.string = (l.map fun s => s.data.toList).map encStr := by
  rw [List.map_map]
  refine List.map_congr_left fun s _ => ?_
  show Value.string s = Value.string ⟨s.data.toList.toArray⟩
  rw [Array.toArray_toList]
theorem impl_sorted.compact_le (zs : List (List UInt8)) : (Lib.compact zs).length ≤ zs.length := by
  unfold Lib.compact Lib.compactUpTo
  rw [List.length_map]
  exact Nat.le_trans (List.length_filter_le _ _) (by simp)
theorem impl_sorted.take_less {cur : Array Value} {m : Nat} {ts us : List (List UInt8)} (h : ts.length + us.length ≤ cur.size) (hm : m = ts.length) : (Go.Sort.putCells encStr 0 (ts ++ us).toArray cur).toList.take (m * 1) = ts.map encStr := by
  have h1 := take_putCells cur (ts ++ us) (by rw [List.length_append]; exact h)
  have h2 := congrArg (List.take m) h1
  rw [List.take_take, List.length_append, Nat.min_eq_left (by omega), List.map_append, List.take_left' (by rw [List.length_map]; exact hm.symm)] at h2
  rw [Nat.mul_one]
  exact h2
/-- What the row is behind both calls. -/
theorem impl_sorted.last {P0_ : Nat → Prop} {w0 w : World} {g cap : Nat} {cur : Array Value} {l : List ByteArray} {n q : Nat} {os : Array Obj} (hB : Below w0.heap.size w0 w) (hle : w0.heap.size ≤ g) (hP : P0_ g)
    (hb : w.heap[g]? = some (.cells cur 9 (0, 0))) (hlen : l.length ≤ cap) (hmax : cap ≤ maxLen) (hsz : cur.size = cap * 1) :
    let w1 := Go.Sort.grow (Go.Sort.putRow encStr (Go.Sort.ahead w n) g 0 (impl_sorted.bs l).toArray) os
    let w2 := Go.Sort.putRow encStr (Go.Sort.ahead w1 q) g 0 (Lib.compact (impl_sorted.bs l) ++ List.replicate ((impl_sorted.bs l).length - (Lib.compact (impl_sorted.bs l)).length) []).toArray
    Kd.R Kd.string 9 w2 w0.heap.size (fun k_ => (P0_ k_ ∨ w.heap.size ≤ k_)) (.slice (some ⟨g, 0, none⟩) (Lib.compact (impl_sorted.bs l)).length cap) (impl_sorted.val l) ∧ Below w0.heap.size w0 w2 ∧ Kept w w2 (fun k_ => P0_ k_) := by
  intro w1 w2
  have hbl : (impl_sorted.bs l).length = l.length := by unfold impl_sorted.bs; rw [List.length_mergeSort, List.length_map]
  have hcl := impl_sorted.compact_le (impl_sorted.bs l)
  have e2 : w2 = Go.Sort.grow w2 #[] := by simp
  have g1 : w.grownBy w1 (some g) := grownBy_sorted _
  have g2 : w1.grownBy w2 (some g) := by rw [e2]; exact grownBy_sorted _
  have h1 : w1.heap[g]? = some (.cells (Go.Sort.putCells encStr 0 (impl_sorted.bs l).toArray cur) 9 (0, 0)) := heap_sorted _ hb
  have h2 : w2.heap[g]? = some (.cells (Go.Sort.putCells encStr 0 (Lib.compact (impl_sorted.bs l) ++ List.replicate ((impl_sorted.bs l).length - (Lib.compact (impl_sorted.bs l)).length) []).toArray (Go.Sort.putCells encStr 0 (impl_sorted.bs l).toArray cur)) 9 (0, 0)) := by rw [e2]; exact heap_sorted _ h1
  refine ⟨?_, ?_, ?_⟩
  · refine Kd.R_of_own (enc := Value.string) ?_ (fun k hk => .inl (by have e_ : some g = some k := hk; cases e_; exact hP))
    have el : (impl_sorted.val l).length = (Lib.compact (impl_sorted.bs l)).length := by unfold impl_sorted.val; rw [List.length_map]
    rw [el]
    have ee : encs Value.string (impl_sorted.val l) = (Lib.compact (impl_sorted.bs l)).map encStr := by unfold encs impl_sorted.val; rw [List.map_map]; rfl
    rw [ee]
    refine ⟨by simp, .inr ⟨g, cap, _, rfl, hle, h2, by omega, hmax, by simp [Go.Sort.putCells, hsz], ?_⟩⟩
    exact impl_sorted.take_less (by simp [Go.Sort.putCells, hsz]; omega) rfl
  · exact (hB.grown g1 hB.size (fun k e => by cases e; exact hle)).grown g2 (hB.grown g1 hB.size (fun k e => by cases e; exact hle)).size (fun k e => by cases e; exact hle)
  · exact Kept.of_grown g2 (Kept.of_grown g1 (Kept.refl w _) (fun k e => by cases e; exact .inl hP)) (fun k e => by cases e; exact .inl hP)
set_option maxHeartbeats 1000000 in
set_option maxRecDepth 100000 in
theorem impl_sorted.calls (P0_ : Nat → Prop) (u9000_ : Value) (l0 : List ByteArray) (r : List ByteArray) (w0 w : World) (hB : Below w0.heap.size w0 w) (ho0 : Kd.R Kd.string 9 w w0.heap.size P0_ u9000_ l0) (h : impl_sorted.f l0 = some r) :
    Calls Try.prog 101 #[u9000_] w fun e w' => ∃ v0_ : Value, e = .returned (v0_) ∧ Kd.R Kd.string 9 w' w0.heap.size (fun k_ => (P0_ k_ ∨ w.heap.size ≤ k_)) v0_ r ∧ Below w0.heap.size w0 w' ∧ Kept w w' (fun k_ => P0_ k_) := by
  unfold impl_sorted.f at h
  by_cases hn : l0.length ≤ 1000000000
  · rw [if_pos hn] at h
    obtain rfl := Option.some.inj h
    clear h
    have own := Kd.own_of_R ho0
    rcases own.2 with ⟨hu, h0⟩ | ⟨g, cap, cur, hu, hle, hb, hlen, hmax, hsz, htake⟩
    · subst hu
      obtain rfl : l0 = [] := List.length_eq_zero_iff.mp h0
      have c1 := Aside0.mk (Try.slices_Sort_string_none none 0 w)
      have c2 := Aside0.mk (Try.slices_Compact_string_empty none 0 w)
      have hv : impl_sorted.val [] = [] := by unfold impl_sorted.val impl_sorted.bs; simp [Lib.compact, Lib.compactUpTo]
      rw [hv]
      have fin := Aside0.mk (And.intro (Kd.R_mono ho0 (ok' := fun k_ => (P0_ k_ ∨ w.heap.size ≤ k_)) (fun k hk => .inl hk)) (And.intro hB (Kept.refl w (fun k_ => P0_ k_))))
      clear hv
      clear own ho0 hB hn h0
      go_enter Try.func101, Try.ntmps101
      go_wp2_with (first | (go_at_call 147; (with_reducible refine c1.out.mono ?_); rintro e w' ⟨rfl, rfl⟩) | (go_at_call 148; (with_reducible refine c2.out.mono ?_); rintro e w' ⟨rfl, rfl⟩))
      go_ret
      exact ⟨_, rfl, fin.out⟩
    · subst hu
      have hP : P0_ g := ho0.1 g rfl
      have hblk : g < w.heap.size := (Array.getElem?_eq_some_iff.1 hb).1
      have hbl : (impl_sorted.bs l0).length = l0.length := by unfold impl_sorted.bs; rw [List.length_mergeSort, List.length_map]
      have hH : Go.Sort.Holds encStr w g 0 (l0.map fun s => s.data.toList).toArray := holds_of_block hb (by rw [List.length_map, ← impl_sorted.enc]; rw [Nat.mul_one] at htake; exact htake)
      have c1 := Try.slices_Sort_string g 0 cap (l0.map fun s => s.data.toList) w hH hblk (by rw [List.length_map]; omega)
      rw [List.length_map] at c1
      have C1 := Aside0.mk c1
      have C2 : Aside0 (∀ n os, Calls Try.prog 148 #[.slice (some ⟨g, 0, none⟩) l0.length cap] (Go.Sort.grow (Go.Sort.putRow encStr (Go.Sort.ahead w n) g 0 (impl_sorted.bs l0).toArray) os) fun e w' => e = .returned (.slice (some ⟨g, 0, none⟩) (Lib.compact (impl_sorted.bs l0)).length cap) ∧ ∃ q, w' = Go.Sort.putRow encStr (Go.Sort.ahead (Go.Sort.grow (Go.Sort.putRow encStr (Go.Sort.ahead w n) g 0 (impl_sorted.bs l0).toArray) os) q) g 0 (Lib.compact (impl_sorted.bs l0) ++ List.replicate ((impl_sorted.bs l0).length - (Lib.compact (impl_sorted.bs l0)).length) []).toArray) := ⟨fun n os => by
        have hh : Go.Sort.Holds encStr (Go.Sort.grow (Go.Sort.putRow encStr (Go.Sort.ahead w n) g 0 (impl_sorted.bs l0).toArray) os) g 0 (impl_sorted.bs l0).toArray := holds_of_block (heap_sorted _ hb) (take_putCells cur _ (by omega))
        have := Try.slices_Compact_string g 0 cap (impl_sorted.bs l0) _ hh (by omega) (by omega)
        rw [hbl] at this ⊢
        exact this⟩
      have FIN := Aside0.mk (fun n q os => impl_sorted.last (l := l0) (n := n) (q := q) (os := os) hB hle hP hb hlen hmax hsz)
      clear c1 hH hbl hblk hP own ho0 hB hn hle hb hlen hmax hsz htake
      go_enter Try.func101, Try.ntmps101
      go_wp2_with (first | (go_at_call 147; (with_reducible refine C1.out.mono ?_); rintro e w' ⟨rfl, n, os, rfl⟩) | (go_at_call 148; refine (C2.out n os).mono ?_; rintro e w' ⟨rfl, q, rfl⟩))
      go_ret
      exact ⟨_, rfl, FIN.out n q os⟩
  · rw [if_neg hn] at h; exact absurd h (by simp)


end Go.Proofs.Ytihhiolflbieaaa.P
