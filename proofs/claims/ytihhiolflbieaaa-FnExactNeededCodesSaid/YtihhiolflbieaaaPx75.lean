-- Texts of this session's own program (wip/dr.py), which runs the kit's printer.
import Derived.Test.YtihhiolflbieaaaPx0
import Derived.Test.YtihhiolflbieaaaPx5
import Derived.Test.YtihhiolflbieaaaPx73
namespace Go.Proofs.Ytihhiolflbieaaa.P
open Go.RowKit Go.Proofs.YtihhiolflbieaaaW.PrintWords Go.Proofs.YtihhiolflbieaaaW.PrintLast Go.Proofs.YtihhiolflbieaaaW.PrintMore
attribute [local go_sem] max2_int min2_int max_two min_two max_three min_three max_four min_four   -- for this text's walks alone
set_option linter.unusedVariables false
set_option linter.unusedSimpArgs false

/-! ### impl_Lock_number: function 68 -/
def impl_Lock_number.l0 : Nat → Int → List Int → Int → Int → Int → Int → Option (Int)
  | 0, _, _, _, _, _, _ => none
  | k + 1, x5, x9, x10, x11, x526000, x526001 => if x11 < x10 then (if 0 ≤ x11 then (if x11 < (x9.length : Int) then (impl_Lock_number.l0 k (wrap64 ((wrap64 (x5 * x526001)) + (rd x9 x11))) x9 x10 (wrap64 (x11 + 1)) x526000 x526001) else (none)) else (none)) else (some x5)
def impl_Lock_number.f (k : Nat) (a0_0 : Int) (a0_1 : Int) (a1 : ByteArray) : Option (Int) := (impl_digits.f k a1).bind fun t526 => (impl_Lock_number.l0 k 0 t526 (t526.length : Int) 0 a0_0 a0_1)
theorem impl_Lock_number.mono_l : ∀ k, (∀ y0 y1 y2 y3 y4 y5, LeO (impl_Lock_number.l0 k y0 y1 y2 y3 y4 y5) (impl_Lock_number.l0 (k + 1) y0 y1 y2 y3 y4 y5))
  | 0 => fun _ _ _ _ _ _ r h => by simp [impl_Lock_number.l0] at h
  | k + 1 => by
    have ih0 := impl_Lock_number.mono_l k
    · intro y0 y1 y2 y3 y4 y5
      unfold impl_Lock_number.l0
      repeat' first
      | (with_reducible exact ih0 _ _ _ _ _ _)
      | (with_reducible exact impl_digits.mono _ _)
      | (with_reducible exact LeO.refl _)
      | (with_reducible exact LeO.none _)
      | (with_reducible refine LeO.ite ?_ ?_)
      | (with_reducible refine LeO.bind ?_ (fun _ => ?_))
      | exact ih0 _ _ _ _ _ _
      | exact impl_digits.mono _ _
      | exact LeO.none _
      | refine LeO.ite ?_ ?_
      | refine LeO.bind ?_ (fun _ => ?_)
theorem impl_Lock_number.mono : ∀ a0 a1 a2 k, LeO (impl_Lock_number.f k a0 a1 a2) (impl_Lock_number.f (k + 1) a0 a1 a2) := by
  intro a0 a1 a2 k
  have ih0 := impl_Lock_number.mono_l k
  unfold impl_Lock_number.f
  repeat' first
      | (with_reducible exact ih0 _ _ _ _ _ _)
      | (with_reducible exact impl_digits.mono _ _)
      | (with_reducible exact LeO.refl _)
      | (with_reducible exact LeO.none _)
      | (with_reducible refine LeO.ite ?_ ?_)
      | (with_reducible refine LeO.bind ?_ (fun _ => ?_))
      | exact ih0 _ _ _ _ _ _
      | exact impl_digits.mono _ _
      | exact LeO.none _
      | refine LeO.ite ?_ ?_
      | refine LeO.bind ?_ (fun _ => ?_)
set_option maxHeartbeats 8000000 in
set_option maxRecDepth 100000 in
theorem impl_Lock_number.calls (k : Nat) (a0_0 : Int) (a0_1 : Int) (a1 : ByteArray) (r : Int) (w : World) (h : impl_Lock_number.f k a0_0 a0_1 a1 = some r) :
    Calls Try.prog 68 #[.agg #[.int .i64 a0_0, .int .i64 a0_1], .string a1] w fun e w' => e = .returned (.int .i64 r) ∧ Below w.heap.size w w' := by
  have hu28 := Try.underlying28
  have HB := Aside0.mk (Below.refl w.heap.size w)
  have H : ((impl_digits.f k a1).bind fun t526 => (impl_Lock_number.l0 k 0 t526 (t526.length : Int) 0 a0_0 a0_1)) = some r := h
  clear h
  replace H := Option.bind_eq_some_iff.mp H
  obtain ⟨t526, A30, H⟩ := H
  try dsimp only at H
  have A3 := Aside0.mk A30
  clear A30
  have H' := Aside0.mk H
  clear H
  go_enter Try.func68, Try.ntmps68
  go_wp2_with (first | ((with_reducible refine gate_dst (N := 2) rfl ?_); refine box_event ?hg (N := 2) ?hd (cs := #[.int .i64 a0_0, .int .i64 a0_1]) (t := 28) ?hr ?_; (case hd => rfl); (case hg => rfl); (case hr => first | (go_simp; done) | (go_simp; rfl)); intro gb525 hg w4 hbox hb; have n0_ := bsx hb HB; have n1_ := Aside0.mk (hbox); have n2_ := gwx hg HB; have n3_ := n2_; clear HB; have HB := n0_; have BK525 := n1_; have GW525 := n2_; have GE525 := n3_; clear n0_ n1_ n2_ n3_; clear hb hbox hg) | ((with_reducible refine gate_callee (f := 121) rfl ?_); refine goesL_ (some 9) rfl rfl Try.func121 (by kernel_rfl) rfl #[.string a1] rfl (by (try simp only [m_1, m_2, m_3]); first | done | rfl | (simp only [m_4, m_5]; rfl)) ?_; (with_reducible refine (impl_digits.calls k a1 t526 _ A3.out).mono ?_); rintro e w5 ⟨v527, rfl, ho0, hb⟩; refine ⟨_, rfl, ?_⟩; have n0_ := Aside0.mk (Kd.R_lower ho0 (below_size (bB HB))); replace BK525 := bbx hb BK525; have n2_ := bsx hb HB; clear HB; have HO528 := n0_; have HB := n2_; clear n0_ n2_; (try clear hb); (try clear hb2); (try clear hk); (try clear hi); (try clear ho0); obtain ⟨Ao6, co6, eo6⟩ := Kd.R_slice HO528.out; subst eo6))
  go_loopg [5, 11] k (fun kq v5 v11 w' => ∃ (x5_1 : Int) (x11_1 : Int), v5 = .int .i64 x5_1 ∧ v11 = .int .i64 x11_1 ∧ Aside0 (impl_Lock_number.l0 kq x5_1 t526 (t526.length : Int) x11_1 a0_0 a0_1 = some r) ∧ Aside0 (kq ≤ k) ∧ Aside0 (Kd.R (Kd.int .i64) 3 w' w.heap.size (fun _ => True) (.slice Ao6 t526.length co6) t526) ∧ Aside0 (w'.heap[gb525]? = some (.cells #[.int .i64 a0_0, .int .i64 a0_1] 28 (0, 0))) ∧ Aside0 (Below w.heap.size w w'))
  case atStart => refine ⟨(0), (0), (by first | rfl | (simp; done) | (simp [*]; done)), (by first | rfl | (simp; done) | (simp [*]; done)), H', ⟨Nat.le_refl _⟩, ⟨?_⟩, ⟨?_⟩, ⟨bB HB⟩⟩ <;> (with_reducible repeat (first | refine g_d ?_ _ | refine g_e ?_ | refine g_a ?_ _ | apply r_a | apply r_d | apply r_e)) <;> first | exact BK525.out | exact HO528.out
  clear H'
  obtain ⟨x5_1, x11_1, rfl, rfl, HA, HK1, HO_9, BK525, HB⟩ := hrel
  rcases gk with _ | k1
  · exact absurd HA.out (by simp [impl_Lock_number.l0])
  have H := HA.out
  clear HA
  simp only [impl_Lock_number.l0] at H
  by_cases c7 : x11_1 < (t526.length : Int)
  rotate_left
  · rw [if_neg c7] at H
    have c7b0 : decide (x11_1 < (t526.length : Int)) = false := decide_eq_false c7
    clear c7
    obtain rfl := Option.some.inj H
    go_wp2
    go_ret
    exact ⟨by first | rfl | (simp [errW_none, errW_some] <;> rfl) | (simp [*, errW_none, errW_some] <;> rfl), bB HB⟩

  rw [if_pos c7] at H
  have c7b0 : decide (x11_1 < (t526.length : Int)) = true := decide_eq_true c7
  clear c7
  by_cases c8 : 0 ≤ x11_1
  rotate_left
  · rw [if_neg c8] at H
    exact absurd H (by simp)
  rw [if_pos c8] at H
  have c8b0 : decide (0 ≤ x11_1) = true := decide_eq_true c8
  clear c8
  by_cases c9 : x11_1 < (t526.length : Int)
  rotate_left
  · rw [if_neg c9] at H
    exact absurd H (by simp)
  rw [if_pos c9] at H
  have c9b0 : decide (x11_1 < (t526.length : Int)) = true := decide_eq_true c9
  clear c9
  have H' := Aside0.mk H
  clear H
  have p529 : 0 ≤ (x11_1 : Int) := of_decide_eq_true (by first | (with_reducible assumption) | assumption)
  have q529 : x11_1 < (t526.length : Int) := of_decide_eq_true (by first | (with_reducible assumption) | assumption)
  obtain ⟨ad529, e529, hx529_0⟩ := Kd.at_int (Kd.R_reads' HO_9.out).2.2 x11_1 p529 q529
  cases e529
  replace p529 := eq_true p529
  replace q529 := eq_true q529
  have hcz10_0 := cz0 BK525
  have hcz10_1 := cz1 BK525
  have hfz10_0 := blk_frozen BK525.out 0
  have hfz10_1 := blk_frozen BK525.out 1
  go_wp2
  go_roundg k1
  case measure => have := HK1.out; omega
  case rel => refine ⟨(wrap64 ((wrap64 (x5_1 * a0_1)) + (rd t526 x11_1))), (wrap64 (x11_1 + 1)), (by first | rfl | (simp; done) | (simp [*]; done)), (by first | rfl | (simp; done) | (simp [*]; done)), H', ⟨by have := HK1.out; omega⟩, ⟨?_⟩, ⟨?_⟩, ⟨bB HB⟩⟩ <;> (with_reducible repeat (first | refine g_d ?_ _ | refine g_e ?_ | refine g_a ?_ _ | apply r_a | apply r_d | apply r_e)) <;> first | exact BK525.out | exact HO_9.out
/-! ### slices_Repeat_int_int: function 120 (a text of our own) -/
def slices_Repeat_int_int.f (l0 : List Int) (a1 : Int) : Option (List Int) := if l0.length = 1 then (if 1 ≤ a1 then (if a1 ≤ 1000000 then some (List.replicate a1.toNat (rd l0 0)) else none) else none) else none
/-- The row while it is filled: m numbers lie there. -/
def slices_Repeat_int_int.rowL (x : Int) (n m : Nat) (rest : List Value) : List Value := List.replicate m (.int .i64 x) ++ (List.replicate (n - m) (.int .i64 0) ++ rest)
theorem slices_Repeat_int_int.rowL_len (x : Int) (n m : Nat) (rest : List Value) (h : m ≤ n) : (slices_Repeat_int_int.rowL x n m rest).length = n + rest.length := by
  unfold slices_Repeat_int_int.rowL; simp only [List.length_append, List.length_replicate]; omega
theorem slices_Repeat_int_int.splice_ (x : Int) (n m c : Nat) (rest : List Value) (h : m + c ≤ n) : splice (slices_Repeat_int_int.rowL x n m rest) m (List.replicate c (.int .i64 x)) = slices_Repeat_int_int.rowL x n (m + c) rest := by
  unfold splice slices_Repeat_int_int.rowL
  rw [List.take_left' (List.length_replicate ..), List.length_replicate]
  have e : (List.replicate m (Value.int .i64 x) ++ (List.replicate (n - m) (Value.int .i64 0) ++ rest)).drop (m + c) = List.replicate (n - (m + c)) (Value.int .i64 0) ++ rest := by
    rw [List.drop_append, List.length_replicate, List.drop_of_length_le (by rw [List.length_replicate]; omega), List.nil_append, show m + c - m = c by omega, List.drop_append, List.length_replicate, List.drop_replicate, show c - (n - m) = 0 by omega, List.drop_zero, show n - m - c = n - (m + c) by omega]
  rw [e, ← List.append_assoc, List.replicate_append_replicate]
theorem slices_Repeat_int_int.splice0 {x : Int} {n : Nat} {rest : List Value} (h : 1 ≤ n) : splice (slices_Repeat_int_int.rowL x n 0 rest) 0 [.int .i64 x] = slices_Repeat_int_int.rowL x n 1 rest := by
  have := slices_Repeat_int_int.splice_ x n 0 1 rest (by omega)
  rwa [Nat.zero_add] at this
theorem slices_Repeat_int_int.fit0 {x : Int} {n : Nat} {rest : List Value} (h : 1 ≤ n) : 0 + ([Value.int .i64 x]).length ≤ (slices_Repeat_int_int.rowL x n 0 rest).length := by
  rw [slices_Repeat_int_int.rowL_len _ _ _ _ (by omega)]; simp only [List.length_cons, List.length_nil]; omega
theorem slices_Repeat_int_int.src {w : World} {g n m c : Nat} {x : Int} {rest : List Value} (h : w.heap[g]? = some (.cells (slices_Repeat_int_int.rowL x n m rest).toArray 3 (0, 0))) (hc : c ≤ m) : ∀ j v, (List.replicate c (Value.int .i64 x))[j]? = some v → w.cell? (Addr.add ⟨g, 0, none⟩ j) = some v := by
  intro j v hv
  obtain ⟨hj, e⟩ := List.getElem?_eq_some_iff.mp hv
  rw [List.length_replicate] at hj
  rw [List.getElem_replicate] at e
  have e2 : Addr.add ⟨g, 0, none⟩ j = ⟨g, j, none⟩ := by by_cases q : j = 0 <;> simp [Addr.add, q]
  rw [e2, blk_cell h j, ← e]
  unfold slices_Repeat_int_int.rowL
  rw [List.getElem?_toArray, List.getElem?_append_left (by rw [List.length_replicate]; omega), List.getElem?_replicate, if_pos (by omega)]
theorem slices_Repeat_int_int.one {w : World} {A : Option Addr} {x : Int} (h : Kd.C (Kd.int .i64) w A 1 [x]) : ∃ ad, A = some ad ∧ ∀ j v, [Value.int .i64 x][j]? = some v → w.cell? (ad.add j) = some v := by
  obtain ⟨ad, e, hx⟩ := Kd.at_int h 0 (by omega) (by omega)
  refine ⟨ad, e, fun j v hv => ?_⟩
  cases j with
  | zero => rw [List.getElem?_cons_zero] at hv; cases hv; exact hx
  | succ j => simp at hv
theorem slices_Repeat_int_int.open_ {w0 w : World} {v : Value} {n : Nat} (h : Kd.R (Kd.int .i64) 3 w w0.heap.size (fun _ => True) v (List.replicate (n : Int).toNat 0)) (hn : 1 ≤ n) : ∃ (g cap : Nat) (rest : List Value), v = .slice (some ⟨g, 0, none⟩) n cap ∧ w0.heap.size ≤ g ∧ (∀ x : Int, w.heap[g]? = some (.cells (slices_Repeat_int_int.rowL x n 0 rest).toArray 3 (0, 0))) ∧ (n ≤ cap ∧ cap ≤ maxLen ∧ rest.length = cap - n) := by
  rw [Int.toNat_natCast] at h
  have own := Kd.own_of_R h
  rcases own.2 with ⟨hu, h0⟩ | ⟨g, cap, cur, hu, hle, hb, hlen, hmax, hsz, htake⟩
  · rw [List.length_replicate] at h0; omega
  rw [List.length_replicate] at hu hlen htake
  refine ⟨g, cap, cur.toList.drop n, hu, hle, fun x => ?_, hlen, hmax, by rw [List.length_drop, Array.length_toList]; omega⟩
  have e : slices_Repeat_int_int.rowL x n 0 (cur.toList.drop n) = cur.toList := by
    unfold slices_Repeat_int_int.rowL
    rw [Nat.mul_one] at htake
    have e2 : encs (Value.int .i64) (List.replicate n (0 : Int)) = List.replicate n (.int .i64 0) := by unfold encs; rw [List.map_replicate]
    rw [e2] at htake
    rw [List.replicate_zero, List.nil_append, Nat.sub_zero, ← htake, List.take_append_drop]
  rw [e, Array.toArray_toList]
  exact hb
theorem slices_Repeat_int_int.close_ {w0 w : World} {g cap n : Nat} {x : Int} {rest : List Value} (hge : w0.heap.size ≤ g) (hb : w.heap[g]? = some (.cells (slices_Repeat_int_int.rowL x n n rest).toArray 3 (0, 0))) (hc : n ≤ cap ∧ cap ≤ maxLen ∧ rest.length = cap - n) : Kd.R (Kd.int .i64) 3 w w0.heap.size (fun _ => True) (.slice (some ⟨g, 0, none⟩) n cap) (List.replicate n x) := by
  refine Kd.R_of_own (enc := Value.int .i64) ?_ (fun _ _ => trivial)
  rw [List.length_replicate]
  have e2 : encs (Value.int .i64) (List.replicate n x) = List.replicate n (.int .i64 x) := by unfold encs; rw [List.map_replicate]
  rw [e2]
  refine ⟨by rw [List.length_replicate, Nat.mul_one], .inr ⟨g, cap, _, rfl, hge, hb, hc.1, hc.2.1, ?_, ?_⟩⟩
  · rw [List.size_toArray, slices_Repeat_int_int.rowL_len _ _ _ _ (Nat.le_refl _)]; omega
  · unfold slices_Repeat_int_int.rowL
    rw [Nat.mul_one, List.toList_toArray, List.take_left' (List.length_replicate ..)]
set_option maxHeartbeats 8000000 in
set_option maxRecDepth 100000 in
theorem slices_Repeat_int_int.calls (A0 : Option Addr) (c0 : Nat) (l0 : List Int) (a1 : Int) (r : List Int) (w : World) (hr0 : Kd.C (Kd.int .i64) w A0 l0.length l0) (hc0 : l0.length ≤ c0) (h : slices_Repeat_int_int.f l0 a1 = some r) :
    Calls Try.prog 120 #[.slice A0 l0.length c0, .int .i64 a1] w fun e w' => ∃ v0_ : Value, e = .returned (v0_) ∧ Kd.R (Kd.int .i64) 3 w' w.heap.size (fun _ => True) v0_ r ∧ Below w.heap.size w w' := by
  unfold slices_Repeat_int_int.f at h
  by_cases q0 : l0.length = 1
  rotate_left
  · rw [if_neg q0] at h; exact absurd h (by simp)
  rw [if_pos q0] at h
  by_cases q1 : 1 ≤ a1
  rotate_left
  · rw [if_neg q1] at h; exact absurd h (by simp)
  rw [if_pos q1] at h
  by_cases q2 : a1 ≤ 1000000
  rotate_left
  · rw [if_neg q2] at h; exact absurd h (by simp)
  rw [if_pos q2] at h
  obtain rfl := Option.some.inj h
  clear h hc0
  obtain ⟨x, rfl⟩ : ∃ x, l0 = [x] := List.length_eq_one_iff.mp q0
  obtain ⟨n, rfl⟩ : ∃ n : Nat, a1 = (n : Int) := ⟨a1.toNat, by omega⟩
  have ex : rd [x] 0 = x := rfl
  rw [ex, Int.toNat_natCast]
  have LM := Aside0.mk (show 1 ≤ n ∧ n ≤ 1000000 by omega)
  have HR0 := Aside0.mk hr0
  have HSZ : Aside0 ((Try.prog.info? 3).map (·.size) = some 1) := ⟨by obtain ⟨i, hi, _, hs, _⟩ := info_parts info3; rw [hi]; simp [hs]⟩
  have HB := Aside0.mk (Below.refl w.heap.size w)
  have hw1 : IntKind.u64.wrap (n : Int) = (n : Int) := by simp [IntKind.wrap, IntKind.bits]; omega
  have hw2 : IntKind.i64.wrap (n : Int) = (n : Int) := (i64_w _).trans (by unfold wrap64; omega)
  have hn0 : decide ((n : Int) < 0) = false := decide_eq_false (by omega)
  have hn1 : decide ((n : Int) > 9223372036854775807) = false := decide_eq_false (by omega)
  have HM : ∀ W : World, Calls Try.prog 153 #[.int .u64 1, .int .u64 (n : Int)] W fun e w' => e = .returned (.tuple #[.int .u64 0, .int .u64 (n : Int)]) ∧ w' = W := fun W => by
    have := Try.bits_Mul 1 n (by decide) (by omega) W
    rw [show 1 * n / 18446744073709551616 = 0 by omega, show 1 * n % 18446744073709551616 = n by omega] at this
    exact this
  clear hr0 q0 q1 q2
  go_enter Try.func120, Try.ntmps120
  go_wp2_with (first | (go_at_call 153; (with_reducible refine (HM _).mono ?_); rintro e w2 ⟨rfl, hw_⟩; rw [hw_]; clear hw_) | ((with_reducible refine gate_dst (N := 30) rfl ?_); refine Kd.R_make (Kd.int .i64) _ 3 rfl (N := 30) rfl 72 _ _ rfl (n : Int) rfl rfl Try.underlying72 (.int .i64 0) 8 info3 rfl (by decide) (by omega) 0 (ok := fun _ => True) (okp := fun _ => True) rfl (fun _ hk => hk) trivial (Int.natCast_nonneg n) (by have := LM.out; rw [Int.toNat_natCast]; omega) (Below.refl _ _) (Nat.le_refl _) ?_; intro v30 w3 ho hb hg_ hnew_; clear hg_ hnew_; have hz_ := slices_Repeat_int_int.open_ (Kd.R_lower ho HB.out.size) LM.out.1; obtain ⟨g, cap, rest, e30, GE, BR, HCAP⟩ := hz_; subst e30; replace BR := Aside0.mk (BR x); replace GE := Aside0.mk GE; replace HCAP := Aside0.mk HCAP; replace HB := Aside0.mk (below_step HB.out hb); clear ho hb; have hs_ := Kd.C_below HR0.out HB.out; have hs2_ := slices_Repeat_int_int.one hs_; obtain ⟨ad, ea, hx⟩ := hs2_; subst ea; have HX := Aside0.mk hx; clear hs_ hx) | ((with_reducible refine gate_builtin (b := .copy) (xs := #[.tmp 31, .tmp 32]) rfl ?_); refine wpList_copy_splice rfl (.tmp 31) (.tmp 32) 72 72 rfl 3 Try.underlying72 HSZ.out (some ⟨g, 0, none⟩) (some ad) n cap 1 c0 rfl rfl g 0 (slices_Repeat_int_int.rowL x n 0 rest) 3 BR.out [.int .i64 x] (show 1 = Nat.min 1 n from (Nat.min_eq_left LM.out.1).symm) (fun _ => ⟨rfl, _, rfl, HX.out⟩) (slices_Repeat_int_int.fit0 LM.out.1) (fun v hv => by rw [List.mem_singleton.mp hv]; rfl) w.heap.size w HB.out GE.out ?_; intro w4 hg4 hb4; rw [slices_Repeat_int_int.splice0 LM.out.1] at hg4; replace BR := Aside0.mk (show w4.heap[g]? = some (.cells (slices_Repeat_int_int.rowL x n 1 rest).toArray 3 (0, 0)) from hg4); replace HB := Aside0.mk hb4; clear hg4 hb4))
  go_loopg [8] n (fun kq v8 w' => ∃ m : Nat, v8 = .int .i64 (m : Int) ∧ Aside0 (1 ≤ m ∧ m ≤ n ∧ n ≤ m + kq) ∧ Aside0 (kq ≤ n) ∧ Aside0 (w'.heap[g]? = some (.cells (slices_Repeat_int_int.rowL x n m rest).toArray 3 (0, 0))) ∧ Aside0 (Below w.heap.size w w'))
  case atStart => exact ⟨1, (by first | rfl | (simp; done) | (simp [*]; done)), ⟨Nat.le_refl _, LM.out.1, by omega⟩, ⟨Nat.le_refl _⟩, BR, HB⟩
  case round =>
    clear BR HB HX
    obtain ⟨m, rfl, HMM, HK1, BR, HB⟩ := hrel
    by_cases hm : (m : Int) < (n : Int)
    · have hmb : decide ((m : Int) < (n : Int)) = true := decide_eq_true hm
      have hmc : decide (m < n) = true := decide_eq_true (by omega)
      cases gk with
      | zero => exact absurd HMM.out.2.2 (by omega)
      | succ kq =>
      have HLT := Aside0.mk (show m < n by omega)
      obtain ⟨cc, hcc⟩ : ∃ c_ : Nat, c_ = Nat.min m (n - m) := ⟨_, rfl⟩
      have HCL := Aside0.mk (show cc ≤ m ∧ cc ≤ n - m ∧ 1 ≤ cc by have := HMM.out.1; rw [hcc]; exact ⟨Nat.min_le_left _ _, Nat.min_le_right _ _, by show 1 ≤ min m (n - m); omega⟩)
      have HCC := Aside0.mk HCL.out.1
      have HN : Aside0 ((List.replicate cc (Value.int .i64 x)).length = Nat.min m (n - m)) := ⟨by rw [List.length_replicate, hcc]⟩
      have HFIT : Aside0 (m + (List.replicate cc (Value.int .i64 x)).length ≤ (slices_Repeat_int_int.rowL x n m rest).length) := ⟨by rw [slices_Repeat_int_int.rowL_len _ _ _ _ HMM.out.2.1, List.length_replicate]; have := HCL.out; omega⟩
      have HONE : Aside0 (∀ v ∈ List.replicate cc (Value.int .i64 x), v.oneCell' = true) := ⟨fun v hv => by rw [List.eq_of_mem_replicate hv]; rfl⟩
      have HSP := Aside0.mk (slices_Repeat_int_int.splice_ x n m cc rest (by have := HCL.out; have := HLT.out; omega))
      have HAD : Aside0 (IntKind.i64.wrap ((m : Int) + (cc : Int)) = ((m + cc : Nat) : Int)) := ⟨(i64_w _).trans (by have := HCL.out; have := LM.out; unfold wrap64; omega)⟩
      obtain ⟨i0, hi0, _, hsz0, _⟩ := info_parts info3
      have hcf := cut_from (P := Try.prog) 72 3 .i64 Try.underlying72 hi0 1 hsz0 (some ⟨g, 0, none⟩) n cap (m : Int) (by omega) (by omega)
      have hct := cut_to (P := Try.prog) 72 3 .i64 Try.underlying72 hi0 (some ⟨g, 0, none⟩) n cap (m : Int) (by omega) (by omega) HCAP.out.1
      rw [Int.toNat_natCast] at hcf hct
      have ecf : (if cap = m then (some ⟨g, 0, none⟩ : Option Addr) else (some ⟨g, 0, none⟩ : Option Addr).map (·.add (m * 1))) = some ⟨g, m, none⟩ := by rw [if_neg (by have := HCAP.out.1; have := HLT.out; omega), Nat.mul_one]; have q_ : ¬ m = 0 := (by have := HMM.out.1; omega); simp [Addr.add, q_]
      rw [ecf] at hcf
      have had := HAD.out
      clear ecf hcc hi0 hsz0 hm
      go_wp2
      refine start_ (n := 10) (S := fun w' => True) (ds := []) #[false, false, false, false, false, false, false, false, false, false] (by kernel_rfl) rfl rfl trivial (fun hHeld => ?_)
      have hb := below_drew1 (Below.refl wr.heap.size wr)
      replace BR := Aside0.mk (blk_below BR.out hb)
      replace HB := Aside0.mk (below_step HB.out hb)
      clear hb
      have HPOS : Aside0 (0 < (List.replicate cc (Value.int .i64 x)).length → (some ⟨g, m, none⟩ : Option Addr) = some ⟨g, m, none⟩ ∧ ∃ ad : Addr, (some ⟨g, 0, none⟩ : Option Addr) = some ad ∧ ∀ j v, (List.replicate cc (Value.int .i64 x))[j]? = some v → wr.drew.cell? (ad.add j) = some v) := ⟨fun _ => ⟨rfl, _, rfl, slices_Repeat_int_int.src BR.out HCC.out⟩⟩
      generalize wr.drew = wd at BR HB HPOS hHeld ⊢
      refine pure_ (i := 0) (N := some 38) (v := ?_) (a' := ?_) #[true, false, false, false, false, false, false, false, false, false] rfl rfl (by kernel_rfl) (fun _ _ _ h => h) (Or.inl ⟨by rfl, ?_⟩) ?_ ?_
      rotate_left
      · intro w'
        go_simp
        with_reducible rfl
      rotate_left
      · simp only [Act.put, List.setIfInBounds_toArray, List.set_cons_zero, List.set_cons_succ, i64_w, i32_w]
        rfl
      refine pure_ (i := 1) (N := some 39) (v := ?_) (a' := ?_) #[true, true, false, false, false, false, false, false, false, false] rfl rfl (by kernel_rfl) (fun _ _ _ h => h) (Or.inl ⟨by rfl, ?_⟩) ?_ ?_
      rotate_left
      · intro w'
        go_simp
        with_reducible rfl
      rotate_left
      · simp only [Act.put, List.setIfInBounds_toArray, List.set_cons_zero, List.set_cons_succ, i64_w, i32_w]
        rfl
      refine pure_ (i := 2) (N := some 40) (v := ?_) (a' := ?_) #[true, true, true, false, false, false, false, false, false, false] rfl rfl (by kernel_rfl) (fun _ _ _ h => h) (Or.inl ⟨by rfl, ?_⟩) ?_ ?_
      rotate_left
      · intro w'
        go_simp
        with_reducible rfl
      rotate_left
      · simp only [Act.put, List.setIfInBounds_toArray, List.set_cons_zero, List.set_cons_succ, i64_w, i32_w]
        rfl
      refine pure_ (i := 3) (N := some 41) (v := ?_) (a' := ?_) #[true, true, true, true, false, false, false, false, false, false] rfl rfl (by kernel_rfl) (fun _ _ _ h => h) (Or.inl ⟨by rfl, ?_⟩) ?_ ?_
      rotate_left
      · intro w'
        go_simp
        with_reducible rfl
      rotate_left
      · simp only [Act.put, List.setIfInBounds_toArray, List.set_cons_zero, List.set_cons_succ, i64_w, i32_w]
        rfl
      refine pure_ (i := 4) (N := some 42) (v := ?_) (a' := ?_) #[true, true, true, true, true, false, false, false, false, false] rfl rfl (by kernel_rfl) (fun _ _ _ h => h) (Or.inl ⟨by rfl, ?_⟩) ?_ ?_
      rotate_left
      · intro w'
        go_simp
        with_reducible rfl
      rotate_left
      · simp only [Act.put, List.setIfInBounds_toArray, List.set_cons_zero, List.set_cons_succ, i64_w, i32_w]
        rfl
      refine pure_ (i := 5) (N := some 43) (v := ?_) (a' := ?_) #[true, true, true, true, true, true, false, false, false, false] rfl rfl (by kernel_rfl) (fun _ _ _ h => h) (Or.inl ⟨by rfl, ?_⟩) ?_ ?_
      rotate_left
      · intro w'
        go_simp
        with_reducible rfl
      rotate_left
      · simp only [Act.put, List.setIfInBounds_toArray, List.set_cons_zero, List.set_cons_succ, i64_w, i32_w]
        rfl
      refine pure_ (i := 6) (N := some 44) (v := ?_) (a' := ?_) #[true, true, true, true, true, true, true, false, false, false] rfl rfl (by kernel_rfl) (fun _ _ _ h => h) (Or.inl ⟨by rfl, ?_⟩) ?_ ?_
      rotate_left
      · intro w'
        go_simp
        with_reducible rfl
      rotate_left
      · simp only [Act.put, List.setIfInBounds_toArray, List.set_cons_zero, List.set_cons_succ, i64_w, i32_w]
        rfl
      refine one_ (i := 7) (N := some 45) #[true, true, true, true, true, true, true, true, false, false] rfl rfl (by kernel_rfl) (by decide) (fun K hK => ?_)
      refine step_copy_splice rfl (.tmp 41) (.tmp 44) 72 72 rfl 3 Try.underlying72 HSZ.out (some ⟨g, m, none⟩) (some ⟨g, 0, none⟩) (n - m) (cap - m) m cap rfl rfl g m (slices_Repeat_int_int.rowL x n m rest) 3 BR.out (List.replicate cc (.int .i64 x)) HN.out HPOS.out HFIT.out HONE.out w.heap.size w HB.out GE.out ?_
      intro w4 hg4 hb4
      rw [HSP.out] at hg4
      replace BR := Aside0.mk (show w4.heap[g]? = some (.cells (slices_Repeat_int_int.rowL x n (m + cc) rest).toArray 3 (0, 0)) from hg4)
      replace HB := Aside0.mk hb4
      clear hg4 hb4
      simp only [List.length_replicate]
      refine hK.out _ _ trivial (fun hHeld => ?_)
      clear hK K
      refine norm_ (a' := ?_) ?_ ?_
      rotate_left
      · show Act.put _ (some 45) _ = _
        simp only [Act.put, List.setIfInBounds_toArray, List.set_cons_zero, List.set_cons_succ, i64_w, i32_w]
        rfl
      refine pure_ (i := 8) (N := some 46) (v := ?_) (a' := ?_) #[true, true, true, true, true, true, true, true, true, false] rfl rfl (by kernel_rfl) (fun _ _ _ h => h) (Or.inl ⟨by rfl, ?_⟩) ?_ ?_
      rotate_left
      · intro w'
        go_simp
        with_reducible rfl
      rotate_left
      · simp only [Act.put, List.setIfInBounds_toArray, List.set_cons_zero, List.set_cons_succ, i64_w, i32_w]
        rfl
      refine pure_ (i := 9) (N := some 8) (v := ?_) (a' := ?_) #[true, true, true, true, true, true, true, true, true, true] rfl rfl (by kernel_rfl) (fun _ _ _ h => h) (Or.inl ⟨by rfl, ?_⟩) ?_ ?_
      rotate_left
      · intro w'
        go_simp
        with_reducible rfl
      rotate_left
      · simp only [Act.put, List.setIfInBounds_toArray, List.set_cons_zero, List.set_cons_succ, i64_w, i32_w]
        rfl
      refine done_ (by kernel_rfl) ?_
      try go_wp2
      go_roundg kq
      case measure => have := HK1.out; omega
      case rel => exact ⟨m + cc, (by first | rfl | (simp; done) | (simp [*]; done) | (rw [HAD.out])), ⟨by have := HMM.out; have := HCL.out; have := HLT.out; omega⟩, ⟨by have := HK1.out; omega⟩, BR, HB⟩
    · have hmb : decide ((m : Int) < (n : Int)) = false := decide_eq_false hm
      have hmc : decide (m < n) = false := decide_eq_false (by omega)
      obtain rfl : m = n := by have := HMM.out.2.1; omega
      clear hm
      go_wp2
      go_ret
      exact ⟨_, rfl, slices_Repeat_int_int.close_ GE.out BR.out HCAP.out, HB.out⟩


/-! ### spec_deTwo: function 92 -/
def spec_deTwo.f (k : Nat) (a0_0 : Int) (a0_1 : Int) (l1 : List ByteArray) (a2 : ByteArray) (a3 : ByteArray) : Option (Bool) := (spec_deAsked.f k a0_0 a0_1 l1 a2).bind fun t1143 => (if t1143 = true then ((spec_deAsked.f k a0_0 a0_1 l1 a3).bind fun t1144 => (some t1144)) else (some false))
theorem spec_deTwo.mono : ∀ a0 a1 a2 a3 a4 k, LeO (spec_deTwo.f k a0 a1 a2 a3 a4) (spec_deTwo.f (k + 1) a0 a1 a2 a3 a4) := by
  intro a0 a1 a2 a3 a4 k
  unfold spec_deTwo.f
  repeat' first
      | (with_reducible exact spec_deAsked.mono _ _ _ _ _)
      | (with_reducible exact LeO.refl _)
      | (with_reducible exact LeO.none _)
      | (with_reducible refine LeO.ite ?_ ?_)
      | (with_reducible refine LeO.bind ?_ (fun _ => ?_))
      | exact spec_deAsked.mono _ _ _ _ _
      | exact LeO.none _
      | refine LeO.ite ?_ ?_
      | refine LeO.bind ?_ (fun _ => ?_)
set_option maxHeartbeats 8000000 in
set_option maxRecDepth 100000 in
theorem spec_deTwo.calls (k : Nat) (a0_0 : Int) (a0_1 : Int) (A1 : Option Addr) (c1 : Nat) (l1 : List ByteArray) (a2 : ByteArray) (a3 : ByteArray) (r : Bool) (w : World) (hr1 : Kd.C Kd.string w A1 l1.length l1) (hc1 : l1.length ≤ c1) (h : spec_deTwo.f k a0_0 a0_1 l1 a2 a3 = some r) :
    Calls Try.prog 92 #[.agg #[.int .i64 a0_0, .int .i64 a0_1], .slice A1 l1.length c1, .string a2, .string a3] w fun e w' => e = .returned (.bool r) ∧ Below w.heap.size w w' := by
  have hu28 := Try.underlying28
  have HR1 := Aside0.mk hr1
  have HC1 := Aside0.mk hc1
  clear hr1 hc1
  have HB := Aside0.mk (Below.refl w.heap.size w)
  have H : ((spec_deAsked.f k a0_0 a0_1 l1 a2).bind fun t1143 => (if t1143 = true then ((spec_deAsked.f k a0_0 a0_1 l1 a3).bind fun t1144 => (some t1144)) else (some false))) = some r := h
  clear h
  replace H := Option.bind_eq_some_iff.mp H
  obtain ⟨t1143, A50, H⟩ := H
  try dsimp only at H
  have A5 := Aside0.mk A50
  clear A50
  by_cases c6 : t1143 = true
  rotate_left
  · replace c6 := Bool.eq_false_iff.mpr c6
    subst c6
    rw [if_neg (show ¬ (false = true) by decide)] at H
    obtain rfl := Option.some.inj H
    go_enter Try.func92, Try.ntmps92
    go_wp2_with (first | ((with_reducible refine gate_dst (N := 4) rfl ?_); refine box_event ?hg (N := 4) ?hd (cs := #[.int .i64 a0_0, .int .i64 a0_1]) (t := 28) ?hr ?_; (case hd => rfl); (case hg => rfl); (case hr => first | (go_simp; done) | (go_simp; rfl)); intro gb1142 hg w13 hbox hb; have n0_ := bsx hb HB; have n1_ := Aside0.mk (hbox); have n2_ := gwx hg HB; have n3_ := n2_; clear HB; have HB := n0_; have BK1142 := n1_; have GW1142 := n2_; have GE1142 := n3_; clear n0_ n1_ n2_ n3_; clear hb hbox hg; have hcz14_0 := cz0 BK1142; have hcz14_1 := cz1 BK1142; have hfz14_0 := blk_frozen BK1142.out 0; have hfz14_1 := blk_frozen BK1142.out 1) | ((with_reducible refine gate_callee (f := 84) rfl ?_); refine goesL_ (some 12) rfl rfl Try.func84 (by kernel_rfl) rfl #[.agg #[.int .i64 a0_0, .int .i64 a0_1], .slice A1 l1.length c1, .string a2] rfl (by (try simp only [m_1, m_2, m_3]); first | done | rfl | (simp only [m_4, m_5]; rfl)) ?_; (with_reducible refine (spec_deAsked.calls k a0_0 a0_1 _ _ l1 a2 false _ ?side1 ?side2 A5.out).mono ?_); (case side1 => repeat (first | exact (Kd.C_below HR1.out HB.out) | (with_reducible refine Kd.C_alloc ?_ _) | (with_reducible refine Kd.C_drewN ?_ _) | (with_reducible refine Kd.C_drew ?_))); (case side2 => exact HC1.out); rintro e w15 ⟨rfl, hb⟩; refine ⟨_, rfl, ?_⟩; replace BK1142 := bbx hb BK1142; replace HB := bsx hb HB; skip; (try clear hb); (try clear hb2); (try clear hk); (try clear hi)))
    go_ret
    exact ⟨by first | rfl | (simp [errW_none, errW_some] <;> rfl) | (simp [*, errW_none, errW_some] <;> rfl), bB HB⟩

  subst c6
  rw [if_pos rfl] at H
  replace H := Option.bind_eq_some_iff.mp H
  obtain ⟨t1144, A70, H⟩ := H
  try dsimp only at H
  have A7 := Aside0.mk A70
  clear A70
  obtain rfl := Option.some.inj H
  go_enter Try.func92, Try.ntmps92
  go_wp2_with (first | ((with_reducible refine gate_dst (N := 4) rfl ?_); refine box_event ?hg (N := 4) ?hd (cs := #[.int .i64 a0_0, .int .i64 a0_1]) (t := 28) ?hr ?_; (case hd => rfl); (case hg => rfl); (case hr => first | (go_simp; done) | (go_simp; rfl)); intro gb1142 hg w8 hbox hb; have n0_ := bsx hb HB; have n1_ := Aside0.mk (hbox); have n2_ := gwx hg HB; have n3_ := n2_; clear HB; have HB := n0_; have BK1142 := n1_; have GW1142 := n2_; have GE1142 := n3_; clear n0_ n1_ n2_ n3_; clear hb hbox hg; have hcz9_0 := cz0 BK1142; have hcz9_1 := cz1 BK1142; have hfz9_0 := blk_frozen BK1142.out 0; have hfz9_1 := blk_frozen BK1142.out 1) | ((with_reducible refine gate_callee (f := 84) rfl ?_); refine goesL_ (some 12) rfl rfl Try.func84 (by kernel_rfl) rfl #[.agg #[.int .i64 a0_0, .int .i64 a0_1], .slice A1 l1.length c1, .string a2] rfl (by (try simp only [m_1, m_2, m_3]); first | done | rfl | (simp only [m_4, m_5]; rfl)) ?_; (with_reducible refine (spec_deAsked.calls k a0_0 a0_1 _ _ l1 a2 true _ ?side1 ?side2 A5.out).mono ?_); (case side1 => repeat (first | exact (Kd.C_below HR1.out HB.out) | (with_reducible refine Kd.C_alloc ?_ _) | (with_reducible refine Kd.C_drewN ?_ _) | (with_reducible refine Kd.C_drew ?_))); (case side2 => exact HC1.out); rintro e w10 ⟨rfl, hb⟩; refine ⟨_, rfl, ?_⟩; replace BK1142 := bbx hb BK1142; replace HB := bsx hb HB; skip; (try clear hb); (try clear hb2); (try clear hk); (try clear hi); have hcz11_0 := cz0 BK1142; have hcz11_1 := cz1 BK1142; have hfz11_0 := blk_frozen BK1142.out 0; have hfz11_1 := blk_frozen BK1142.out 1) | (go_at_call 84; (with_reducible refine (spec_deAsked.calls k a0_0 a0_1 _ _ l1 a3 t1144 _ ?side1 ?side2 A7.out).mono ?_); (case side1 => repeat (first | exact (Kd.C_below HR1.out HB.out) | (with_reducible refine Kd.C_alloc ?_ _) | (with_reducible refine Kd.C_drewN ?_ _) | (with_reducible refine Kd.C_drew ?_))); (case side2 => exact HC1.out); rintro e w12 ⟨rfl, hb⟩; replace BK1142 := bbx hb BK1142; replace HB := bsx hb HB; skip; (try clear hb); (try clear hb2); (try clear hk); (try clear hi)))
  go_ret
  exact ⟨by first | rfl | (simp [errW_none, errW_some] <;> rfl) | (simp [*, errW_none, errW_some] <;> rfl), bB HB⟩
end Go.Proofs.Ytihhiolflbieaaa.P
