-- Texts of this session's own program (wip/dr.py), which runs the kit's printer.
import Derived.Test.YtiacdekbleebjaaPx0
import Derived.Test.YtiacdekbleebjaaPx1
import Derived.Test.YtiacdekbleebjaaPx20
import Derived.Test.YtiacdekbleebjaaPx25
import Derived.Test.YtiacdekbleebjaaPx47
namespace Go.Proofs.Ytiacdekbleebjaa.P
open Go.RowKit Go.Proofs.YtiacdekbleebjaaW.PrintWords Go.Proofs.YtiacdekbleebjaaW.PrintLast Go.Proofs.YtiacdekbleebjaaW.PrintMore
attribute [local go_sem] max2_int min2_int max_two min_two max_three min_three max_four min_four   -- for this text's walks alone
set_option linter.unusedVariables false
set_option linter.unusedSimpArgs false

/-! ### laws_markGears: function 12 (a text of our own) -/
def laws_markGears.f (k : Nat) (a0_0 : Int) (a0_1 : Int) (l0_2 : List (List Int)) (a1 : Int) : Option Int := (laws_markIntSS.f k l0_2 a1).map fun b => b.1
theorem laws_markGears.mono : ∀ a0 a1 a2 a3 k, LeO (laws_markGears.f k a0 a1 a2 a3) (laws_markGears.f (k + 1) a0 a1 a2 a3) := by
  intro a0 a1 a2 a3 k r h
  unfold laws_markGears.f at h ⊢
  obtain ⟨b, hb, e⟩ := Option.map_eq_some_iff.mp h
  exact Option.map_eq_some_iff.mpr ⟨b, laws_markIntSS.mono _ _ k b hb, e⟩
/-- What stays where only rows of the types L are written. -/
theorem laws_markGears.keptT {α : Type} {d : Kd α} {e base : Nat} {ok S : Nat → Prop} {w w1 : World} {v : Value} {xs : List α} (L : List Nat) (h : d.R e w base ok v xs) (hk : Kept w w1 S) (hs : ∀ k, S k → ∃ q, q ∈ L ∧ ∃ cells, w.heap[k]? = some (.cells cells q (0, 0))) (hd : ∀ q, q ∈ e :: d.E → q ∉ L) : d.R e w1 base ok v xs := by
  refine Kd.R_mono (Kd.R_move (Kd.R_bound h) (fun k hk' => hk.2 k hk'.2.2.1 (fun hS => ?_))) (fun _ h2 => h2.1)
  obtain ⟨q, hq, cells, hc⟩ := hs k hS
  obtain ⟨_, _, _, q2, hq2, cells2, hc2⟩ := hk'
  rw [hc] at hc2
  injection hc2 with hc2
  injection hc2 with _ hc2
  exact hd q2 hq2 (hc2 ▸ hq)
theorem laws_markGears.blkT {S : Nat → Prop} {w w1 : World} {g t : Nat} {cs : Array Value} (L : List Nat) (h : w.heap[g]? = some (.cells cs t (0, 0))) (hk : Kept w w1 S) (hs : ∀ k, S k → ∃ q, q ∈ L ∧ ∃ cells, w.heap[k]? = some (.cells cells q (0, 0))) (hd : t ∉ L) : w1.heap[g]? = some (.cells cs t (0, 0)) := by
  rw [← h]
  refine hk.2 g (blk_lt h) (fun hS => ?_)
  obtain ⟨q, hq, cells, hc⟩ := hs g hS
  rw [hc] at h
  injection h with h
  injection h with _ h
  exact hd (h ▸ hq)
set_option maxHeartbeats 8000000 in
set_option maxRecDepth 100000 in
theorem laws_markGears.calls (k : Nat) (P0_ : Nat → Prop) (a0_0 : Int) (a0_1 : Int) (u9000_ : Value) (l0_2 : List (List Int)) (a1 : Int) (r : Int) (w0 w : World) (hB : Below w0.heap.size w0 w) (ho0 : Kd.S (Kd.slice 3 (Kd.int .i64)) 40 w w0.heap.size P0_ u9000_ l0_2) (h : laws_markGears.f k a0_0 a0_1 l0_2 a1 = some r) :
    Calls Try.prog 12 #[.agg #[.int .i64 a0_0, .int .i64 a0_1, u9000_], .int .i64 a1] w fun e w' => e = .returned (.int .i64 r) ∧ (∃ l', Kd.S (Kd.slice 3 (Kd.int .i64)) 40 w' w0.heap.size (fun k_ => (P0_ k_ ∨ w.heap.size ≤ k_)) u9000_ l') ∧ Below w0.heap.size w0 w' ∧ Kept w w' (fun k_ => P0_ k_) := by
  have hu33 := Try.underlying33
  have hu24 := Try.underlying24
  obtain ⟨⟨r1, r2⟩, h2, e2⟩ := Option.map_eq_some_iff.mp h
  dsimp only at e2
  subst e2
  clear h
  have A2 := Aside0.mk h2
  clear h2
  obtain ⟨A0, c0, e0⟩ := Kd.S_slice ho0
  subst e0
  have HO := Aside0.mk ho0
  have HB := Aside0.mk hB
  clear ho0 hB
  go_enter Try.func12, Try.ntmps12
  go_wp2_with (first
    | ((with_reducible refine gate_dst (N := 2) rfl ?_); refine box_event ?hg (N := 2) ?hd (cs := #[.int .i64 a0_0, .int .i64 a0_1, .slice A0 l0_2.length c0]) (t := 33) ?hr ?_; (case hd => rfl); (case hg => rfl); (case hr => first | (go_simp; done) | (go_simp; rfl)); intro gb hg w4 hbox hb; have BK := Aside0.mk hbox; replace HO := Aside0.mk (Kd.S_below HO.out hb); have HK := Aside0.mk (Kept.of_below hb (fun k_ => P0_ k_)); replace HB := Aside0.mk (below_step HB.out hb); clear hb hbox hg; have hcz0 : w4.cell? ⟨gb, 0, none⟩ = some (.int .i64 a0_0) := (blk_cell BK.out 0).trans rfl; have hcz1 : w4.cell? ⟨gb, 1, none⟩ = some (.int .i64 a0_1) := (blk_cell BK.out 1).trans rfl; have hcz2 : w4.cell? ⟨gb, 2, none⟩ = some (.slice A0 l0_2.length c0) := (blk_cell BK.out 2).trans rfl)
    | ((with_reducible refine gate_callee (f := 48) rfl ?_); refine goesL_ (some 8) rfl rfl Try.func48 (by kernel_rfl) rfl #[.slice A0 l0_2.length c0, .int .i64 a1] rfl (by (try simp only [List.map_toArray, List.map_cons, List.map_nil]); first | done | rfl) ?_; (with_reducible refine (laws_markIntSS.calls k (fun k_ => P0_ k_) _ l0_2 a1 r1 r2 w0 _ ?side1 ?side2 A2.out).mono ?_); (case side1 => exact HB.out); (case side2 => exact HO.out); rintro e w6 ⟨rfl, hr6, hb6, hk6⟩; refine ⟨_, rfl, ?_⟩; have HK2 := Aside0.mk (Kept.then_ HK.out hk6 (fun k_ ho => .inl ho)); have HO2 := Aside0.mk (Kd.S_mono (ok' := fun k_ => (P0_ k_ ∨ w.heap.size ≤ k_)) hr6 (fun k_ hk => hk.elim (fun a => .inl a) (fun a => .inr (Nat.le_trans HK.out.1 a)))); have HB2 := Aside0.mk hb6; clear hr6 hb6 hk6))
  go_ret
  exact ⟨rfl, ⟨_, HO2.out⟩, HB2.out, HK2.out⟩


/-! ### laws_markTurnS: function 13 -/
def laws_markTurnS.l0 : Nat → List (S48) → Int → Int → Option (Int × (List (S48)))
  | 0, _, _, _ => none
  | k + 1, x0, x1, x5 => if x5 < (x0.length : Int) then (if 0 ≤ x5 then ((some (x0.set (x5 : Int).toNat (⟨x1, (rd_T48 x0 x5).f1⟩ : S48) : List (S48))).bind fun y358 => (laws_markTurnS.l0 k (y358.set (x5 : Int).toNat (⟨(rd_T48 y358 x5).f0, wrap64 (x1 + 1)⟩ : S48)) (wrap64 ((wrap64 (x1 + 1)) + 1)) (wrap64 (x5 + 1)))) else (none)) else (some (x1, x0))
def laws_markTurnS.f (k : Nat) (l0 : List (S48)) (a1 : Int) : Option (Int × (List (S48))) := laws_markTurnS.l0 k l0 a1 0
theorem laws_markTurnS.mono_l : ∀ k, (∀ y0 y1 y2, LeO (laws_markTurnS.l0 k y0 y1 y2) (laws_markTurnS.l0 (k + 1) y0 y1 y2))
  | 0 => fun _ _ _ r h => by simp [laws_markTurnS.l0] at h
  | k + 1 => by
    have ih0 := laws_markTurnS.mono_l k
    · intro y0 y1 y2
      unfold laws_markTurnS.l0
      repeat' first
      | (with_reducible exact ih0 _ _ _)
      | (with_reducible exact LeO.refl _)
      | (with_reducible exact LeO.none _)
      | (with_reducible refine LeO.ite ?_ ?_)
      | (with_reducible refine LeO.bind ?_ (fun _ => ?_))
      | exact ih0 _ _ _
      | exact LeO.none _
      | refine LeO.ite ?_ ?_
      | refine LeO.bind ?_ (fun _ => ?_)
theorem laws_markTurnS.mono : ∀ a0 a1 k, LeO (laws_markTurnS.f k a0 a1) (laws_markTurnS.f (k + 1) a0 a1) := by
  intro a0 a1 k
  have ih0 := laws_markTurnS.mono_l k
  unfold laws_markTurnS.f
  repeat' first
      | (with_reducible exact ih0 _ _ _)
      | (with_reducible exact LeO.refl _)
      | (with_reducible exact LeO.none _)
      | (with_reducible refine LeO.ite ?_ ?_)
      | (with_reducible refine LeO.bind ?_ (fun _ => ?_))
      | exact ih0 _ _ _
      | exact LeO.none _
      | refine LeO.ite ?_ ?_
      | refine LeO.bind ?_ (fun _ => ?_)
set_option maxHeartbeats 8000000 in
set_option maxRecDepth 100000 in
theorem laws_markTurnS.calls (k : Nat) (P0_ : Nat → Prop) (u9000_ : Value) (l0 : List (S48)) (a1 : Int) (r1 : Int) (r2 : List (S48)) (w0 w : World) (hB : Below w0.heap.size w0 w) (ho0 : Kd.R k48 48 w w0.heap.size P0_ u9000_ l0) (h : laws_markTurnS.f k l0 a1 = some (r1, r2)) :
    Calls Try.prog 13 #[u9000_, .int .i64 a1] w fun e w' => e = .returned (.int .i64 r1) ∧ Kd.R k48 48 w' w0.heap.size (fun k_ => (P0_ k_ ∨ w.heap.size ≤ k_)) u9000_ r2 ∧ Below w0.heap.size w0 w' ∧ Kept w w' (fun k_ => P0_ k_) := by
  have HO0 := Aside0.mk (show Kd.R k48 48 w w0.heap.size (fun k_ => (P0_ k_ ∨ w.heap.size ≤ k_)) u9000_ l0 from Kd.R_mono ho0 (fun k_ hk => (.inl hk)))
  have HK := Aside0.mk (Kept.refl w (fun k_ => P0_ k_))
  have HW0 := Aside0.mk hB.size
  have HB := Aside0.mk hB
  clear hB
  have H : (laws_markTurnS.l0 k l0 a1 0) = some (r1, r2) := h
  clear h
  have H' := Aside0.mk H
  clear H
  go_enter Try.func13, Try.ntmps13
  go_wp2
  go_loopg [1, 5] k (fun kq v1 v5 w' => ∃ (x0_1 : List (S48)) (x1_1 : Int) (x5_1 : Int), v1 = .int .i64 x1_1 ∧ v5 = .int .i64 x5_1 ∧ Aside0 (laws_markTurnS.l0 kq x0_1 x1_1 x5_1 = some (r1, r2)) ∧ Aside0 (kq ≤ k) ∧ Aside0 (Kd.R k48 48 w' w0.heap.size (fun k_ => (P0_ k_ ∨ w.heap.size ≤ k_)) u9000_ x0_1) ∧ Aside0 (Kept w w' (fun k_ => P0_ k_)) ∧ Aside0 (Below w0.heap.size w0 w'))
  case atStart => exact ⟨(l0), (a1), (0), (by first | rfl | (simp; done) | (simp [*]; done)), (by first | rfl | (simp; done) | (simp [*]; done)), H', ⟨Nat.le_refl _⟩, ⟨by (with_reducible repeat (first | apply r_a | apply r_d | apply r_e)); exact HO0.out⟩, ⟨by repeat (first | (with_reducible first | exact HK.out | apply Kept.alloc | apply Kept.drewN | apply Kept.drew) | exact HK.out)⟩, ⟨bB HB⟩⟩
  clear H'
  obtain ⟨x0_1, x1_1, x5_1, rfl, rfl, HA, HK1, HO_0, HK, HB⟩ := hrel
  rcases gk with _ | k1
  · exact absurd HA.out (by simp [laws_markTurnS.l0])
  have H := HA.out
  clear HA
  simp only [laws_markTurnS.l0] at H
  by_cases c3 : x5_1 < (x0_1.length : Int)
  rotate_left
  · rw [if_neg c3] at H
    have c3b0 : decide (x5_1 < (x0_1.length : Int)) = false := decide_eq_false c3
    clear c3
    simp only [Option.some.injEq, Prod.mk.injEq] at H
    obtain ⟨rfl, rfl⟩ := H
    obtain ⟨Ao12, co12, eo12⟩ := Kd.R_slice HO_0.out
    subst eo12
    go_wp2
    go_ret
    exact ⟨by first | rfl | (simp [errW_none, errW_some] <;> rfl) | (simp [*, errW_none, errW_some] <;> rfl), by (with_reducible repeat (first | apply r_a | apply r_d | apply r_e)); exact HO_0.out, bB HB, by repeat (first | (with_reducible first | exact HK.out | apply Kept.alloc | apply Kept.drewN | apply Kept.drew) | exact HK.out)⟩

  rw [if_pos c3] at H
  have c3b0 : decide (x5_1 < (x0_1.length : Int)) = true := decide_eq_true c3
  clear c3
  by_cases c4 : 0 ≤ x5_1
  rotate_left
  · rw [if_neg c4] at H
    exact absurd H (by simp)
  rw [if_pos c4] at H
  have c4b0 : decide (0 ≤ x5_1) = true := decide_eq_true c4
  clear c4
  obtain ⟨y358, hy358⟩ : ∃ y_ : List (S48), y_ = (x0_1.set (x5_1 : Int).toNat (⟨x1_1, (rd_T48 x0_1 x5_1).f1⟩ : S48)) := ⟨_, rfl⟩
  replace H : (laws_markTurnS.l0 k1 (y358.set (x5_1 : Int).toNat (⟨(rd_T48 y358 x5_1).f0, wrap64 (x1_1 + 1)⟩ : S48)) (wrap64 ((wrap64 (x1_1 + 1)) + 1)) (wrap64 (x5_1 + 1))) = some (r1, r2) := by first | (rw [hy358]; with_reducible exact H) | (have H2_ := (Option.bind_some _ _).symm.trans H; rw [hy358]; with_reducible exact H2_) | (have H2_ := (Option.bind_some _ _).symm.trans H; with_reducible exact H2_) | with_reducible exact H | (rw [hy358]; exact H) | exact H
  have Ny358 := Aside0.mk hy358
  clear hy358
  obtain ⟨y359, hy359⟩ : ∃ y_ : List (S48), y_ = (y358.set (x5_1 : Int).toNat (⟨(rd_T48 y358 x5_1).f0, wrap64 (x1_1 + 1)⟩ : S48)) := ⟨_, rfl⟩
  replace H : (laws_markTurnS.l0 k1 y359 (wrap64 ((wrap64 (x1_1 + 1)) + 1)) (wrap64 (x5_1 + 1))) = some (r1, r2) := by first | (rw [hy359]; with_reducible exact H) | (have H2_ := (Option.bind_some _ _).symm.trans H; rw [hy359]; with_reducible exact H2_) | (have H2_ := (Option.bind_some _ _).symm.trans H; with_reducible exact H2_) | with_reducible exact H | (rw [hy359]; exact H) | exact H
  have Ny359 := Aside0.mk hy359
  clear hy359
  have H' := Aside0.mk H
  clear H
  obtain ⟨Ao7, co7, eo7⟩ := Kd.R_slice HO_0.out
  subst eo7
  have p5 : 0 ≤ (x5_1 : Int) := of_decide_eq_true (by first | (with_reducible assumption) | assumption)
  have q5 : (x5_1 : Int) < ((x0_1.length : Int) : Int) := of_decide_eq_true (by first | (with_reducible assumption) | assumption)
  obtain ⟨go5, co5, eo5, gb5, gl5, cl5, HG5⟩ := Kd.R_form HO_0.out (by omega)
  (first | cases eo5 | (injection eo5 with ea_ en_ ec_; (first | subst ea_ | (injection ea_ with ea_; subst ea_)); subst ec_; clear en_))
  have GB5 := Aside0.mk gb5
  have GG5 := Aside0.mk HG5
  clear gb5 gl5 HG5
  have HMgo5 := Aside0.mk (show (P0_ go5 ∨ w.heap.size ≤ go5) from (HO_0.out.1 _ rfl))
  obtain ⟨ce5, hcl5, hM5, hcc5, hfr5⟩ := Kd.R_elem HO_0.out z48 (x5_1 : Int) p5 q5
  obtain rfl := k48_openM hM5
  have hx5_0 : wr.cell? ⟨go5, (x5_1 : Int).toNat * 2, none⟩ = some (.int .i64 ((rd_T48 x0_1 x5_1).f0)) := hcc5 0 _ rfl
  have hx5_1 : wr.cell? ⟨go5, (x5_1 : Int).toNat * 2 + 1, none⟩ = some (.int .i64 ((rd_T48 x0_1 x5_1).f1)) := hcc5 1 _ rfl
  have hf5_0 : wr.frozen? ⟨go5, (x5_1 : Int).toNat * 2, none⟩ = false := hfr5 0
  have hf5_1 : wr.frozen? ⟨go5, (x5_1 : Int).toNat * 2 + 1, none⟩ = false := hfr5 1
  clear hcl5 hcc5 hfr5; (try clear hM5)
  replace p5 := eq_true p5
  replace q5 := eq_true q5
  have HX8 := Aside0.mk (show Kd.R k48 48 wr w0.heap.size (fun k_ => (P0_ k_ ∨ w.heap.size ≤ k_)) (.slice (some ⟨go5, 0, none⟩) x0_1.length co7) x0_1 from (by (with_reducible repeat (first | apply r_a | apply r_d | apply r_e)); exact HO_0.out))
  obtain ⟨ce8, hcl8, hM8, hcc8, hfr8⟩ := Kd.R_elem HX8.out z48 (x5_1 : Int) (of_decide_eq_true (by first | (with_reducible assumption) | assumption)) (by have h_ : (x5_1 : Int) < ((x0_1.length : Int) : Int) := of_decide_eq_true (by first | (with_reducible assumption) | assumption); first | exact h_ | (have e_ := (Kd.R_reads' HO_0.out).1; omega) | simpa using h_)
  obtain rfl := k48_openM hM8
  have HP8 := Kd.R_seg HX8.out (x5_1 : Int) (of_decide_eq_true (by first | (with_reducible assumption) | assumption)) (by have h_ : (x5_1 : Int) < ((x0_1.length : Int) : Int) := of_decide_eq_true (by first | (with_reducible assumption) | assumption); first | exact h_ | (have e_ := (Kd.R_reads' HO_0.out).1; omega) | simpa using h_) (seg := [.int .i64 x1_1]) (j := 0) hcl8 hcc8 (show 1 ≤ 2 from by decide) (x' := (⟨x1_1, (rd_T48 x0_1 x5_1).f1⟩ : S48)) (k48_mkM _ _ _ (⟨x1_1, (rd_T48 x0_1 x5_1).f1⟩ : S48) ) (fun _ hk => hk)
  have hx8_0 := hcc8 0 _ rfl
  (try simp only [show (k48).sz = 2 from rfl, Nat.mul_one, Nat.add_zero] at hx8_0)
  have hf8_0 := hfr8 0
  (try simp only [show (k48).sz = 2 from rfl, Nat.mul_one, Nat.add_zero] at hf8_0)
  clear hcl8 hcc8 hfr8; (try clear hM8)
  go_wp2_with (first | ((with_reducible refine gate_store (t := 3) (p := 16) rfl ?_); refine store_event (t := 3) (p := 16) (v := ?vo_w9) (w1 := (wr.setCell ⟨go5, (x5_1 : Int).toNat * 2, none⟩ (.int .i64 x1_1))) ?hg ?ho ?hn ?hr ?_; (case ho => rfl); (case hg => rfl); (case hn => rfl); (case hr => first | (go_simp; done) | (go_simp; rfl)); intro w9 hw; have hg : wr.grownBy w9 (some go5) := (by rw [hw]; exact HP8.2); have hp_ : Kd.R k48 48 w9 w0.heap.size (fun k_ => (P0_ k_ ∨ w.heap.size ≤ k_)) (.slice (some ⟨go5, 0, none⟩) x0_1.length co7) y358 := (by rw [hw, Ny358.out]; exact HP8.1); clear HP8; have n0_ := Aside0.mk (hp_); have n1_ := Aside0.mk ((by rw [hw]; exact b_s (HB.out) GB5.out : Below w0.heap.size w0 w9)); have n2_ := Aside0.mk (Kept.of_grown (S := (fun k_ => P0_ k_)) hg (by repeat (first | (with_reducible first | exact HK.out | apply Kept.alloc | apply Kept.drewN | apply Kept.drew) | exact HK.out)) (fun k_ e_ => (HO_0.out.1 k_ e_))); clear HO_0; clear HB; clear HK; have HO_0 := n0_; have HB := n1_; have HK := n2_; clear n0_ n1_ n2_; clear hg hw hp_; have p6 : 0 ≤ (x5_1 : Int) := of_decide_eq_true (by first | (with_reducible assumption) | assumption); have q6 : (x5_1 : Int) < ((x0_1.length : Int) : Int) := of_decide_eq_true (by first | (with_reducible assumption) | assumption); obtain ⟨ce6, hcl6, hM6, hcc6, hfr6⟩ := Kd.R_elem HO_0.out z48 (x5_1 : Int) p6 q6; obtain rfl := k48_openM hM6; have hx6_0 : w9.cell? ⟨go5, (x5_1 : Int).toNat * 2, none⟩ = some (.int .i64 ((rd_T48 y358 x5_1).f0)) := hcc6 0 _ rfl; have hx6_1 : w9.cell? ⟨go5, (x5_1 : Int).toNat * 2 + 1, none⟩ = some (.int .i64 ((rd_T48 y358 x5_1).f1)) := hcc6 1 _ rfl; have hf6_0 : w9.frozen? ⟨go5, (x5_1 : Int).toNat * 2, none⟩ = false := hfr6 0; have hf6_1 : w9.frozen? ⟨go5, (x5_1 : Int).toNat * 2 + 1, none⟩ = false := hfr6 1; clear hcl6 hcc6 hfr6; (try clear hM6); replace p6 := eq_true p6; replace q6 := eq_true q6; have HX10 := Aside0.mk (show Kd.R k48 48 w9 w0.heap.size (fun k_ => (P0_ k_ ∨ w.heap.size ≤ k_)) (.slice (some ⟨go5, 0, none⟩) x0_1.length co7) y358 from (by (with_reducible repeat (first | apply r_a | apply r_d | apply r_e)); exact HO_0.out)); obtain ⟨ce10, hcl10, hM10, hcc10, hfr10⟩ := Kd.R_elem HX10.out z48 (x5_1 : Int) (of_decide_eq_true (by first | (with_reducible assumption) | assumption)) (by have h_ : (x5_1 : Int) < ((x0_1.length : Int) : Int) := of_decide_eq_true (by first | (with_reducible assumption) | assumption); first | exact h_ | (have e_ := (Kd.R_reads' HO_0.out).1; omega) | simpa using h_); obtain rfl := k48_openM hM10; have HP10 := Kd.R_seg HX10.out (x5_1 : Int) (of_decide_eq_true (by first | (with_reducible assumption) | assumption)) (by have h_ : (x5_1 : Int) < ((x0_1.length : Int) : Int) := of_decide_eq_true (by first | (with_reducible assumption) | assumption); first | exact h_ | (have e_ := (Kd.R_reads' HO_0.out).1; omega) | simpa using h_) (seg := [.int .i64 (wrap64 (x1_1 + 1))]) (j := 1) hcl10 hcc10 (show 2 ≤ 2 from by decide) (x' := (⟨(rd_T48 y358 x5_1).f0, wrap64 (x1_1 + 1)⟩ : S48)) (k48_mkM _ _ _ (⟨(rd_T48 y358 x5_1).f0, wrap64 (x1_1 + 1)⟩ : S48) ) (fun _ hk => hk); have hx10_1 := hcc10 1 _ rfl; (try simp only [show (k48).sz = 2 from rfl, Nat.mul_one, Nat.add_zero] at hx10_1); have hf10_1 := hfr10 1; (try simp only [show (k48).sz = 2 from rfl, Nat.mul_one, Nat.add_zero] at hf10_1); clear hcl10 hcc10 hfr10; (try clear hM10)) | ((with_reducible refine gate_store (t := 3) (p := 23) rfl ?_); refine store_event (t := 3) (p := 23) (v := ?vo_w11) (w1 := (w9.setCell ⟨go5, (x5_1 : Int).toNat * 2 + 1, none⟩ (.int .i64 (wrap64 (x1_1 + 1))))) ?hg ?ho ?hn ?hr ?_; (case ho => rfl); (case hg => rfl); (case hn => rfl); (case hr => first | (go_simp; done) | (go_simp; rfl)); intro w11 hw; have hg : w9.grownBy w11 (some go5) := (by rw [hw]; exact HP10.2); have hp_ : Kd.R k48 48 w11 w0.heap.size (fun k_ => (P0_ k_ ∨ w.heap.size ≤ k_)) (.slice (some ⟨go5, 0, none⟩) x0_1.length co7) y359 := (by rw [hw, Ny359.out]; exact HP10.1); clear HP10; have n0_ := Aside0.mk (hp_); have n1_ := Aside0.mk ((by rw [hw]; exact b_s (HB.out) GB5.out : Below w0.heap.size w0 w11)); have n2_ := Aside0.mk (Kept.of_grown (S := (fun k_ => P0_ k_)) hg (by repeat (first | (with_reducible first | exact HK.out | apply Kept.alloc | apply Kept.drewN | apply Kept.drew) | exact HK.out)) (fun k_ e_ => (HO_0.out.1 k_ e_))); clear HO_0; clear HB; clear HK; have HO_0 := n0_; have HB := n1_; have HK := n2_; clear n0_ n1_ n2_; clear hg hw hp_))
  go_roundg k1
  case measure => have := HK1.out; omega
  case rel => exact ⟨(y359), (wrap64 ((wrap64 (x1_1 + 1)) + 1)), (wrap64 (x5_1 + 1)), (by first | rfl | (simp; done) | (simp [*]; done)), (by first | rfl | (simp; done) | (simp [*]; done)), H', ⟨by have := HK1.out; omega⟩, ⟨by (with_reducible repeat (first | apply r_a | apply r_d | apply r_e)); exact HO_0.out⟩, ⟨by repeat (first | (with_reducible first | exact HK.out | apply Kept.alloc | apply Kept.drewN | apply Kept.drew) | exact HK.out)⟩, ⟨bB HB⟩⟩
/-! ### laws_heldTurnS: function 14 -/
def laws_heldTurnS.l0 : Nat → List (S48) → Int → Int → Option (Int)
  | 0, _, _, _ => none
  | k + 1, x0, x1, x5 => if x5 < (x0.length : Int) then (if 0 ≤ x5 then (if ((rd_T48 x0 x5).f0) = x1 then (if ((rd_T48 x0 x5).f1) = (wrap64 (x1 + 1)) then (laws_heldTurnS.l0 k x0 (wrap64 ((wrap64 (x1 + 1)) + 1)) (wrap64 (x5 + 1))) else (some (-1))) else (some (-1))) else (none)) else (some x1)
def laws_heldTurnS.f (k : Nat) (l0 : List (S48)) (a1 : Int) : Option (Int) := laws_heldTurnS.l0 k l0 a1 0
theorem laws_heldTurnS.mono_l : ∀ k, (∀ y0 y1 y2, LeO (laws_heldTurnS.l0 k y0 y1 y2) (laws_heldTurnS.l0 (k + 1) y0 y1 y2))
  | 0 => fun _ _ _ r h => by simp [laws_heldTurnS.l0] at h
  | k + 1 => by
    have ih0 := laws_heldTurnS.mono_l k
    · intro y0 y1 y2
      unfold laws_heldTurnS.l0
      repeat' first
      | (with_reducible exact ih0 _ _ _)
      | (with_reducible exact LeO.refl _)
      | (with_reducible exact LeO.none _)
      | (with_reducible refine LeO.ite ?_ ?_)
      | (with_reducible refine LeO.bind ?_ (fun _ => ?_))
      | exact ih0 _ _ _
      | exact LeO.none _
      | refine LeO.ite ?_ ?_
      | refine LeO.bind ?_ (fun _ => ?_)
theorem laws_heldTurnS.mono : ∀ a0 a1 k, LeO (laws_heldTurnS.f k a0 a1) (laws_heldTurnS.f (k + 1) a0 a1) := by
  intro a0 a1 k
  have ih0 := laws_heldTurnS.mono_l k
  unfold laws_heldTurnS.f
  repeat' first
      | (with_reducible exact ih0 _ _ _)
      | (with_reducible exact LeO.refl _)
      | (with_reducible exact LeO.none _)
      | (with_reducible refine LeO.ite ?_ ?_)
      | (with_reducible refine LeO.bind ?_ (fun _ => ?_))
      | exact ih0 _ _ _
      | exact LeO.none _
      | refine LeO.ite ?_ ?_
      | refine LeO.bind ?_ (fun _ => ?_)
set_option maxHeartbeats 8000000 in
set_option maxRecDepth 100000 in
theorem laws_heldTurnS.calls (k : Nat) (A0 : Option Addr) (c0 : Nat) (l0 : List (S48)) (a1 : Int) (r : Int) (w : World) (hr0 : Kd.C k48 w A0 l0.length l0) (hc0 : l0.length ≤ c0) (h : laws_heldTurnS.f k l0 a1 = some r) :
    Calls Try.prog 14 #[.slice A0 l0.length c0, .int .i64 a1] w fun e w' => e = .returned (.int .i64 r) ∧ Drawn0 w w' := by
  have HR0 := Aside0.mk hr0
  have HC0 := Aside0.mk hc0
  clear hr0 hc0
  have H : (laws_heldTurnS.l0 k l0 a1 0) = some r := h
  clear h
  have H' := Aside0.mk H
  clear H
  go_enter Try.func14, Try.ntmps14
  go_wp2
  go_loopg [1, 5] k (fun kq v1 v5 w' => ∃ (x1_1 : Int) (x5_1 : Int), v1 = .int .i64 x1_1 ∧ v5 = .int .i64 x5_1 ∧ Aside0 (laws_heldTurnS.l0 kq l0 x1_1 x5_1 = some r) ∧ Aside0 (kq ≤ k) ∧ Drawn0 w w')
  case atStart => exact ⟨(a1), (0), (by first | rfl | (simp; done) | (simp [*]; done)), (by first | rfl | (simp; done) | (simp [*]; done)), H', ⟨Nat.le_refl _⟩, by repeat (first | exact Drawn0.refl _ | apply Drawn0.step)⟩
  clear H'
  obtain ⟨x1_1, x5_1, rfl, rfl, HA, HK1, ⟨m1, rfl⟩⟩ := hrel
  rcases gk with _ | k1
  · exact absurd HA.out (by simp [laws_heldTurnS.l0])
  have H := HA.out
  clear HA
  simp only [laws_heldTurnS.l0] at H
  by_cases c3 : x5_1 < (l0.length : Int)
  rotate_left
  · rw [if_neg c3] at H
    have c3b0 : decide (x5_1 < (l0.length : Int)) = false := decide_eq_false c3
    clear c3
    obtain rfl := Option.some.inj H
    go_wp2
    go_ret
    exact ⟨by first | rfl | (simp; done) | (simp [*]; done), by repeat (first | exact Drawn0.refl _ | apply Drawn0.step)⟩

  rw [if_pos c3] at H
  have c3b0 : decide (x5_1 < (l0.length : Int)) = true := decide_eq_true c3
  clear c3
  by_cases c4 : 0 ≤ x5_1
  rotate_left
  · rw [if_neg c4] at H
    exact absurd H (by simp)
  rw [if_pos c4] at H
  have c4b0 : decide (0 ≤ x5_1) = true := decide_eq_true c4
  clear c4
  by_cases c5 : ((rd_T48 l0 x5_1).f0) = x1_1
  rotate_left
  · rw [if_neg c5] at H
    have c5b0 : (((rd_T48 l0 x5_1).f0) == x1_1) = false := beq_eq_false_iff_ne.mpr c5
    have c5b1 : (((rd_T48 l0 x5_1).f0) != x1_1) = true := bne_iff_ne.mpr c5
    obtain rfl := Option.some.inj H
    have p360 : 0 ≤ (x5_1 : Int) := of_decide_eq_true (by first | (with_reducible assumption) | assumption)
    have q360 : x5_1 < (l0.length : Int) := of_decide_eq_true (by first | (with_reducible assumption) | assumption)
    obtain ⟨ad360, e360, hx360_0, hx360_1⟩ := at_T48 HR0.out x5_1 p360 q360
    cases e360
    replace p360 := eq_true p360
    replace q360 := eq_true q360
    go_wp2
    go_ret
    exact ⟨by first | rfl | (simp; done) | (simp [*]; done), by repeat (first | exact Drawn0.refl _ | apply Drawn0.step)⟩
  rw [if_pos c5] at H
  have c5b0 : (((rd_T48 l0 x5_1).f0) == x1_1) = true := beq_iff_eq.mpr c5
  have c5b1 : (((rd_T48 l0 x5_1).f0) != x1_1) = false := bne_eq_false_iff_eq.mpr c5
  clear c5
  by_cases c6 : ((rd_T48 l0 x5_1).f1) = (wrap64 (x1_1 + 1))
  rotate_left
  · rw [if_neg c6] at H
    have c6b0 : (((rd_T48 l0 x5_1).f1) == (wrap64 (x1_1 + 1))) = false := beq_eq_false_iff_ne.mpr c6
    have c6b1 : (((rd_T48 l0 x5_1).f1) != (wrap64 (x1_1 + 1))) = true := bne_iff_ne.mpr c6
    obtain rfl := Option.some.inj H
    have p360 : 0 ≤ (x5_1 : Int) := of_decide_eq_true (by first | (with_reducible assumption) | assumption)
    have q360 : x5_1 < (l0.length : Int) := of_decide_eq_true (by first | (with_reducible assumption) | assumption)
    obtain ⟨ad360, e360, hx360_0, hx360_1⟩ := at_T48 HR0.out x5_1 p360 q360
    cases e360
    replace p360 := eq_true p360
    replace q360 := eq_true q360
    have p361 : 0 ≤ (x5_1 : Int) := of_decide_eq_true (by first | (with_reducible assumption) | assumption)
    have q361 : x5_1 < (l0.length : Int) := of_decide_eq_true (by first | (with_reducible assumption) | assumption)
    obtain ⟨ad361, e361, hx361_0, hx361_1⟩ := at_T48 HR0.out x5_1 p361 q361
    obtain rfl : ad360 = ad361 := (by injection e361)
    replace p361 := eq_true p361
    replace q361 := eq_true q361
    go_wp2
    go_ret
    exact ⟨by first | rfl | (simp; done) | (simp [*]; done), by repeat (first | exact Drawn0.refl _ | apply Drawn0.step)⟩
  rw [if_pos c6] at H
  have c6b0 : (((rd_T48 l0 x5_1).f1) == (wrap64 (x1_1 + 1))) = true := beq_iff_eq.mpr c6
  have c6b1 : (((rd_T48 l0 x5_1).f1) != (wrap64 (x1_1 + 1))) = false := bne_eq_false_iff_eq.mpr c6
  clear c6
  have H' := Aside0.mk H
  clear H
  have p360 : 0 ≤ (x5_1 : Int) := of_decide_eq_true (by first | (with_reducible assumption) | assumption)
  have q360 : x5_1 < (l0.length : Int) := of_decide_eq_true (by first | (with_reducible assumption) | assumption)
  obtain ⟨ad360, e360, hx360_0, hx360_1⟩ := at_T48 HR0.out x5_1 p360 q360
  cases e360
  replace p360 := eq_true p360
  replace q360 := eq_true q360
  have p361 : 0 ≤ (x5_1 : Int) := of_decide_eq_true (by first | (with_reducible assumption) | assumption)
  have q361 : x5_1 < (l0.length : Int) := of_decide_eq_true (by first | (with_reducible assumption) | assumption)
  obtain ⟨ad361, e361, hx361_0, hx361_1⟩ := at_T48 HR0.out x5_1 p361 q361
  obtain rfl : ad360 = ad361 := (by injection e361)
  replace p361 := eq_true p361
  replace q361 := eq_true q361
  go_wp2
  go_roundg k1
  case measure => have := HK1.out; omega
  case rel => exact ⟨(wrap64 ((wrap64 (x1_1 + 1)) + 1)), (wrap64 (x5_1 + 1)), (by first | rfl | (simp; done) | (simp [*]; done)), (by first | rfl | (simp; done) | (simp [*]; done)), H', ⟨by have := HK1.out; omega⟩, by repeat (first | exact Drawn0.refl _ | apply Drawn0.step)⟩
/-! ### laws_FnExactFirstKnobs: function 3 -/
mutual
def laws_FnExactFirstKnobs.j0 : Nat → ByteArray → ByteArray → List (S48) → Bool → List (S48) → Bool → Bool → Int → Int → List (List Int) → Int → Int → List (List Int) → Option (Bool)
  | 0, _, _, _, _, _, _, _, _, _, _, _, _, _ => none
  | k + 1, x1, x2, x8, x9, x11, x12, x54, x363000, x363001, x363002, x379000, x379001, x379002 => if x54 = true then (some false) else ((laws_toGears.f k x363000 x363001 x363002).bind fun bt384 => ((laws_eqGears.f k x379000 x379001 x379002 bt384.1 bt384.2.1 bt384.2.2).bind fun t389 => (if t389 = true then ((laws_markGears.f k x379000 x379001 x379002 1).bind fun t390 => (if t390 < 0 then (laws_FnExactFirstKnobs.j1 k x1 x2 x8 x9 x11 true x363000 x363001 x363002) else ((laws_eqTurnS.f k x11 x8).bind fun t391 => (if t391 = true then (laws_FnExactFirstKnobs.j1 k x1 x2 x8 x9 x11 (x12 != x9) x363000 x363001 x363002) else (laws_FnExactFirstKnobs.j1 k x1 x2 x8 x9 x11 true x363000 x363001 x363002))))) else (some false))))
def laws_FnExactFirstKnobs.j1 : Nat → ByteArray → ByteArray → List (S48) → Bool → List (S48) → Bool → Int → Int → List (List Int) → Option (Bool)
  | 0, _, _, _, _, _, _, _, _, _ => none
  | k + 1, x1, x2, x8, x9, x11, x75, x363000, x363001, x363002 => if x75 = true then (some false) else ((laws_markTurnS.f k x11 1).bind fun bt392 => ((laws_heldTurnS.f k bt392.2 1).bind fun t394 => (if t394 < 0 then (some false) else (if t394 = bt392.1 then ((laws_toGears.f k x363000 x363001 x363002).bind fun bt395 => ((impl_FirstKnobs.f k bt395.1 bt395.2.1 bt395.2.2 x1 x2).bind fun bt400 => ((laws_eqTurnS.f k bt400.1 x8).bind fun t404 => (if t404 = true then (laws_FnExactFirstKnobs.j2 k bt392.2 bt392.1 (bt400.2 != x9)) else (laws_FnExactFirstKnobs.j2 k bt392.2 bt392.1 true))))) else (some false)))))
def laws_FnExactFirstKnobs.j2 : Nat → List (S48) → Int → Bool → Option (Bool)
  | 0, _, _, _ => none
  | k + 1, x11, x14, x103 => if x103 = true then (some false) else ((laws_heldTurnS.f k x11 1).bind fun t405 => (if t405 < 0 then (some false) else (if t405 = x14 then (some true) else (some false))))
end
def laws_FnExactFirstKnobs.f (k : Nat) (a0_0 : Int) (a0_1 : Int) (l0_2 : List (List Int)) (a1 : ByteArray) (a2 : ByteArray) : Option (Bool) := if (a1.size : Int) > 1048576 then (some true) else (if (a2.size : Int) > 1048576 then (some true) else ((laws_szGears.f k a0_0 a0_1 l0_2 1048576).bind fun t363 => (if t363 < 0 then (some true) else ((laws_toGears.f k a0_0 a0_1 l0_2).bind fun bt364 => ((spec_FirstKnobs.f k bt364.1 bt364.2.1 bt364.2.2 a1 a2).bind fun bt369 => ((laws_toGears.f k a0_0 a0_1 l0_2).bind fun bt373 => ((impl_FirstKnobs.f k bt373.1 bt373.2.1 bt373.2.2 a1 a2).bind fun bt379 => ((laws_eqTurnS.f k bt379.1 bt369.1).bind fun t383 => (if t383 = true then (laws_FnExactFirstKnobs.j0 k a1 a2 bt369.1 bt369.2 bt379.1 bt379.2 (bt379.2 != bt369.2) a0_0 a0_1 l0_2 bt373.1 bt373.2.1 bt373.2.2) else (laws_FnExactFirstKnobs.j0 k a1 a2 bt369.1 bt369.2 bt379.1 bt379.2 true a0_0 a0_1 l0_2 bt373.1 bt373.2.1 bt373.2.2))))))))))
theorem laws_FnExactFirstKnobs.mono_l : ∀ k, (∀ y0 y1 y2 y3 y4 y5 y6 y7 y8 y9 y10 y11 y12, LeO (laws_FnExactFirstKnobs.j0 k y0 y1 y2 y3 y4 y5 y6 y7 y8 y9 y10 y11 y12) (laws_FnExactFirstKnobs.j0 (k + 1) y0 y1 y2 y3 y4 y5 y6 y7 y8 y9 y10 y11 y12)) ∧ (∀ y0 y1 y2 y3 y4 y5 y6 y7 y8, LeO (laws_FnExactFirstKnobs.j1 k y0 y1 y2 y3 y4 y5 y6 y7 y8) (laws_FnExactFirstKnobs.j1 (k + 1) y0 y1 y2 y3 y4 y5 y6 y7 y8)) ∧ (∀ y0 y1 y2, LeO (laws_FnExactFirstKnobs.j2 k y0 y1 y2) (laws_FnExactFirstKnobs.j2 (k + 1) y0 y1 y2))
  | 0 => ⟨fun _ _ _ _ _ _ _ _ _ _ _ _ _ r h => by simp [laws_FnExactFirstKnobs.j0] at h, fun _ _ _ _ _ _ _ _ _ r h => by simp [laws_FnExactFirstKnobs.j1] at h, fun _ _ _ r h => by simp [laws_FnExactFirstKnobs.j2] at h⟩
  | k + 1 => by
    obtain ⟨ih0, ih1, ih2⟩ := laws_FnExactFirstKnobs.mono_l k
    refine ⟨?_, ?_, ?_⟩
    · intro y0 y1 y2 y3 y4 y5 y6 y7 y8 y9 y10 y11 y12
      unfold laws_FnExactFirstKnobs.j0
      repeat' first
      | (with_reducible exact ih0 _ _ _ _ _ _ _ _ _ _ _ _ _)
      | (with_reducible exact ih1 _ _ _ _ _ _ _ _ _)
      | (with_reducible exact ih2 _ _ _)
      | (with_reducible exact impl_FirstKnobs.mono _ _ _ _ _ _)
      | (with_reducible exact laws_eqGears.mono _ _ _ _ _ _ _)
      | (with_reducible exact laws_eqTurnS.mono _ _ _)
      | (with_reducible exact laws_heldTurnS.mono _ _ _)
      | (with_reducible exact laws_markGears.mono _ _ _ _ _)
      | (with_reducible exact laws_markTurnS.mono _ _ _)
      | (with_reducible exact laws_szGears.mono _ _ _ _ _)
      | (with_reducible exact laws_toGears.mono _ _ _ _)
      | (with_reducible exact spec_FirstKnobs.mono _ _ _ _ _ _)
      | (with_reducible exact LeO.refl _)
      | (with_reducible exact LeO.none _)
      | (with_reducible refine LeO.ite ?_ ?_)
      | (with_reducible refine LeO.bind ?_ (fun _ => ?_))
      | exact ih0 _ _ _ _ _ _ _ _ _ _ _ _ _
      | exact ih1 _ _ _ _ _ _ _ _ _
      | exact ih2 _ _ _
      | exact impl_FirstKnobs.mono _ _ _ _ _ _
      | exact laws_eqGears.mono _ _ _ _ _ _ _
      | exact laws_eqTurnS.mono _ _ _
      | exact laws_heldTurnS.mono _ _ _
      | exact laws_markGears.mono _ _ _ _ _
      | exact laws_markTurnS.mono _ _ _
      | exact laws_szGears.mono _ _ _ _ _
      | exact laws_toGears.mono _ _ _ _
      | exact spec_FirstKnobs.mono _ _ _ _ _ _
      | exact LeO.none _
      | refine LeO.ite ?_ ?_
      | refine LeO.bind ?_ (fun _ => ?_)
    · intro y0 y1 y2 y3 y4 y5 y6 y7 y8
      unfold laws_FnExactFirstKnobs.j1
      repeat' first
      | (with_reducible exact ih0 _ _ _ _ _ _ _ _ _ _ _ _ _)
      | (with_reducible exact ih1 _ _ _ _ _ _ _ _ _)
      | (with_reducible exact ih2 _ _ _)
      | (with_reducible exact impl_FirstKnobs.mono _ _ _ _ _ _)
      | (with_reducible exact laws_eqGears.mono _ _ _ _ _ _ _)
      | (with_reducible exact laws_eqTurnS.mono _ _ _)
      | (with_reducible exact laws_heldTurnS.mono _ _ _)
      | (with_reducible exact laws_markGears.mono _ _ _ _ _)
      | (with_reducible exact laws_markTurnS.mono _ _ _)
      | (with_reducible exact laws_szGears.mono _ _ _ _ _)
      | (with_reducible exact laws_toGears.mono _ _ _ _)
      | (with_reducible exact spec_FirstKnobs.mono _ _ _ _ _ _)
      | (with_reducible exact LeO.refl _)
      | (with_reducible exact LeO.none _)
      | (with_reducible refine LeO.ite ?_ ?_)
      | (with_reducible refine LeO.bind ?_ (fun _ => ?_))
      | exact ih0 _ _ _ _ _ _ _ _ _ _ _ _ _
      | exact ih1 _ _ _ _ _ _ _ _ _
      | exact ih2 _ _ _
      | exact impl_FirstKnobs.mono _ _ _ _ _ _
      | exact laws_eqGears.mono _ _ _ _ _ _ _
      | exact laws_eqTurnS.mono _ _ _
      | exact laws_heldTurnS.mono _ _ _
      | exact laws_markGears.mono _ _ _ _ _
      | exact laws_markTurnS.mono _ _ _
      | exact laws_szGears.mono _ _ _ _ _
      | exact laws_toGears.mono _ _ _ _
      | exact spec_FirstKnobs.mono _ _ _ _ _ _
      | exact LeO.none _
      | refine LeO.ite ?_ ?_
      | refine LeO.bind ?_ (fun _ => ?_)
    · intro y0 y1 y2
      unfold laws_FnExactFirstKnobs.j2
      repeat' first
      | (with_reducible exact ih0 _ _ _ _ _ _ _ _ _ _ _ _ _)
      | (with_reducible exact ih1 _ _ _ _ _ _ _ _ _)
      | (with_reducible exact ih2 _ _ _)
      | (with_reducible exact impl_FirstKnobs.mono _ _ _ _ _ _)
      | (with_reducible exact laws_eqGears.mono _ _ _ _ _ _ _)
      | (with_reducible exact laws_eqTurnS.mono _ _ _)
      | (with_reducible exact laws_heldTurnS.mono _ _ _)
      | (with_reducible exact laws_markGears.mono _ _ _ _ _)
      | (with_reducible exact laws_markTurnS.mono _ _ _)
      | (with_reducible exact laws_szGears.mono _ _ _ _ _)
      | (with_reducible exact laws_toGears.mono _ _ _ _)
      | (with_reducible exact spec_FirstKnobs.mono _ _ _ _ _ _)
      | (with_reducible exact LeO.refl _)
      | (with_reducible exact LeO.none _)
      | (with_reducible refine LeO.ite ?_ ?_)
      | (with_reducible refine LeO.bind ?_ (fun _ => ?_))
      | exact ih0 _ _ _ _ _ _ _ _ _ _ _ _ _
      | exact ih1 _ _ _ _ _ _ _ _ _
      | exact ih2 _ _ _
      | exact impl_FirstKnobs.mono _ _ _ _ _ _
      | exact laws_eqGears.mono _ _ _ _ _ _ _
      | exact laws_eqTurnS.mono _ _ _
      | exact laws_heldTurnS.mono _ _ _
      | exact laws_markGears.mono _ _ _ _ _
      | exact laws_markTurnS.mono _ _ _
      | exact laws_szGears.mono _ _ _ _ _
      | exact laws_toGears.mono _ _ _ _
      | exact spec_FirstKnobs.mono _ _ _ _ _ _
      | exact LeO.none _
      | refine LeO.ite ?_ ?_
      | refine LeO.bind ?_ (fun _ => ?_)
theorem laws_FnExactFirstKnobs.mono : ∀ a0 a1 a2 a3 a4 k, LeO (laws_FnExactFirstKnobs.f k a0 a1 a2 a3 a4) (laws_FnExactFirstKnobs.f (k + 1) a0 a1 a2 a3 a4) := by
  intro a0 a1 a2 a3 a4 k
  obtain ⟨ih0, ih1, ih2⟩ := laws_FnExactFirstKnobs.mono_l k
  unfold laws_FnExactFirstKnobs.f
  repeat' first
      | (with_reducible exact ih0 _ _ _ _ _ _ _ _ _ _ _ _ _)
      | (with_reducible exact ih1 _ _ _ _ _ _ _ _ _)
      | (with_reducible exact ih2 _ _ _)
      | (with_reducible exact impl_FirstKnobs.mono _ _ _ _ _ _)
      | (with_reducible exact laws_eqGears.mono _ _ _ _ _ _ _)
      | (with_reducible exact laws_eqTurnS.mono _ _ _)
      | (with_reducible exact laws_heldTurnS.mono _ _ _)
      | (with_reducible exact laws_markGears.mono _ _ _ _ _)
      | (with_reducible exact laws_markTurnS.mono _ _ _)
      | (with_reducible exact laws_szGears.mono _ _ _ _ _)
      | (with_reducible exact laws_toGears.mono _ _ _ _)
      | (with_reducible exact spec_FirstKnobs.mono _ _ _ _ _ _)
      | (with_reducible exact LeO.refl _)
      | (with_reducible exact LeO.none _)
      | (with_reducible refine LeO.ite ?_ ?_)
      | (with_reducible refine LeO.bind ?_ (fun _ => ?_))
      | exact ih0 _ _ _ _ _ _ _ _ _ _ _ _ _
      | exact ih1 _ _ _ _ _ _ _ _ _
      | exact ih2 _ _ _
      | exact impl_FirstKnobs.mono _ _ _ _ _ _
      | exact laws_eqGears.mono _ _ _ _ _ _ _
      | exact laws_eqTurnS.mono _ _ _
      | exact laws_heldTurnS.mono _ _ _
      | exact laws_markGears.mono _ _ _ _ _
      | exact laws_markTurnS.mono _ _ _
      | exact laws_szGears.mono _ _ _ _ _
      | exact laws_toGears.mono _ _ _ _
      | exact spec_FirstKnobs.mono _ _ _ _ _ _
      | exact LeO.none _
      | refine LeO.ite ?_ ?_
      | refine LeO.bind ?_ (fun _ => ?_)
set_option maxHeartbeats 8000000 in
set_option maxRecDepth 100000 in
theorem laws_FnExactFirstKnobs.calls (k : Nat) (a0_0 : Int) (a0_1 : Int) (A0_2 : Option Addr) (c0_2 : Nat) (l0_2 : List (List Int)) (a1 : ByteArray) (a2 : ByteArray) (r : Bool) (w : World) (hr0_2 : Kd.C (Kd.slice 3 (Kd.int .i64)) w A0_2 l0_2.length l0_2) (hc0_2 : l0_2.length ≤ c0_2) (h : laws_FnExactFirstKnobs.f k a0_0 a0_1 l0_2 a1 a2 = some r) (hr_ : r = true := by rfl) :
    Calls Try.prog 3 #[.agg #[.int .i64 a0_0, .int .i64 a0_1, .slice A0_2 l0_2.length c0_2], .string a1, .string a2] w fun e w' => e = .returned (.bool r) ∧ Below w.heap.size w w' := by
  have HRT := Aside0.mk hr_
  clear hr_
  have hu26 := Try.underlying26
  have hu33 := Try.underlying33
  have HR0_2 := Aside0.mk hr0_2
  have HC0_2 := Aside0.mk hc0_2
  clear hr0_2 hc0_2
  have HB := Aside0.mk (Below.refl w.heap.size w)
  have H : (if (a1.size : Int) > 1048576 then (some true) else (if (a2.size : Int) > 1048576 then (some true) else ((laws_szGears.f k a0_0 a0_1 l0_2 1048576).bind fun t363 => (if t363 < 0 then (some true) else ((laws_toGears.f k a0_0 a0_1 l0_2).bind fun bt364 => ((spec_FirstKnobs.f k bt364.1 bt364.2.1 bt364.2.2 a1 a2).bind fun bt369 => ((laws_toGears.f k a0_0 a0_1 l0_2).bind fun bt373 => ((impl_FirstKnobs.f k bt373.1 bt373.2.1 bt373.2.2 a1 a2).bind fun bt379 => ((laws_eqTurnS.f k bt379.1 bt369.1).bind fun t383 => (if t383 = true then (laws_FnExactFirstKnobs.j0 k a1 a2 bt369.1 bt369.2 bt379.1 bt379.2 (bt379.2 != bt369.2) a0_0 a0_1 l0_2 bt373.1 bt373.2.1 bt373.2.2) else (laws_FnExactFirstKnobs.j0 k a1 a2 bt369.1 bt369.2 bt379.1 bt379.2 true a0_0 a0_1 l0_2 bt373.1 bt373.2.1 bt373.2.2))))))))))) = some r := h
  clear h
  by_cases c4 : (a1.size : Int) > 1048576
  · rw [if_pos c4] at H
    have c4b0 : decide (1048576 < (a1.size : Int)) = true := decide_eq_true c4
    have c4b1 : decide (1048576 < a1.size) = true := decide_eq_true (by omega)
    clear c4
    obtain rfl := Option.some.inj H
    go_enter Try.func3, Try.ntmps3
    go_wp2_with (first | ((with_reducible refine gate_dst (N := 3) rfl ?_); refine box_event ?hg (N := 3) ?hd (cs := #[.int .i64 a0_0, .int .i64 a0_1, .slice A0_2 l0_2.length c0_2]) (t := 26) ?hr ?_; (case hd => rfl); (case hg => rfl); (case hr => first | (go_simp; done) | (go_simp; rfl)); intro gb362 hg w5 hbox hb; have n0_ := bsx hb HB; have n1_ := Aside0.mk (hbox); have n2_ := gwx hg HB; have n3_ := n2_; clear HB; have HB := n0_; have BK362 := n1_; have GW362 := n2_; have GE362 := n3_; clear n0_ n1_ n2_ n3_; clear hb hbox hg))
    go_ret
    exact ⟨by first | rfl | (simp [errW_none, errW_some] <;> rfl) | (simp [*, errW_none, errW_some] <;> rfl), bB HB⟩
  rw [if_neg c4] at H
  have c4b0 : decide (1048576 < (a1.size : Int)) = false := decide_eq_false c4
  have c4b1 : decide (1048576 < a1.size) = false := decide_eq_false (by omega)
  clear c4
  by_cases c6 : (a2.size : Int) > 1048576
  · rw [if_pos c6] at H
    have c6b0 : decide (1048576 < (a2.size : Int)) = true := decide_eq_true c6
    have c6b1 : decide (1048576 < a2.size) = true := decide_eq_true (by omega)
    clear c6
    obtain rfl := Option.some.inj H
    go_enter Try.func3, Try.ntmps3
    go_wp2_with (first | ((with_reducible refine gate_dst (N := 3) rfl ?_); refine box_event ?hg (N := 3) ?hd (cs := #[.int .i64 a0_0, .int .i64 a0_1, .slice A0_2 l0_2.length c0_2]) (t := 26) ?hr ?_; (case hd => rfl); (case hg => rfl); (case hr => first | (go_simp; done) | (go_simp; rfl)); intro gb362 hg w7 hbox hb; have n0_ := bsx hb HB; have n1_ := Aside0.mk (hbox); have n2_ := gwx hg HB; have n3_ := n2_; clear HB; have HB := n0_; have BK362 := n1_; have GW362 := n2_; have GE362 := n3_; clear n0_ n1_ n2_ n3_; clear hb hbox hg))
    go_ret
    exact ⟨by first | rfl | (simp [errW_none, errW_some] <;> rfl) | (simp [*, errW_none, errW_some] <;> rfl), bB HB⟩
  rw [if_neg c6] at H
  have c6b0 : decide (1048576 < (a2.size : Int)) = false := decide_eq_false c6
  have c6b1 : decide (1048576 < a2.size) = false := decide_eq_false (by omega)
  clear c6
  replace H := Option.bind_eq_some_iff.mp H
  obtain ⟨t363, A80, H⟩ := H
  try dsimp only at H
  have A8 := Aside0.mk A80
  clear A80
  by_cases c9 : t363 < 0
  · rw [if_pos c9] at H
    have c9b0 : decide (t363 < 0) = true := decide_eq_true c9
    clear c9
    obtain rfl := Option.some.inj H
    go_enter Try.func3, Try.ntmps3
    go_wp2_with (first | ((with_reducible refine gate_dst (N := 3) rfl ?_); refine box_event ?hg (N := 3) ?hd (cs := #[.int .i64 a0_0, .int .i64 a0_1, .slice A0_2 l0_2.length c0_2]) (t := 26) ?hr ?_; (case hd => rfl); (case hg => rfl); (case hr => first | (go_simp; done) | (go_simp; rfl)); intro gb362 hg w10 hbox hb; have n0_ := bsx hb HB; have n1_ := Aside0.mk (hbox); have n2_ := gwx hg HB; have n3_ := n2_; clear HB; have HB := n0_; have BK362 := n1_; have GW362 := n2_; have GE362 := n3_; clear n0_ n1_ n2_ n3_; clear hb hbox hg; have hcz11_0 : w10.cell? ⟨gb362, 0, none⟩ = some (.int .i64 a0_0) := (blk_cell BK362.out 0).trans rfl; have hcz11_1 : w10.cell? ⟨gb362, 1, none⟩ = some (.int .i64 a0_1) := (blk_cell BK362.out 1).trans rfl; have hcz11_2 : w10.cell? ⟨gb362, 2, none⟩ = some (.slice A0_2 l0_2.length c0_2) := (blk_cell BK362.out 2).trans rfl; have hfz11_0 := blk_frozen BK362.out 0; have hfz11_1 := blk_frozen BK362.out 1; have hfz11_2 := blk_frozen BK362.out 2) | ((with_reducible refine gate_callee (f := 6) rfl ?_); refine goesL_ (some 26) rfl rfl Try.func6 (by kernel_rfl) rfl #[.agg #[.int .i64 a0_0, .int .i64 a0_1, .slice A0_2 l0_2.length c0_2], .int .i64 1048576] rfl (by (try simp only [m_1, m_2, m_3]); first | done | rfl | (simp only [m_4, m_5]; rfl)) ?_; (with_reducible refine (laws_szGears.calls k a0_0 a0_1 _ _ l0_2 1048576 t363 _ ?side1 ?side2 A8.out).mono ?_); (case side1 => repeat (first | exact (Kd.C_below HR0_2.out HB.out) | (with_reducible refine Kd.C_alloc ?_ _) | (with_reducible refine Kd.C_drewN ?_ _) | (with_reducible refine Kd.C_drew ?_))); (case side2 => exact HC0_2.out); rintro e w12 ⟨rfl, hb⟩; refine ⟨_, rfl, ?_⟩; replace BK362 := bbx hb BK362; replace HB := bsx hb HB; skip; (try clear hb); (try clear hb2); (try clear hk); (try clear hi)))
    go_ret
    exact ⟨by first | rfl | (simp [errW_none, errW_some] <;> rfl) | (simp [*, errW_none, errW_some] <;> rfl), bB HB⟩
  rw [if_neg c9] at H
  have c9b0 : decide (t363 < 0) = false := decide_eq_false c9
  clear c9
  replace H := Option.bind_eq_some_iff.mp H
  obtain ⟨⟨t364, t365, t366⟩, A130, H⟩ := H
  try dsimp only at H
  have A13 := Aside0.mk A130
  clear A130
  replace H := Option.bind_eq_some_iff.mp H
  obtain ⟨⟨t369, t372⟩, A140, H⟩ := H
  try dsimp only at H
  have A14 := Aside0.mk A140
  clear A140
  replace H := Option.bind_eq_some_iff.mp H
  obtain ⟨⟨t373, t374, t375⟩, A150, H⟩ := H
  try dsimp only at H
  have A15 := Aside0.mk A150
  clear A150
  replace H := Option.bind_eq_some_iff.mp H
  obtain ⟨⟨t379, t382⟩, A160, H⟩ := H
  try dsimp only at H
  have A16 := Aside0.mk A160
  clear A160
  have HC17 := Aside0.mk H
  clear H
  go_enter Try.func3, Try.ntmps3
  go_upto_region 12 with (first | ((with_reducible refine gate_dst (N := 3) rfl ?_); refine box_event ?hg (N := 3) ?hd (cs := #[.int .i64 a0_0, .int .i64 a0_1, .slice A0_2 l0_2.length c0_2]) (t := 26) ?hr ?_; (case hd => rfl); (case hg => rfl); (case hr => first | (go_simp; done) | (go_simp; rfl)); intro gb362 hg w18 hbox hb; have n0_ := bsx hb HB; have n1_ := Aside0.mk (hbox); have n2_ := gwx hg HB; have n3_ := n2_; clear HB; have HB := n0_; have BK362 := n1_; have GW362 := n2_; have GE362 := n3_; clear n0_ n1_ n2_ n3_; clear hb hbox hg; have hcz19_0 : w18.cell? ⟨gb362, 0, none⟩ = some (.int .i64 a0_0) := (blk_cell BK362.out 0).trans rfl; have hcz19_1 : w18.cell? ⟨gb362, 1, none⟩ = some (.int .i64 a0_1) := (blk_cell BK362.out 1).trans rfl; have hcz19_2 : w18.cell? ⟨gb362, 2, none⟩ = some (.slice A0_2 l0_2.length c0_2) := (blk_cell BK362.out 2).trans rfl; have hfz19_0 := blk_frozen BK362.out 0; have hfz19_1 := blk_frozen BK362.out 1; have hfz19_2 := blk_frozen BK362.out 2) | ((with_reducible refine gate_callee (f := 6) rfl ?_); refine goesL_ (some 26) rfl rfl Try.func6 (by kernel_rfl) rfl #[.agg #[.int .i64 a0_0, .int .i64 a0_1, .slice A0_2 l0_2.length c0_2], .int .i64 1048576] rfl (by (try simp only [m_1, m_2, m_3]); first | done | rfl | (simp only [m_4, m_5]; rfl)) ?_; (with_reducible refine (laws_szGears.calls k a0_0 a0_1 _ _ l0_2 1048576 t363 _ ?side1 ?side2 A8.out).mono ?_); (case side1 => repeat (first | exact (Kd.C_below HR0_2.out HB.out) | (with_reducible refine Kd.C_alloc ?_ _) | (with_reducible refine Kd.C_drewN ?_ _) | (with_reducible refine Kd.C_drew ?_))); (case side2 => exact HC0_2.out); rintro e w20 ⟨rfl, hb⟩; refine ⟨_, rfl, ?_⟩; replace BK362 := bbx hb BK362; replace HB := bsx hb HB; skip; (try clear hb); (try clear hb2); (try clear hk); (try clear hi); have hcz21_0 : w20.cell? ⟨gb362, 0, none⟩ = some (.int .i64 a0_0) := (blk_cell BK362.out 0).trans rfl; have hcz21_1 : w20.cell? ⟨gb362, 1, none⟩ = some (.int .i64 a0_1) := (blk_cell BK362.out 1).trans rfl; have hcz21_2 : w20.cell? ⟨gb362, 2, none⟩ = some (.slice A0_2 l0_2.length c0_2) := (blk_cell BK362.out 2).trans rfl; have hfz21_0 := blk_frozen BK362.out 0; have hfz21_1 := blk_frozen BK362.out 1; have hfz21_2 := blk_frozen BK362.out 2) | ((with_reducible refine gate_callee (f := 8) rfl ?_); refine goesL_ (some 31) rfl rfl Try.func8 (by kernel_rfl) rfl #[.agg #[.int .i64 a0_0, .int .i64 a0_1, .slice A0_2 l0_2.length c0_2]] rfl (by (try simp only [m_1, m_2, m_3]); first | done | rfl | (simp only [m_4, m_5]; rfl)) ?_; (with_reducible refine (laws_toGears.calls k a0_0 a0_1 _ _ l0_2 t364 t365 t366 _ ?side1 ?side2 A13.out).mono ?_); (case side1 => repeat (first | exact (Kd.C_below HR0_2.out HB.out) | (with_reducible refine Kd.C_alloc ?_ _) | (with_reducible refine Kd.C_drewN ?_ _) | (with_reducible refine Kd.C_drew ?_))); (case side2 => exact HC0_2.out); rintro e w22 ⟨v367, rfl, ho0, hb⟩; refine ⟨_, rfl, ?_⟩; have n0_ := Aside0.mk (Kd.S_lower ho0 (below_size (bB HB))); replace BK362 := bbx hb BK362; have n2_ := bsx hb HB; clear HB; have HO368 := n0_; have HB := n2_; clear n0_ n2_; (try clear hb); (try clear hb2); (try clear hk); (try clear hi); (try clear ho0); obtain ⟨Ao23, co23, eo23⟩ := Kd.S_slice HO368.out; subst eo23) | ((with_reducible refine gate_callee (f := 7) rfl ?_); refine goesL_ (some 34) rfl rfl Try.func7 (by kernel_rfl) rfl #[.agg #[.int .i64 t364, .int .i64 t365, .slice Ao23 t366.length co23], .string a1, .string a2] rfl (by (try simp only [m_1, m_2, m_3]); first | done | rfl | (simp only [m_4, m_5]; rfl)) ?_; (with_reducible refine (spec_FirstKnobs.calls k t364 t365 _ _ t366 a1 a2 t369 t372 _ ?side1 ?side2 A14.out).mono ?_); (case side1 => repeat (first | exact (Kd.S_reads' HO368.out).2.2 | (with_reducible refine Kd.C_alloc ?_ _) | (with_reducible refine Kd.C_drewN ?_ _) | (with_reducible refine Kd.C_drew ?_))); (case side2 => exact (Kd.S_reads' HO368.out).2.1); rintro e w24 ⟨v370, rfl, ho0, hb⟩; refine ⟨_, rfl, ?_⟩; have n0_ := Aside0.mk (Kd.S_below (by (with_reducible repeat (first | apply Kd.S_alloc | apply Kd.S_drewN | apply Kd.S_drew)); exact HO368.out) hb); have n1_ := Aside0.mk (Kd.R_lower ho0 (below_size (bB HB))); replace BK362 := bbx hb BK362; have n3_ := bsx hb HB; clear HO368; clear HB; have HO368 := n0_; have HO371 := n1_; have HB := n3_; clear n0_ n1_ n3_; (try clear hb); (try clear hb2); (try clear hk); (try clear hi); (try clear ho0); have hcz25_0 : w24.cell? ⟨gb362, 0, none⟩ = some (.int .i64 a0_0) := (blk_cell BK362.out 0).trans rfl; have hcz25_1 : w24.cell? ⟨gb362, 1, none⟩ = some (.int .i64 a0_1) := (blk_cell BK362.out 1).trans rfl; have hcz25_2 : w24.cell? ⟨gb362, 2, none⟩ = some (.slice A0_2 l0_2.length c0_2) := (blk_cell BK362.out 2).trans rfl; have hfz25_0 := blk_frozen BK362.out 0; have hfz25_1 := blk_frozen BK362.out 1; have hfz25_2 := blk_frozen BK362.out 2) | ((with_reducible refine gate_callee (f := 8) rfl ?_); refine goesL_ (some 38) rfl rfl Try.func8 (by kernel_rfl) rfl #[.agg #[.int .i64 a0_0, .int .i64 a0_1, .slice A0_2 l0_2.length c0_2]] rfl (by (try simp only [m_1, m_2, m_3]); first | done | rfl | (simp only [m_4, m_5]; rfl)) ?_; (with_reducible refine (laws_toGears.calls k a0_0 a0_1 _ _ l0_2 t373 t374 t375 _ ?side1 ?side2 A15.out).mono ?_); (case side1 => repeat (first | exact (Kd.C_below HR0_2.out HB.out) | (with_reducible refine Kd.C_alloc ?_ _) | (with_reducible refine Kd.C_drewN ?_ _) | (with_reducible refine Kd.C_drew ?_))); (case side2 => exact HC0_2.out); rintro e w26 ⟨v376, rfl, ho0, hb⟩; refine ⟨_, rfl, ?_⟩; have n0_ := Aside0.mk (Kd.S_elder' (by (with_reducible repeat (first | apply Kd.S_alloc | apply Kd.S_drewN | apply Kd.S_drew)); exact HO368.out) (Kd.S_base ho0) hb); have n1_ := Aside0.mk (Kd.R_below (by (with_reducible repeat (first | apply r_a | apply r_d | apply r_e)); exact HO371.out) hb); have n2_ := Aside0.mk (Kd.S_lower (Kd.S_new' ho0 (Kd.S_lt (by (with_reducible repeat (first | apply Kd.S_alloc | apply Kd.S_drewN | apply Kd.S_drew)); exact HO368.out))) (below_size (bB HB))); replace BK362 := bbx hb BK362; have n4_ := bsx hb HB; clear HO368; clear HO371; clear HB; have HO368 := n0_; have HO371 := n1_; have HO377 := n2_; have HB := n4_; clear n0_ n1_ n2_ n4_; (try clear hb); (try clear hb2); (try clear hk); (try clear hi); (try clear ho0)) | ((with_reducible refine gate_dst (N := 10) rfl ?_); refine box_event ?hg (N := 10) ?hd (cs := #[.int .i64 0, .int .i64 0, .slice none 0 0]) (t := 33) ?hr ?_; (case hd => rfl); (case hg => rfl); (case hr => first | (go_simp; done) | (go_simp; rfl)); intro gb378 hg w27 hbox hb; have n0_ := Aside0.mk (Kd.S_below (by (with_reducible repeat (first | apply Kd.S_alloc | apply Kd.S_drewN | apply Kd.S_drew)); exact HO368.out) hb); have n1_ := Aside0.mk (Kd.R_below (by (with_reducible repeat (first | apply r_a | apply r_d | apply r_e)); exact HO371.out) hb); have n2_ := Aside0.mk (Kd.S_below (by (with_reducible repeat (first | apply Kd.S_alloc | apply Kd.S_drewN | apply Kd.S_drew)); exact HO377.out) hb); have n3_ := bbx hb BK362; have n4_ := bsx hb HB; have n5_ := Aside0.mk (hbox); have n6_ := gwx hg HB; have n7_ := gwx hg HB; have n8_ := nlx hg BK362; have n9_ := ngx hg BK362; clear HO368; clear HO371; clear HO377; clear BK362; clear HB; have HO368 := n0_; have HO371 := n1_; have HO377 := n2_; have BK362 := n3_; have HB := n4_; have BK378 := n5_; have GW378 := n6_; have GE378 := n7_; have NB362_378 := n8_; have NB378_362 := n9_; clear n0_ n1_ n2_ n3_ n4_ n5_ n6_ n7_ n8_ n9_; clear hb hbox hg; have hnb28 := eq_false NB378_362.out; have hnc28 := eq_false NB362_378.out; have hcz29_0 : w27.cell? ⟨gb378, 0, none⟩ = some (.int .i64 0) := (blk_cell BK378.out 0).trans rfl; have hcz29_1 : w27.cell? ⟨gb378, 1, none⟩ = some (.int .i64 0) := (blk_cell BK378.out 1).trans rfl; have hcz29_2 : w27.cell? ⟨gb378, 2, none⟩ = some (.slice none 0 0) := (blk_cell BK378.out 2).trans rfl; have hfz29_0 := blk_frozen BK378.out 0; have hfz29_1 := blk_frozen BK378.out 1; have hfz29_2 := blk_frozen BK378.out 2; obtain ⟨Ao30, co30, eo30⟩ := Kd.S_slice HO377.out; subst eo30) | ((with_reducible refine gate_callee (f := 9) rfl ?_); refine goesL_ (some 43) rfl rfl Try.func9 (by kernel_rfl) rfl #[.agg #[.int .i64 t373, .int .i64 t374, .slice Ao30 t375.length co30], .string a1, .string a2] rfl (by (try simp only [m_1, m_2, m_3]); first | done | rfl | (simp only [m_4, m_5]; rfl)) ?_; (with_reducible refine (impl_FirstKnobs.calls k t373 t374 _ _ t375 a1 a2 t379 t382 _ ?side1 ?side2 A16.out).mono ?_); (case side1 => refine (Kd.S_reads' (e := 40) (base := w.heap.size) (ok := fun k_ => (True ∧ some k_ ≠ (.slice Ao23 t366.length co23 : Value).ownBlock)) (n := t375.length) (c := co30) ?_).2.2; exact (by (with_reducible repeat (first | apply Kd.S_alloc | apply Kd.S_drewN | apply Kd.S_drew)); exact (Kd.S_mono (Kd.S_far (p := ⟨gb378, 2, none⟩) (Kd.S_far (p := ⟨gb378, 1, none⟩) (Kd.S_far (p := ⟨gb378, 0, none⟩) (Kd.S_types HO377.out BK378.out (by decide)) (fun _ hk => hk.2) (.int .i64 t373)) (fun _ hk => hk.2) (.int .i64 t374)) (fun _ hk => hk.2) (.slice Ao30 t375.length co30)) (fun _ h_ => h_.1)))); (case side2 => exact (Kd.S_reads' HO377.out).2.1); rintro e w31 ⟨v380, rfl, ho0, hb⟩; refine ⟨_, rfl, ?_⟩; have n0_ := Aside0.mk (Kd.S_below (by (with_reducible repeat (first | apply Kd.S_alloc | apply Kd.S_drewN | apply Kd.S_drew)); exact (Kd.S_mono (Kd.S_far (p := ⟨gb378, 2, none⟩) (Kd.S_far (p := ⟨gb378, 1, none⟩) (Kd.S_far (p := ⟨gb378, 0, none⟩) (Kd.S_types HO368.out BK378.out (by decide)) (fun _ hk => hk.2) (.int .i64 t373)) (fun _ hk => hk.2) (.int .i64 t374)) (fun _ hk => hk.2) (.slice Ao30 t375.length co30)) (fun _ h_ => h_.1))) hb); have n1_ := Aside0.mk (Kd.R_elder' (by (with_reducible repeat (first | apply r_a | apply r_d | apply r_e)); exact (Kd.R_mono (Kd.R_far (p := ⟨gb378, 2, none⟩) (Kd.R_far (p := ⟨gb378, 1, none⟩) (Kd.R_far (p := ⟨gb378, 0, none⟩) (Kd.R_types HO371.out BK378.out (by decide)) (fun _ hk => hk.2) (.int .i64 t373)) (fun _ hk => hk.2) (.int .i64 t374)) (fun _ hk => hk.2) (.slice Ao30 t375.length co30)) (fun _ h_ => h_.1))) (Kd.R_base ho0) hb); have n2_ := Aside0.mk (Kd.S_below (by (with_reducible repeat (first | apply Kd.S_alloc | apply Kd.S_drewN | apply Kd.S_drew)); exact (Kd.S_mono (Kd.S_far (p := ⟨gb378, 2, none⟩) (Kd.S_far (p := ⟨gb378, 1, none⟩) (Kd.S_far (p := ⟨gb378, 0, none⟩) (Kd.S_types HO377.out BK378.out (by decide)) (fun _ hk => hk.2) (.int .i64 t373)) (fun _ hk => hk.2) (.int .i64 t374)) (fun _ hk => hk.2) (.slice Ao30 t375.length co30)) (fun _ h_ => h_.1))) hb); have n3_ := Aside0.mk (Kd.R_lower (Kd.R_new' ho0 (Kd.R_lt (by (with_reducible repeat (first | apply r_a | apply r_d | apply r_e)); exact (Kd.R_mono (Kd.R_far (p := ⟨gb378, 2, none⟩) (Kd.R_far (p := ⟨gb378, 1, none⟩) (Kd.R_far (p := ⟨gb378, 0, none⟩) (Kd.R_types HO371.out BK378.out (by decide)) (fun _ hk => hk.2) (.int .i64 t373)) (fun _ hk => hk.2) (.int .i64 t374)) (fun _ hk => hk.2) (.slice Ao30 t375.length co30)) (fun _ h_ => h_.1))))) (below_size (bB HB))); have n4_ := Aside0.mk (blk_below (g := gb362) (o := .cells #[.int .i64 a0_0, .int .i64 a0_1, .slice A0_2 l0_2.length c0_2] 26 (0, 0)) (bF) hb); have n5_ := Aside0.mk (blk_below (g := gb378) (o := .cells #[.int .i64 t373, .int .i64 t374, .slice Ao30 t375.length co30] 33 (0, 0)) (by (with_reducible repeat (first | refine g_d ?_ _ | refine g_e ?_ | refine g_a ?_ _)); refine blk_put (cs := #[.int .i64 t373, .int .i64 t374, .slice none 0 0]) ?_ 2 _ rfl; (with_reducible repeat (first | refine g_d ?_ _ | refine g_e ?_ | refine g_a ?_ _)); refine blk_put (cs := #[.int .i64 t373, .int .i64 0, .slice none 0 0]) ?_ 1 _ rfl; (with_reducible repeat (first | refine g_d ?_ _ | refine g_e ?_ | refine g_a ?_ _)); refine blk_put (cs := #[.int .i64 0, .int .i64 0, .slice none 0 0]) ?_ 0 _ rfl; (with_reducible repeat (first | refine g_d ?_ _ | refine g_e ?_ | refine g_a ?_ _)); exact BK378.out) hb); have n6_ := bsx hb HB; clear HO368; clear HO371; clear HO377; clear BK362; clear BK378; clear HB; have HO368 := n0_; have HO371 := n1_; have HO377 := n2_; have HO381 := n3_; have BK362 := n4_; have BK378 := n5_; have HB := n6_; clear n0_ n1_ n2_ n3_ n4_ n5_ n6_; (try clear hb); (try clear hb2); (try clear hk); (try clear hi); (try clear ho0)))
  (try simp only [Act.put, s_1, s_2, s_3])
  go_cut [54] from 1 to 0 (fun v54 wc => ∃ (kq : Nat) (x54_16 : Bool), v54 = .bool x54_16 ∧ Aside0 (laws_FnExactFirstKnobs.j0 kq a1 a2 t369 t372 t379 t382 x54_16 a0_0 a0_1 l0_2 t373 t374 t375 = some r) ∧ Aside0 (kq ≤ k) ∧ Aside0 (Kd.R k48 48 wc w.heap.size (fun k_ => some k_ ≠ (v380 : Value).ownBlock) v370 t369) ∧ Aside0 (Kd.R k48 48 wc w.heap.size (fun k_ => some k_ ≠ (v370 : Value).ownBlock) v380 t379) ∧ Aside0 (Kd.S (Kd.slice 3 (Kd.int .i64)) 40 wc w.heap.size (fun _ => True) (.slice Ao30 t375.length co30) t375) ∧ Aside0 (wc.heap[gb362]? = some (.cells #[.int .i64 a0_0, .int .i64 a0_1, (.slice A0_2 l0_2.length c0_2)] 26 (0, 0))) ∧ Aside0 (wc.heap[gb378]? = some (.cells #[.int .i64 t373, .int .i64 t374, (.slice Ao30 t375.length co30)] 33 (0, 0))) ∧ Aside0 (Below w.heap.size w wc))
  case first => as_aux_lemma =>
    have H := HC17.out
    clear HC17
    replace H := Option.bind_eq_some_iff.mp H
    obtain ⟨t383, A320, H⟩ := H
    try dsimp only at H
    have A32 := Aside0.mk A320
    clear A320
    by_cases c33 : t383 = true
    rotate_left
    · replace c33 := Bool.eq_false_iff.mpr c33
      subst c33
      rw [if_neg (show ¬ (false = true) by decide)] at H
      rw [HRT.out] at H
      exact absurd H (by generalize k = q_; cases q_ <;> simp [laws_FnExactFirstKnobs.j0])
    subst c33
    rw [if_pos rfl] at H
    have H' := Aside0.mk H
    clear H
    obtain ⟨Ao34, co34, eo34⟩ := Kd.R_slice HO381.out
    subst eo34
    obtain ⟨Ao35, co35, eo35⟩ := Kd.R_slice HO371.out
    subst eo35
    go_wp2_with (first | ((with_reducible refine gate_callee (f := 10) rfl ?_); refine goesL_ (some 48) rfl rfl Try.func10 (by kernel_rfl) rfl #[.slice Ao34 t379.length co34, .slice Ao35 t369.length co35] rfl (by (try simp only [m_1, m_2, m_3]); first | done | rfl | (simp only [m_4, m_5]; rfl)) ?_; (with_reducible refine (laws_eqTurnS.calls k _ _ t379 _ _ t369 true _ ?side1 ?side2 ?side3 ?side4 A32.out).mono ?_); (case side1 => repeat (first | exact (Kd.R_reads' HO381.out).2.2 | (with_reducible refine Kd.C_alloc ?_ _) | (with_reducible refine Kd.C_drewN ?_ _) | (with_reducible refine Kd.C_drew ?_))); (case side2 => exact (Kd.R_reads' HO381.out).2.1); (case side3 => repeat (first | exact (Kd.R_reads' HO371.out).2.2 | (with_reducible refine Kd.C_alloc ?_ _) | (with_reducible refine Kd.C_drewN ?_ _) | (with_reducible refine Kd.C_drew ?_))); (case side4 => exact (Kd.R_reads' HO371.out).2.1); rintro e w36 ⟨rfl, hb⟩; refine ⟨_, rfl, ?_⟩; have n0_ := Aside0.mk (Kd.S_below (by (with_reducible repeat (first | apply Kd.S_alloc | apply Kd.S_drewN | apply Kd.S_drew)); exact HO368.out) hb); have n1_ := Aside0.mk (Kd.R_below (by (with_reducible repeat (first | apply r_a | apply r_d | apply r_e)); exact HO371.out) hb); have n2_ := Aside0.mk (Kd.S_below (by (with_reducible repeat (first | apply Kd.S_alloc | apply Kd.S_drewN | apply Kd.S_drew)); exact HO377.out) hb); have n3_ := Aside0.mk (Kd.R_below (by (with_reducible repeat (first | apply r_a | apply r_d | apply r_e)); exact HO381.out) hb); replace BK362 := bbx hb BK362; replace BK378 := bbx hb BK378; replace HB := bsx hb HB; clear HO368; clear HO371; clear HO377; clear HO381; have HO368 := n0_; have HO371 := n1_; have HO377 := n2_; have HO381 := n3_; clear n0_ n1_ n2_ n3_; (try clear hb); (try clear hb2); (try clear hk); (try clear hi)))
    go_meet
    case rel => refine ⟨_, ((t382 != t372)), (by first | rfl | (simp; done) | (simp [*]; done)), H', ⟨by first | omega | exact Nat.le_refl _⟩, ⟨by (with_reducible repeat (first | apply r_a | apply r_d | apply r_e)); exact Kd.R_mono HO371.out (fun _ hk => hk.2)⟩, ⟨by (with_reducible repeat (first | apply r_a | apply r_d | apply r_e)); exact Kd.R_mono HO381.out (fun _ hk => hk.2)⟩, ⟨by (with_reducible repeat (first | apply Kd.S_alloc | apply Kd.S_drewN | apply Kd.S_drew)); exact Kd.S_mono HO377.out (fun _ hk => trivial)⟩, ⟨?_⟩, ⟨?_⟩, ⟨bB HB⟩⟩ <;> (with_reducible repeat (first | refine g_d ?_ _ | refine g_e ?_ | refine g_a ?_ _)) <;> first | exact BK362.out | exact BK378.out
  clear HC17
  try clear c4
  try clear c4b0
  try clear c4b1
  try clear c6
  try clear c6b0
  try clear c6b1
  try clear c9
  try clear c9b0
  try clear hcz19_0
  try clear hcz19_1
  try clear hcz19_2
  try clear hcz21_0
  try clear hcz21_1
  try clear hcz21_2
  try clear hcz25_0
  try clear hcz25_1
  try clear hcz25_2
  try clear hcz29_0
  try clear hcz29_1
  try clear hcz29_2
  try clear hfz19_0
  try clear hfz19_1
  try clear hfz19_2
  try clear hfz21_0
  try clear hfz21_1
  try clear hfz21_2
  try clear hfz25_0
  try clear hfz25_1
  try clear hfz25_2
  try clear hfz29_0
  try clear hfz29_1
  try clear hfz29_2
  obtain ⟨kq, x54_16, rfl, HA, HJ16, HO_8, HO_11, HO_379002, BK362, BK378, HB⟩ := hcut
  rcases kq with _ | kj16
  · exact absurd HA.out (by simp [laws_FnExactFirstKnobs.j0])
  have H := HA.out
  clear HA
  simp only [laws_FnExactFirstKnobs.j0] at H
  by_cases c37 : x54_16 = true
  · subst c37
    rw [if_pos rfl] at H
    rw [HRT.out] at H
    exact absurd H (by simp)
  replace c37 := Bool.eq_false_iff.mpr c37
  subst c37
  rw [if_neg (show ¬ (false = true) by decide)] at H
  replace H := Option.bind_eq_some_iff.mp H
  obtain ⟨⟨t384, t385, t386⟩, A380, H⟩ := H
  try dsimp only at H
  have A38 := Aside0.mk A380
  clear A380
  replace H := Option.bind_eq_some_iff.mp H
  obtain ⟨t389, A390, H⟩ := H
  try dsimp only at H
  have A39 := Aside0.mk A390
  clear A390
  by_cases c40 : t389 = true
  rotate_left
  · replace c40 := Bool.eq_false_iff.mpr c40
    subst c40
    rw [if_neg (show ¬ (false = true) by decide)] at H
    rw [HRT.out] at H
    exact absurd H (by simp)

  subst c40
  rw [if_pos rfl] at H
  replace H := Option.bind_eq_some_iff.mp H
  obtain ⟨t390, A410, H⟩ := H
  try dsimp only at H
  have A41 := Aside0.mk A410
  clear A410
  have HC42 := Aside0.mk H
  clear H
  try go_wp2
  have n0_ := Aside0.mk (r_e HO_8.out)
  have n1_ := Aside0.mk (r_e HO_11.out)
  have n2_ := Aside0.mk (Kd.S_drew HO_379002.out)
  have n3_ := Aside0.mk (g_e BK362.out)
  have n4_ := Aside0.mk (g_e BK378.out)
  have n5_ := Aside0.mk (b_e HB.out)
  clear HO_8
  clear HO_11
  clear HO_379002
  clear BK362
  clear BK378
  clear HB
  have HO_8 := n0_
  have HO_11 := n1_
  have HO_379002 := n2_
  have BK362 := n3_
  have BK378 := n4_
  have HB := n5_
  clear n0_ n1_ n2_ n3_ n4_ n5_
  refine start_ (n := 5) (S := fun w' => w'.cell? ⟨gb378, 0, none⟩ = some (.int .i64 t373) ∧ w'.cell? ⟨gb378, 1, none⟩ = some (.int .i64 t374) ∧ w'.cell? ⟨gb378, 2, none⟩ = some (.slice Ao30 t375.length co30) ∧ w'.cell? ⟨gb362, 0, none⟩ = some (.int .i64 a0_0) ∧ w'.cell? ⟨gb362, 1, none⟩ = some (.int .i64 a0_1) ∧ w'.cell? ⟨gb362, 2, none⟩ = some (.slice A0_2 l0_2.length c0_2)) (ds := []) (bs_ 5 0) (by kernel_rfl) rfl rfl ⟨(blk_cell BK378.out 0).trans rfl, (blk_cell BK378.out 1).trans rfl, (blk_cell BK378.out 2).trans rfl, (blk_cell BK362.out 0).trans rfl, (blk_cell BK362.out 1).trans rfl, (blk_cell BK362.out 2).trans rfl⟩ (fun hHeld => ?_)
  generalize wc.drew = w43 at HO_8 HO_11 HO_379002 BK362 BK378 HB hHeld ⊢
  refine take_ (i := 0) (N := some 55) (v := ?_) (a' := ?_) (bs_ 5 1) rfl rfl (by kernel_rfl) (fun _ _ _ h => h) (Or.inl ⟨by rfl, ?_⟩) hHeld ?_ ?_
  rotate_left
  · rintro w' ⟨s0, s1, s2, s3, s4, s5⟩
    go_simp
    with_reducible rfl
  rotate_left
  · simp only [Act.put, s_1, s_2, s_3, i64_w, i32_w]
    rfl
  refine take_ (i := 1) (N := some 56) (v := ?_) (a' := ?_) (bs_ 5 3) rfl rfl (by kernel_rfl) (fun _ _ _ h => h) (Or.inl ⟨by rfl, ?_⟩) hHeld ?_ ?_
  rotate_left
  · rintro w' ⟨s0, s1, s2, s3, s4, s5⟩
    go_simp
    with_reducible rfl
  rotate_left
  · simp only [Act.put, s_1, s_2, s_3, i64_w, i32_w]
    rfl
  refine one_ (i := 2) (N := some 57) (bs_ 5 7) rfl rfl (by kernel_rfl) (by decide) (fun K hK => ?_)
  refine goes_ Try.func8 (by kernel_rfl) rfl #[.agg #[.int .i64 a0_0, .int .i64 a0_1, .slice A0_2 l0_2.length c0_2]] (by rfl) rfl rfl (by (try simp only [m_1, m_2, m_3]); first | done | rfl | (simp only [m_4, m_5]; rfl)) ?_
  with_reducible refine (laws_toGears.calls kj16 a0_0 a0_1 _ _ l0_2 t384 t385 t386 _ ?side1 ?side2 A38.out).mono ?_
  (case side1 => repeat (first | exact (Kd.C_below HR0_2.out HB.out) | (with_reducible refine Kd.C_alloc ?_ _) | (with_reducible refine Kd.C_drewN ?_ _) | (with_reducible refine Kd.C_drew ?_)))
  (case side2 => exact HC0_2.out)
  rintro e w44 ⟨v387, rfl, ho0, hb⟩
  refine ⟨_, rfl, ?_⟩
  have n0_ := Aside0.mk (Kd.R_below (by (with_reducible repeat (first | apply r_a | apply r_d | apply r_e)); exact HO_8.out) hb)
  have n1_ := Aside0.mk (Kd.R_below (by (with_reducible repeat (first | apply r_a | apply r_d | apply r_e)); exact HO_11.out) hb)
  have n2_ := Aside0.mk (Kd.S_elder' (by (with_reducible repeat (first | apply Kd.S_alloc | apply Kd.S_drewN | apply Kd.S_drew)); exact HO_379002.out) (Kd.S_base ho0) hb)
  have n3_ := Aside0.mk (Kd.S_lower (Kd.S_new' ho0 (Kd.S_lt (by (with_reducible repeat (first | apply Kd.S_alloc | apply Kd.S_drewN | apply Kd.S_drew)); exact HO_379002.out))) (below_size (bB HB)))
  have n4_ := bbx hb BK362
  have n5_ := bbx hb BK378
  have n6_ := bsx hb HB
  clear HO_8
  clear HO_11
  clear HO_379002
  clear BK362
  clear BK378
  clear HB
  have HO_8 := n0_
  have HO_11 := n1_
  have HO_379002 := n2_
  have HO388 := n3_
  have BK362 := n4_
  have BK378 := n5_
  have HB := n6_
  clear n0_ n1_ n2_ n3_ n4_ n5_ n6_
  (try clear hb)
  (try clear hb2)
  (try clear hk)
  (try clear hi)
  (try clear ho0)
  obtain ⟨Ao45, co45, eo45⟩ := Kd.S_slice HO388.out
  (first | subst eo45 | (injection eo45 with f1_ f2_ f3_; have f4_ := f1_.symm; have f5_ := f3_.symm; clear f1_ f2_ f3_; subst f4_; subst f5_))
  refine hK.out _ _ ⟨(blk_cell BK378.out 0).trans rfl, (blk_cell BK378.out 1).trans rfl, (blk_cell BK378.out 2).trans rfl, (blk_cell BK362.out 0).trans rfl, (blk_cell BK362.out 1).trans rfl, (blk_cell BK362.out 2).trans rfl⟩ (fun hHeld => ?_)
  clear hK K
  refine norm_ (a' := ?_) ?_ ?_
  rotate_left
  · show Act.put _ (some 57) _ = _
    simp only [Act.put, s_1, s_2, s_3, i64_w, i32_w]
    rfl
  refine one_ (i := 3) (N := some 58) (bs_ 5 15) rfl rfl (by kernel_rfl) (by decide) (fun K hK => ?_)
  refine goes_ Try.func11 (by kernel_rfl) rfl #[.agg #[.int .i64 t373, .int .i64 t374, .slice Ao30 t375.length co30], .agg #[.int .i64 t384, .int .i64 t385, .slice Ao45 t386.length co45]] (by rfl) rfl rfl (by (try simp only [m_1, m_2, m_3]); first | done | rfl | (simp only [m_4, m_5]; rfl)) ?_
  with_reducible refine (laws_eqGears.calls kj16 t373 t374 _ _ t375 t384 t385 _ _ t386 true _ ?side1 ?side2 ?side3 ?side4 A39.out).mono ?_
  (case side1 => repeat (first | exact (Kd.S_reads' HO_379002.out).2.2 | (with_reducible refine Kd.C_alloc ?_ _) | (with_reducible refine Kd.C_drewN ?_ _) | (with_reducible refine Kd.C_drew ?_)))
  (case side2 => exact (Kd.S_reads' HO_379002.out).2.1)
  (case side3 => repeat (first | exact (Kd.S_reads' HO388.out).2.2 | (with_reducible refine Kd.C_alloc ?_ _) | (with_reducible refine Kd.C_drewN ?_ _) | (with_reducible refine Kd.C_drew ?_)))
  (case side4 => exact (Kd.S_reads' HO388.out).2.1)
  rintro e w46 ⟨rfl, hb⟩
  refine ⟨_, rfl, ?_⟩
  have n0_ := Aside0.mk (Kd.R_below (by (with_reducible repeat (first | apply r_a | apply r_d | apply r_e)); exact HO_8.out) hb)
  have n1_ := Aside0.mk (Kd.R_below (by (with_reducible repeat (first | apply r_a | apply r_d | apply r_e)); exact HO_11.out) hb)
  have n2_ := Aside0.mk (Kd.S_below (by (with_reducible repeat (first | apply Kd.S_alloc | apply Kd.S_drewN | apply Kd.S_drew)); exact HO_379002.out) hb)
  have n3_ := Aside0.mk (Kd.S_below (by (with_reducible repeat (first | apply Kd.S_alloc | apply Kd.S_drewN | apply Kd.S_drew)); exact HO388.out) hb)
  have n4_ := bbx hb BK362
  have n5_ := bbx hb BK378
  have n6_ := bsx hb HB
  clear HO_8
  clear HO_11
  clear HO_379002
  clear HO388
  clear BK362
  clear BK378
  clear HB
  have HO_8 := n0_
  have HO_11 := n1_
  have HO_379002 := n2_
  have HO388 := n3_
  have BK362 := n4_
  have BK378 := n5_
  have HB := n6_
  clear n0_ n1_ n2_ n3_ n4_ n5_ n6_
  (try clear hb)
  (try clear hb2)
  (try clear hk)
  (try clear hi)
  refine hK.out _ _ ⟨(blk_cell BK378.out 0).trans rfl, (blk_cell BK378.out 1).trans rfl, (blk_cell BK378.out 2).trans rfl, (blk_cell BK362.out 0).trans rfl, (blk_cell BK362.out 1).trans rfl, (blk_cell BK362.out 2).trans rfl⟩ (fun hHeld => ?_)
  clear hK K
  refine norm_ (a' := ?_) ?_ ?_
  rotate_left
  · show Act.put _ (some 58) _ = _
    simp only [Act.put, s_1, s_2, s_3, i64_w, i32_w]
    rfl
  refine pure_ (i := 4) (N := some 59) (v := ?_) (a' := ?_) (bs_ 5 31) rfl rfl (by kernel_rfl) (fun _ _ _ h => h) (Or.inl ⟨by rfl, ?_⟩) ?_ ?_
  rotate_left
  · intro w'
    go_simp
    with_reducible rfl
  rotate_left
  · simp only [Act.put, s_1, s_2, s_3, i64_w, i32_w]
    rfl
  refine done_ (by kernel_rfl) ?_
  have hnb47 := eq_false NB378_362.out
  have hnc47 := eq_false NB362_378.out
  have hcz48_0 : w46.cell? ⟨gb378, 0, none⟩ = some (.int .i64 t373) := (blk_cell BK378.out 0).trans rfl
  have hcz48_1 : w46.cell? ⟨gb378, 1, none⟩ = some (.int .i64 t374) := (blk_cell BK378.out 1).trans rfl
  have hcz48_2 : w46.cell? ⟨gb378, 2, none⟩ = some (.slice Ao30 t375.length co30) := (blk_cell BK378.out 2).trans rfl
  have hfz48_0 := blk_frozen BK378.out 0
  have hfz48_1 := blk_frozen BK378.out 1
  have hfz48_2 := blk_frozen BK378.out 2
  go_upto_region 18 with (first | ((with_reducible refine gate_callee (f := 12) rfl ?_); refine goesL_ (some 62) rfl rfl Try.func12 (by kernel_rfl) rfl #[.agg #[.int .i64 t373, .int .i64 t374, .slice Ao30 t375.length co30], .int .i64 1] rfl (by (try simp only [m_1, m_2, m_3]); first | done | rfl | (simp only [m_4, m_5]; rfl)) ?_; have HSb_ := Kd.S_bound HO_379002.out; (refine (laws_markGears.calls kj16 _ t373 t374 _ t375 1 t390 w _ ?side1 HSb_ A41.out).mono ?_); (case side1 => exact (bB HB)); clear HSb_; rintro e w49 ⟨rfl, ⟨l_, ho9_⟩, hb, hkp⟩; refine ⟨_, rfl, ?_⟩; have n0_ := Aside0.mk (laws_markGears.keptT [40, 3] (by (with_reducible repeat (first | apply r_a | apply r_d | apply r_e)); exact HO_8.out) hkp (fun k_ h_ => h_.2.2.2) (by decide)); have n1_ := Aside0.mk (laws_markGears.keptT [40, 3] (by (with_reducible repeat (first | apply r_a | apply r_d | apply r_e)); exact HO_11.out) hkp (fun k_ h_ => h_.2.2.2) (by decide)); have n2_ := Aside0.mk (Kd.S_mono (ok' := fun _ => True) ho9_ (fun _ _ => trivial)); have n3_ := Aside0.mk trivial; have n4_ := Aside0.mk (laws_markGears.blkT [40, 3] (bK BK362) hkp (fun k_ h_ => h_.2.2.2) (by decide)); have n5_ := Aside0.mk (laws_markGears.blkT [40, 3] (bK BK378) hkp (fun k_ h_ => h_.2.2.2) (by decide)); have n6_ := Aside0.mk hb; clear HO_8; clear HO_11; clear HO_379002; clear HO388; clear BK362; clear BK378; clear HB; have HO_8 := n0_; have HO_11 := n1_; have HO_379002 := n2_; have HO388 := n3_; have BK362 := n4_; have BK378 := n5_; have HB := n6_; clear n0_ n1_ n2_ n3_ n4_ n5_ n6_; (try clear hb); (try clear hb2); (try clear hk); (try clear hi)))
  (try simp only [Act.put, s_1, s_2, s_3])
  go_cut [75] from 1 to 0 (fun v75 wc => ∃ (kq : Nat) (x75_41 : Bool), v75 = .bool x75_41 ∧ Aside0 (laws_FnExactFirstKnobs.j1 kq a1 a2 t369 t372 t379 x75_41 a0_0 a0_1 l0_2 = some r) ∧ Aside0 (kq ≤ kj16) ∧ Aside0 (Kd.R k48 48 wc w.heap.size (fun k_ => some k_ ≠ (v380 : Value).ownBlock) v370 t369) ∧ Aside0 (Kd.R k48 48 wc w.heap.size (fun k_ => some k_ ≠ (v370 : Value).ownBlock) v380 t379) ∧ Aside0 (∃ l_, Kd.S (Kd.slice 3 (Kd.int .i64)) 40 wc w.heap.size (fun _ => True) (.slice Ao30 t375.length co30) l_) ∧ Aside0 (wc.heap[gb362]? = some (.cells #[.int .i64 a0_0, .int .i64 a0_1, (.slice A0_2 l0_2.length c0_2)] 26 (0, 0))) ∧ Aside0 (wc.heap[gb378]? = some (.cells #[.int .i64 t373, .int .i64 t374, (.slice Ao30 t375.length co30)] 33 (0, 0))) ∧ Aside0 (Below w.heap.size w wc))
  case first => as_aux_lemma =>
    have H := HC42.out
    clear HC42
    by_cases c50 : t390 < 0
    · rw [if_pos c50] at H
      have c50b0 : decide (t390 < 0) = true := decide_eq_true c50
      clear c50
      (first | rw [c50b0] | (simp only [i64_w, i32_w]; rw [c50b0]) | skip)
      rw [HRT.out] at H
      exact absurd H (by generalize kj16 = q_; cases q_ <;> simp [laws_FnExactFirstKnobs.j1])
    rw [if_neg c50] at H
    have c50b0 : decide (t390 < 0) = false := decide_eq_false c50
    clear c50
    (first | rw [c50b0] | (simp only [i64_w, i32_w]; rw [c50b0]) | skip)
    replace H := Option.bind_eq_some_iff.mp H
    obtain ⟨t391, A510, H⟩ := H
    try dsimp only at H
    have A51 := Aside0.mk A510
    clear A510
    by_cases c52 : t391 = true
    rotate_left
    · replace c52 := Bool.eq_false_iff.mpr c52
      subst c52
      rw [if_neg (show ¬ (false = true) by decide)] at H
      rw [HRT.out] at H
      exact absurd H (by generalize kj16 = q_; cases q_ <;> simp [laws_FnExactFirstKnobs.j1])
    subst c52
    rw [if_pos rfl] at H
    have H' := Aside0.mk H
    clear H
    obtain ⟨Ao53, co53, eo53⟩ := Kd.R_slice HO_11.out
    subst eo53
    obtain ⟨Ao54, co54, eo54⟩ := Kd.R_slice HO_8.out
    subst eo54
    go_wp2_with (first | (go_at_call 10; (with_reducible refine (laws_eqTurnS.calls kj16 _ _ t379 _ _ t369 true _ ?side1 ?side2 ?side3 ?side4 A51.out).mono ?_); (case side1 => repeat (first | exact (Kd.R_reads' HO_11.out).2.2 | (with_reducible refine Kd.C_alloc ?_ _) | (with_reducible refine Kd.C_drewN ?_ _) | (with_reducible refine Kd.C_drew ?_))); (case side2 => exact (Kd.R_reads' HO_11.out).2.1); (case side3 => repeat (first | exact (Kd.R_reads' HO_8.out).2.2 | (with_reducible refine Kd.C_alloc ?_ _) | (with_reducible refine Kd.C_drewN ?_ _) | (with_reducible refine Kd.C_drew ?_))); (case side4 => exact (Kd.R_reads' HO_8.out).2.1); rintro e w55 ⟨rfl, hb⟩; have n0_ := Aside0.mk (Kd.R_below (by (with_reducible repeat (first | apply r_a | apply r_d | apply r_e)); exact HO_8.out) hb); have n1_ := Aside0.mk (Kd.R_below (by (with_reducible repeat (first | apply r_a | apply r_d | apply r_e)); exact HO_11.out) hb); have n2_ := Aside0.mk (Kd.S_below (by (with_reducible repeat (first | apply Kd.S_alloc | apply Kd.S_drewN | apply Kd.S_drew)); exact HO_379002.out) hb); have n3_ := Aside0.mk trivial; replace BK362 := bbx hb BK362; replace BK378 := bbx hb BK378; replace HB := bsx hb HB; clear HO_8; clear HO_11; clear HO_379002; clear HO388; have HO_8 := n0_; have HO_11 := n1_; have HO_379002 := n2_; have HO388 := n3_; clear n0_ n1_ n2_ n3_; (try clear hb); (try clear hb2); (try clear hk); (try clear hi)))
    go_meet
    case rel => refine ⟨_, ((t382 != t372)), (by first | rfl | (simp; done) | (simp [*]; done)), H', ⟨by have := HJ16.out; first | omega | exact Nat.le_refl _⟩, ⟨?_⟩, ⟨?_⟩, ⟨⟨_, by (with_reducible repeat (first | apply Kd.S_alloc | apply Kd.S_drewN | apply Kd.S_drew)); exact Kd.S_mono HO_379002.out (fun _ hk => trivial)⟩⟩, ⟨?_⟩, ⟨?_⟩, ⟨bB HB⟩⟩ <;> (with_reducible repeat (first | refine g_d ?_ _ | refine g_e ?_ | refine g_a ?_ _ | apply r_a | apply r_d | apply r_e)) <;> first | exact BK362.out | exact BK378.out | exact HO_8.out | exact HO_11.out
  clear HC42
  try clear c37
  try clear c40
  try clear hcz48_0
  try clear hcz48_1
  try clear hcz48_2
  try clear hfz48_0
  try clear hfz48_1
  try clear hfz48_2
  obtain ⟨kq, x75_41, rfl, HA, HJ41, HO_8, HO_11, HO_379002, BK362, BK378, HB⟩ := hcut
  obtain ⟨l_, hl_⟩ := HO_379002.out
  replace HO_379002 := Aside0.mk hl_
  clear hl_
  rcases kq with _ | kj41
  · exact absurd HA.out (by simp [laws_FnExactFirstKnobs.j1])
  have H := HA.out
  clear HA
  simp only [laws_FnExactFirstKnobs.j1] at H
  by_cases c56 : x75_41 = true
  · subst c56
    rw [if_pos rfl] at H
    rw [HRT.out] at H
    exact absurd H (by simp)
  replace c56 := Bool.eq_false_iff.mpr c56
  subst c56
  rw [if_neg (show ¬ (false = true) by decide)] at H
  replace H := Option.bind_eq_some_iff.mp H
  obtain ⟨⟨t392, t393⟩, A570, H⟩ := H
  try dsimp only at H
  have A57 := Aside0.mk A570
  clear A570
  replace H := Option.bind_eq_some_iff.mp H
  obtain ⟨t394, A580, H⟩ := H
  try dsimp only at H
  have A58 := Aside0.mk A580
  clear A580
  by_cases c59 : t394 < 0
  · rw [if_pos c59] at H
    have c59b0 : decide (t394 < 0) = true := decide_eq_true c59
    clear c59
    rw [HRT.out] at H
    exact absurd H (by simp)
  rw [if_neg c59] at H
  have c59b0 : decide (t394 < 0) = false := decide_eq_false c59
  clear c59
  by_cases c60 : t394 = t392
  rotate_left
  · rw [if_neg c60] at H
    have c60b0 : (t394 == t392) = false := beq_eq_false_iff_ne.mpr c60
    have c60b1 : (t394 != t392) = true := bne_iff_ne.mpr c60
    rw [HRT.out] at H
    exact absurd H (by simp)
  rw [if_pos c60] at H
  have c60b0 : (t394 == t392) = true := beq_iff_eq.mpr c60
  have c60b1 : (t394 != t392) = false := bne_eq_false_iff_eq.mpr c60
  clear c60
  replace H := Option.bind_eq_some_iff.mp H
  obtain ⟨⟨t395, t396, t397⟩, A610, H⟩ := H
  try dsimp only at H
  have A61 := Aside0.mk A610
  clear A610
  replace H := Option.bind_eq_some_iff.mp H
  obtain ⟨⟨t400, t403⟩, A620, H⟩ := H
  try dsimp only at H
  have A62 := Aside0.mk A620
  clear A620
  have HC63 := Aside0.mk H
  clear H
  obtain ⟨Ao64, co64, eo64⟩ := Kd.R_slice HO_11.out
  subst eo64
  go_upto_region 29 with (first | ((with_reducible refine gate_callee (f := 13) rfl ?_); refine goesL_ (some 78) rfl rfl Try.func13 (by kernel_rfl) rfl #[.slice Ao64 t379.length co64, .int .i64 1] rfl (by (try simp only [m_1, m_2, m_3]); first | done | rfl | (simp only [m_4, m_5]; rfl)) ?_; (with_reducible refine (laws_markTurnS.calls kj41 (fun k_ => some k_ = (.slice Ao64 t379.length co64 : Value).ownBlock) (.slice Ao64 t379.length co64) t379 1 t392 t393 w _ ?side1 ?side2 A57.out).mono ?_); (case side1 => exact bB HB); (case side2 => exact Kd.R_tight rfl HO_11.out); rintro e w65 ⟨rfl, hy0, hb, hkp⟩; refine ⟨_, rfl, ?_⟩; have n0_ := Aside0.mk (Kd.R_mono (ok' := fun k_ => some k_ ≠ (.slice Ao64 t379.length co64 : Value).ownBlock) (Kd.R_keptB (HO_8.out) hkp (fun k_ hk_ hs_ => (hk_) hs_)) (fun k_ hk_ => hk_.1)); have n1_ := Aside0.mk (Kd.R_reok rfl hy0 (fun k_ e_ => HO_11.out.1 k_ e_)); have n2_ := Aside0.mk (Kd.S_mono (ok' := fun k_ => True) (Kd.S_keptB ((Kd.S_apart' HO_379002.out (Kd.R_typed HO_11.out) (by decide))) hkp (fun k_ hk_ hs_ => (hk_.2) hs_)) (fun k_ hk_ => trivial)); have n3_ := Aside0.mk (blk_kept (bK BK362) hkp (fun hs_ => (fun e_ => (Kd.R_ne HO_11.out BK362.out (by decide)) e_) hs_)); have n4_ := Aside0.mk (blk_kept (bK BK378) hkp (fun hs_ => (fun e_ => (Kd.R_ne HO_11.out BK378.out (by decide)) e_) hs_)); have n5_ := Aside0.mk (hb); clear HO_8; clear HO_11; clear HO_379002; clear BK362; clear BK378; clear HB; have HO_8 := n0_; have HO_11 := n1_; have HO_379002 := n2_; have BK362 := n3_; have BK378 := n4_; have HB := n5_; clear n0_ n1_ n2_ n3_ n4_ n5_; (try clear hb); (try clear hkp); (try clear hy0)) | ((with_reducible refine gate_callee (f := 14) rfl ?_); refine goesL_ (some 81) rfl rfl Try.func14 (by kernel_rfl) rfl #[.slice Ao64 t393.length co64, .int .i64 1] rfl (by (try simp only [m_1, m_2, m_3]); first | done | (rw [show t393.length = t379.length from (Kd.R_reads' HO_11.out).1.symm] <;> rfl) | rfl | (simp only [m_4, m_5]; rfl)) ?_; (with_reducible refine (laws_heldTurnS.calls kj41 _ _ t393 1 t394 _ ?side1 ?side2 A58.out).mono ?_); (case side1 => repeat (first | exact (Kd.R_reads' HO_11.out).2.2 | (with_reducible refine Kd.C_alloc ?_ _) | (with_reducible refine Kd.C_drewN ?_ _) | (with_reducible refine Kd.C_drew ?_))); (case side2 => rw [show t393.length = t379.length from (Kd.R_reads' HO_11.out).1.symm]; exact (Kd.R_reads' HO_11.out).2.1); rintro e w' ⟨rfl, ⟨nd, rfl⟩⟩; refine ⟨_, rfl, ?_⟩; have hnb66 := eq_false NB362_378.out; have hnc66 := eq_false NB378_362.out; have hcz67_0 : w65.cell? ⟨gb362, 0, none⟩ = some (.int .i64 a0_0) := (blk_cell BK362.out 0).trans rfl; have hcz67_1 : w65.cell? ⟨gb362, 1, none⟩ = some (.int .i64 a0_1) := (blk_cell BK362.out 1).trans rfl; have hcz67_2 : w65.cell? ⟨gb362, 2, none⟩ = some (.slice A0_2 l0_2.length c0_2) := (blk_cell BK362.out 2).trans rfl; have hfz67_0 := blk_frozen BK362.out 0; have hfz67_1 := blk_frozen BK362.out 1; have hfz67_2 := blk_frozen BK362.out 2) | ((with_reducible refine gate_callee (f := 8) rfl ?_); refine goesL_ (some 89) rfl rfl Try.func8 (by kernel_rfl) rfl #[.agg #[.int .i64 a0_0, .int .i64 a0_1, .slice A0_2 l0_2.length c0_2]] rfl (by (try simp only [m_1, m_2, m_3]); first | done | rfl | (simp only [m_4, m_5]; rfl)) ?_; (with_reducible refine (laws_toGears.calls kj41 a0_0 a0_1 _ _ l0_2 t395 t396 t397 _ ?side1 ?side2 A61.out).mono ?_); (case side1 => repeat (first | exact (Kd.C_below HR0_2.out (bB HB)) | (with_reducible refine Kd.C_alloc ?_ _) | (with_reducible refine Kd.C_drewN ?_ _) | (with_reducible refine Kd.C_drew ?_))); (case side2 => exact HC0_2.out); rintro e w68 ⟨v398, rfl, ho0, hb⟩; refine ⟨_, rfl, ?_⟩; have n0_ := Aside0.mk (Kd.R_below (by (with_reducible repeat (first | apply r_a | apply r_d | apply r_e)); exact HO_8.out) hb); have n1_ := Aside0.mk (Kd.R_below (by (with_reducible repeat (first | apply r_a | apply r_d | apply r_e)); exact HO_11.out) hb); have n2_ := Aside0.mk (Kd.S_elder' (by (with_reducible repeat (first | apply Kd.S_alloc | apply Kd.S_drewN | apply Kd.S_drew)); exact HO_379002.out) (Kd.S_base ho0) hb); have n3_ := Aside0.mk (Kd.S_lower (Kd.S_new' ho0 (Kd.S_lt (by (with_reducible repeat (first | apply Kd.S_alloc | apply Kd.S_drewN | apply Kd.S_drew)); exact HO_379002.out))) (below_size (bB HB))); replace BK362 := bbx hb BK362; replace BK378 := bbx hb BK378; have n6_ := bsx hb HB; clear HO_8; clear HO_11; clear HO_379002; clear HB; have HO_8 := n0_; have HO_11 := n1_; have HO_379002 := n2_; have HO399 := n3_; have HB := n6_; clear n0_ n1_ n2_ n3_ n6_; (try clear hb); (try clear hb2); (try clear hk); (try clear hi); (try clear ho0); obtain ⟨Ao69, co69, eo69⟩ := Kd.S_slice HO399.out; subst eo69) | ((with_reducible refine gate_callee (f := 9) rfl ?_); refine goesL_ (some 92) rfl rfl Try.func9 (by kernel_rfl) rfl #[.agg #[.int .i64 t395, .int .i64 t396, .slice Ao69 t397.length co69], .string a1, .string a2] rfl (by (try simp only [m_1, m_2, m_3]); first | done | rfl | (simp only [m_4, m_5]; rfl)) ?_; (with_reducible refine (impl_FirstKnobs.calls kj41 t395 t396 _ _ t397 a1 a2 t400 t403 _ ?side1 ?side2 A62.out).mono ?_); (case side1 => repeat (first | exact (Kd.S_reads' HO399.out).2.2 | (with_reducible refine Kd.C_alloc ?_ _) | (with_reducible refine Kd.C_drewN ?_ _) | (with_reducible refine Kd.C_drew ?_))); (case side2 => exact (Kd.S_reads' HO399.out).2.1); rintro e w70 ⟨v401, rfl, ho0, hb⟩; refine ⟨_, rfl, ?_⟩; have n0_ := Aside0.mk (Kd.R_elder' (by (with_reducible repeat (first | apply r_a | apply r_d | apply r_e)); exact HO_8.out) (Kd.R_base ho0) hb); have n1_ := Aside0.mk (Kd.R_elder' (by (with_reducible repeat (first | apply r_a | apply r_d | apply r_e)); exact HO_11.out) (Kd.R_base ho0) hb); have n2_ := Aside0.mk (Kd.S_below (by (with_reducible repeat (first | apply Kd.S_alloc | apply Kd.S_drewN | apply Kd.S_drew)); exact HO_379002.out) hb); have n3_ := Aside0.mk (Kd.S_below (by (with_reducible repeat (first | apply Kd.S_alloc | apply Kd.S_drewN | apply Kd.S_drew)); exact HO399.out) hb); have n4_ := Aside0.mk (Kd.R_lower (Kd.R_new' (Kd.R_new' ho0 (Kd.R_lt (by (with_reducible repeat (first | apply r_a | apply r_d | apply r_e)); exact HO_8.out))) (Kd.R_lt (by (with_reducible repeat (first | apply r_a | apply r_d | apply r_e)); exact HO_11.out))) (below_size (bB HB))); replace BK362 := bbx hb BK362; replace BK378 := bbx hb BK378; have n7_ := bsx hb HB; clear HO_8; clear HO_11; clear HO_379002; clear HO399; clear HB; have HO_8 := n0_; have HO_11 := n1_; have HO_379002 := n2_; have HO399 := n3_; have HO402 := n4_; have HB := n7_; clear n0_ n1_ n2_ n3_ n4_ n7_; (try clear hb); (try clear hb2); (try clear hk); (try clear hi); (try clear ho0)))
  (try simp only [Act.put, s_1, s_2, s_3])
  go_cut [103] from 1 to 0 (fun v103 wc => ∃ (kq : Nat) (x103_62 : Bool), v103 = .bool x103_62 ∧ Aside0 (laws_FnExactFirstKnobs.j2 kq t393 t392 x103_62 = some r) ∧ Aside0 (kq ≤ kj41) ∧ Aside0 (Kd.R k48 48 wc w.heap.size (fun _ => True) (.slice Ao64 t379.length co64) t393) ∧ Aside0 (∃ l_, Kd.S (Kd.slice 3 (Kd.int .i64)) 40 wc w.heap.size (fun _ => True) (.slice Ao30 t375.length co30) l_) ∧ Aside0 (wc.heap[gb362]? = some (.cells #[.int .i64 a0_0, .int .i64 a0_1, (.slice A0_2 l0_2.length c0_2)] 26 (0, 0))) ∧ Aside0 (wc.heap[gb378]? = some (.cells #[.int .i64 t373, .int .i64 t374, (.slice Ao30 t375.length co30)] 33 (0, 0))) ∧ Aside0 (Below w.heap.size w wc))
  case first => as_aux_lemma =>
    have H := HC63.out
    clear HC63
    replace H := Option.bind_eq_some_iff.mp H
    obtain ⟨t404, A710, H⟩ := H
    try dsimp only at H
    have A71 := Aside0.mk A710
    clear A710
    by_cases c72 : t404 = true
    rotate_left
    · replace c72 := Bool.eq_false_iff.mpr c72
      subst c72
      rw [if_neg (show ¬ (false = true) by decide)] at H
      rw [HRT.out] at H
      exact absurd H (by generalize kj41 = q_; cases q_ <;> simp [laws_FnExactFirstKnobs.j2])
    subst c72
    rw [if_pos rfl] at H
    have H' := Aside0.mk H
    clear H
    obtain ⟨Ao73, co73, eo73⟩ := Kd.R_slice HO402.out
    subst eo73
    obtain ⟨Ao74, co74, eo74⟩ := Kd.R_slice HO_8.out
    subst eo74
    go_wp2_with (first | ((with_reducible refine gate_callee (f := 10) rfl ?_); refine goesL_ (some 97) rfl rfl Try.func10 (by kernel_rfl) rfl #[.slice Ao73 t400.length co73, .slice Ao74 t369.length co74] rfl (by (try simp only [m_1, m_2, m_3]); first | done | rfl | (simp only [m_4, m_5]; rfl)) ?_; (with_reducible refine (laws_eqTurnS.calls kj41 _ _ t400 _ _ t369 true _ ?side1 ?side2 ?side3 ?side4 A71.out).mono ?_); (case side1 => repeat (first | exact (Kd.R_reads' HO402.out).2.2 | (with_reducible refine Kd.C_alloc ?_ _) | (with_reducible refine Kd.C_drewN ?_ _) | (with_reducible refine Kd.C_drew ?_))); (case side2 => exact (Kd.R_reads' HO402.out).2.1); (case side3 => repeat (first | exact (Kd.R_reads' HO_8.out).2.2 | (with_reducible refine Kd.C_alloc ?_ _) | (with_reducible refine Kd.C_drewN ?_ _) | (with_reducible refine Kd.C_drew ?_))); (case side4 => exact (Kd.R_reads' HO_8.out).2.1); rintro e w75 ⟨rfl, hb⟩; refine ⟨_, rfl, ?_⟩; have n0_ := Aside0.mk (Kd.R_below (by (with_reducible repeat (first | apply r_a | apply r_d | apply r_e)); exact HO_8.out) hb); have n1_ := Aside0.mk (Kd.R_below (by (with_reducible repeat (first | apply r_a | apply r_d | apply r_e)); exact HO_11.out) hb); have n2_ := Aside0.mk (Kd.S_below (by (with_reducible repeat (first | apply Kd.S_alloc | apply Kd.S_drewN | apply Kd.S_drew)); exact HO_379002.out) hb); have n3_ := Aside0.mk (Kd.S_below (by (with_reducible repeat (first | apply Kd.S_alloc | apply Kd.S_drewN | apply Kd.S_drew)); exact HO399.out) hb); have n4_ := Aside0.mk (Kd.R_below (by (with_reducible repeat (first | apply r_a | apply r_d | apply r_e)); exact HO402.out) hb); replace BK362 := bbx hb BK362; replace BK378 := bbx hb BK378; replace HB := bsx hb HB; clear HO_8; clear HO_11; clear HO_379002; clear HO399; clear HO402; have HO_8 := n0_; have HO_11 := n1_; have HO_379002 := n2_; have HO399 := n3_; have HO402 := n4_; clear n0_ n1_ n2_ n3_ n4_; (try clear hb); (try clear hb2); (try clear hk); (try clear hi)))
    go_meet
    case rel => refine ⟨_, ((t403 != t372)), (by first | rfl | (simp; done) | (simp [*]; done)), H', ⟨by have := HJ16.out; have := HJ41.out; first | omega | exact Nat.le_refl _⟩, ⟨by (with_reducible repeat (first | apply r_a | apply r_d | apply r_e)); exact Kd.R_mono HO_11.out (fun _ hk => trivial)⟩, ⟨⟨_, by (with_reducible repeat (first | apply Kd.S_alloc | apply Kd.S_drewN | apply Kd.S_drew)); exact Kd.S_mono HO_379002.out (fun _ hk => trivial)⟩⟩, ⟨?_⟩, ⟨?_⟩, ⟨bB HB⟩⟩ <;> (with_reducible repeat (first | refine g_d ?_ _ | refine g_e ?_ | refine g_a ?_ _)) <;> first | exact BK362.out | exact BK378.out
  clear HC63
  try clear c56
  try clear c59
  try clear c59b0
  try clear c60
  try clear c60b0
  try clear c60b1
  try clear hcz67_0
  try clear hcz67_1
  try clear hcz67_2
  try clear hfz67_0
  try clear hfz67_1
  try clear hfz67_2
  obtain ⟨kq, x103_62, rfl, HA, HJ62, HO_11, HO_379002, BK362, BK378, HB⟩ := hcut
  obtain ⟨l_, hl_⟩ := HO_379002.out
  replace HO_379002 := Aside0.mk hl_
  clear hl_
  have hl11_62 := (Kd.R_reads' HO_11.out).1
  rw [hl11_62] at HO_11
  (try simp only [hl11_62])
  (try simp only [hl11_62] at BK362)
  (try simp only [hl11_62] at BK378)
  (try simp only [hl11_62] at HO_379002)
  rcases kq with _ | kj62
  · exact absurd HA.out (by simp [laws_FnExactFirstKnobs.j2])
  have H := HA.out
  clear HA
  simp only [laws_FnExactFirstKnobs.j2] at H
  by_cases c76 : x103_62 = true
  · subst c76
    rw [if_pos rfl] at H
    rw [HRT.out] at H
    exact absurd H (by simp)
  replace c76 := Bool.eq_false_iff.mpr c76
  subst c76
  rw [if_neg (show ¬ (false = true) by decide)] at H
  replace H := Option.bind_eq_some_iff.mp H
  obtain ⟨t405, A770, H⟩ := H
  try dsimp only at H
  have A77 := Aside0.mk A770
  clear A770
  by_cases c78 : t405 < 0
  · rw [if_pos c78] at H
    have c78b0 : decide (t405 < 0) = true := decide_eq_true c78
    clear c78
    rw [HRT.out] at H
    exact absurd H (by simp)
  rw [if_neg c78] at H
  have c78b0 : decide (t405 < 0) = false := decide_eq_false c78
  clear c78
  by_cases c79 : t405 = t392
  rotate_left
  · rw [if_neg c79] at H
    have c79b0 : (t405 == t392) = false := beq_eq_false_iff_ne.mpr c79
    have c79b1 : (t405 != t392) = true := bne_iff_ne.mpr c79
    rw [HRT.out] at H
    exact absurd H (by simp)
  rw [if_pos c79] at H
  have c79b0 : (t405 == t392) = true := beq_iff_eq.mpr c79
  have c79b1 : (t405 != t392) = false := bne_eq_false_iff_eq.mpr c79
  clear c79
  obtain rfl := Option.some.inj H
  go_wp2_with (first | ((with_reducible refine gate_callee (f := 14) rfl ?_); refine goesL_ (some 106) rfl rfl Try.func14 (by kernel_rfl) rfl #[.slice Ao64 t393.length co64, .int .i64 1] rfl (by (try simp only [m_1, m_2, m_3]); first | done | rfl | (simp only [m_4, m_5]; rfl)) ?_; (with_reducible refine (laws_heldTurnS.calls kj62 _ _ t393 1 t405 _ ?side1 ?side2 A77.out).mono ?_); (case side1 => repeat (first | exact (Kd.R_reads' HO_11.out).2.2 | (with_reducible refine Kd.C_alloc ?_ _) | (with_reducible refine Kd.C_drewN ?_ _) | (with_reducible refine Kd.C_drew ?_))); (case side2 => exact (Kd.R_reads' HO_11.out).2.1); rintro e w' ⟨rfl, ⟨nd, rfl⟩⟩; refine ⟨_, rfl, ?_⟩))
  go_ret
  exact ⟨by first | rfl | (simp [errW_none, errW_some] <;> rfl) | (simp [*, errW_none, errW_some] <;> rfl), bB HB⟩
end Go.Proofs.Ytiacdekbleebjaa.P
