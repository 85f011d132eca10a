-- Texts of this session's own program (wip/dr.py), which runs the kit's printer.
import Derived.Test.YtihhiolflbieaaaPx0
import Derived.Test.YtihhiolflbieaaaPx32
import Derived.Test.YtihhiolflbieaaaPx38
import Derived.Test.YtihhiolflbieaaaPx133
namespace Go.Proofs.Ytihhiolflbieaaa.P
open Go.RowKit Go.Proofs.YtihhiolflbieaaaW.PrintWords Go.Proofs.YtihhiolflbieaaaW.PrintLast Go.Proofs.YtihhiolflbieaaaW.PrintMore
attribute [local go_sem] max2_int min2_int max_two min_two max_three min_three max_four min_four   -- for this text's walks alone
set_option linter.unusedVariables false
set_option linter.unusedSimpArgs false

/-! ### impl_Lock_wholes: function 83 (a text of our own) -/
mutual
/-- The closure: the whole orders that begin with a way: the first one, how many, how many of them closed. -/
def impl_Lock_wholes.go : Nat → Int → Int → List ByteArray → List ByteArray → Int → Int → Option (List ByteArray × Int × Int)
  | 0, _, _, _, _, _, _ => none
  | k + 1, W, D, way, first, whole, closed => if 0 ≤ wrap64 ((way.length : Int) - 1) then (if wrap64 ((way.length : Int) - 1) < (way.length : Int) then ((impl_Lock_count.f k W D).bind fun n => if (way.length : Int) = n then (if way.length < 8796093022000 then ((impl_Lock_distance.f k W D (rdOf ByteArray.empty way 0) (rdOf ByteArray.empty way (wrap64 ((way.length : Int) - 1)))).bind fun d => some (if first.length = 0 then way else first, wrap64 (whole + 1), if d = 1 then wrap64 (closed + 1) else closed)) else none) else ((impl_Lock_next.f k W D (rdOf ByteArray.empty way (wrap64 ((way.length : Int) - 1)))).bind fun ns => impl_Lock_wholes.rep k W D way ns 0 first whole closed)) else none) else none
def impl_Lock_wholes.rep : Nat → Int → Int → List ByteArray → List ByteArray → Int → List ByteArray → Int → Int → Option (List ByteArray × Int × Int)
  | 0, _, _, _, _, _, _, _, _ => none
  | k + 1, W, D, way, ns, i, first, whole, closed => if i < (ns.length : Int) then (if 0 ≤ i then ((slices_Contains_string_string.f way (rdOf ByteArray.empty ns i)).bind fun t => if t = true then impl_Lock_wholes.rep k W D way ns (wrap64 (i + 1)) first whole closed else (if way.length < 8796093022000 then ((impl_Lock_wholes.go k W D (way ++ [rdOf ByteArray.empty ns i]) first whole closed).bind fun p => impl_Lock_wholes.rep k W D way ns (wrap64 (i + 1)) p.1 p.2.1 p.2.2) else none)) else none) else some (first, whole, closed)
end
def impl_Lock_wholes.f (k : Nat) (a0_0 : Int) (a0_1 : Int) : Option (List ByteArray × Int × Int) := (impl_Lock_code.f k a0_0 a0_1 0).bind fun c => impl_Lock_wholes.go k a0_0 a0_1 [c] [] 0 0
theorem impl_Lock_wholes.mono_l : ∀ k, (∀ W D way first whole closed, LeO (impl_Lock_wholes.go k W D way first whole closed) (impl_Lock_wholes.go (k + 1) W D way first whole closed)) ∧ (∀ W D way ns i first whole closed, LeO (impl_Lock_wholes.rep k W D way ns i first whole closed) (impl_Lock_wholes.rep (k + 1) W D way ns i first whole closed))
  | 0 => ⟨fun _ _ _ _ _ _ r h => by simp [impl_Lock_wholes.go] at h, fun _ _ _ _ _ _ _ _ r h => by simp [impl_Lock_wholes.rep] at h⟩
  | k + 1 => by
    obtain ⟨ih0, ih1⟩ := impl_Lock_wholes.mono_l k
    constructor
    · intro W D way first whole closed
      unfold impl_Lock_wholes.go
      repeat' first
      | (with_reducible exact ih1 _ _ _ _ _ _ _ _)
      | (with_reducible exact impl_Lock_count.mono _ _ _)
      | (with_reducible exact impl_Lock_distance.mono _ _ _ _ _)
      | (with_reducible exact impl_Lock_next.mono _ _ _ _)
      | (with_reducible exact LeO.refl _)
      | (with_reducible exact LeO.none _)
      | (with_reducible refine LeO.ite ?_ ?_)
      | (with_reducible refine LeO.bind ?_ (fun _ => ?_))
    · intro W D way ns i first whole closed
      unfold impl_Lock_wholes.rep
      repeat' first
      | (with_reducible exact ih0 _ _ _ _ _ _)
      | (with_reducible exact ih1 _ _ _ _ _ _ _ _)
      | (with_reducible exact LeO.refl _)
      | (with_reducible exact LeO.none _)
      | (with_reducible refine LeO.ite ?_ ?_)
      | (with_reducible refine LeO.bind ?_ (fun _ => ?_))
theorem impl_Lock_wholes.mono : ∀ a0 a1 k, LeO (impl_Lock_wholes.f k a0 a1) (impl_Lock_wholes.f (k + 1) a0 a1) := fun _ _ k => LeO.bind (impl_Lock_code.mono _ _ _ _) (fun _ => (impl_Lock_wholes.mono_l k).1 _ _ _ _ _ _)
/-- What lies in memory while the closure works: its variables' boxes, the way and the first order. -/
structure impl_Lock_wholes.St (gw gl gn gf gc gp : Nat) (W D : Int) (B : Nat) (w : World) (vw vf : Value) (way first : List ByteArray) (whole closed : Int) : Prop where
  bw : w.heap[gw]? = some (.cells #[vw] 24 (0, 0))
  bl : w.heap[gl]? = some (.cells #[.int .i64 W, .int .i64 D] 28 (0, 0))
  bn : w.heap[gn]? = some (.cells #[.int .i64 whole] 3 (0, 0))
  bf : w.heap[gf]? = some (.cells #[vf] 24 (0, 0))
  bc : w.heap[gc]? = some (.cells #[.int .i64 closed] 3 (0, 0))
  bp : w.heap[gp]? = some (.cells #[(.func (.func 133) #[] #[.pointer (some ⟨gw, 0, none⟩), .pointer (some ⟨gl, 0, none⟩), .pointer (some ⟨gn, 0, none⟩), .pointer (some ⟨gf, 0, none⟩), .pointer (some ⟨gc, 0, none⟩), .pointer (some ⟨gp, 0, none⟩)])] 1 (0, 0))
  rw_ : Kd.R Kd.string 9 w B (fun k_ => some k_ ≠ vf.ownBlock) vw way
  rf_ : Kd.R Kd.string 9 w B (fun k_ => some k_ ≠ vw.ownBlock) vf first
  nil_ : first.length = 0 → vf = .slice none 0 0
section
variable {gw gl gn gf gc gp : Nat} {W D : Int} {B : Nat} {w w1 : World} {vw vf v1 : Value} {way first way' first' : List ByteArray} {whole closed : Int}
theorem impl_Lock_wholes.St.below (h : impl_Lock_wholes.St gw gl gn gf gc gp W D B w vw vf way first whole closed) (hb : Below w.heap.size w w1) : impl_Lock_wholes.St gw gl gn gf gc gp W D B w1 vw vf way first whole closed := ⟨blk_below h.bw hb, blk_below h.bl hb, blk_below h.bn hb, blk_below h.bf hb, blk_below h.bc hb, blk_below h.bp hb, Kd.R_below h.rw_ hb, Kd.R_below h.rf_ hb, h.nil_⟩
theorem impl_Lock_wholes.St.cw (h : impl_Lock_wholes.St gw gl gn gf gc gp W D B w vw vf way first whole closed) : w.cell? ⟨gw, 0, none⟩ = some vw := (blk_cell h.bw 0).trans rfl
theorem impl_Lock_wholes.St.cl0 (h : impl_Lock_wholes.St gw gl gn gf gc gp W D B w vw vf way first whole closed) : w.cell? ⟨gl, 0, none⟩ = some (.int .i64 W) := (blk_cell h.bl 0).trans rfl
theorem impl_Lock_wholes.St.cl1 (h : impl_Lock_wholes.St gw gl gn gf gc gp W D B w vw vf way first whole closed) : w.cell? ⟨gl, 1, none⟩ = some (.int .i64 D) := (blk_cell h.bl 1).trans rfl
theorem impl_Lock_wholes.St.cn (h : impl_Lock_wholes.St gw gl gn gf gc gp W D B w vw vf way first whole closed) : w.cell? ⟨gn, 0, none⟩ = some (.int .i64 whole) := (blk_cell h.bn 0).trans rfl
theorem impl_Lock_wholes.St.cf (h : impl_Lock_wholes.St gw gl gn gf gc gp W D B w vw vf way first whole closed) : w.cell? ⟨gf, 0, none⟩ = some vf := (blk_cell h.bf 0).trans rfl
theorem impl_Lock_wholes.St.cc (h : impl_Lock_wholes.St gw gl gn gf gc gp W D B w vw vf way first whole closed) : w.cell? ⟨gc, 0, none⟩ = some (.int .i64 closed) := (blk_cell h.bc 0).trans rfl
theorem impl_Lock_wholes.St.cp (h : impl_Lock_wholes.St gw gl gn gf gc gp W D B w vw vf way first whole closed) : w.cell? ⟨gp, 0, none⟩ = some (.func (.func 133) #[] #[.pointer (some ⟨gw, 0, none⟩), .pointer (some ⟨gl, 0, none⟩), .pointer (some ⟨gn, 0, none⟩), .pointer (some ⟨gf, 0, none⟩), .pointer (some ⟨gc, 0, none⟩), .pointer (some ⟨gp, 0, none⟩)]) := (blk_cell h.bp 0).trans rfl
theorem impl_Lock_wholes.St.fw (h : impl_Lock_wholes.St gw gl gn gf gc gp W D B w vw vf way first whole closed) : w.frozen? ⟨gw, 0, none⟩ = false := blk_frozen h.bw 0
theorem impl_Lock_wholes.St.fn_ (h : impl_Lock_wholes.St gw gl gn gf gc gp W D B w vw vf way first whole closed) : w.frozen? ⟨gn, 0, none⟩ = false := blk_frozen h.bn 0
theorem impl_Lock_wholes.St.ff (h : impl_Lock_wholes.St gw gl gn gf gc gp W D B w vw vf way first whole closed) : w.frozen? ⟨gf, 0, none⟩ = false := blk_frozen h.bf 0
theorem impl_Lock_wholes.St.fc (h : impl_Lock_wholes.St gw gl gn gf gc gp W D B w vw vf way first whole closed) : w.frozen? ⟨gc, 0, none⟩ = false := blk_frozen h.bc 0
theorem impl_Lock_wholes.St.set_n (h : impl_Lock_wholes.St gw gl gn gf gc gp W D B w vw vf way first whole closed) (hd : gn ≠ gc) (x : Int) : impl_Lock_wholes.St gw gl gn gf gc gp W D B (w.setCell ⟨gn, 0, none⟩ (.int .i64 x)) vw vf way first x closed :=
  ⟨blk_far h.bw (p := ⟨gn, 0, none⟩) (blk_ne h.bw h.bn (by decide)) _, blk_far h.bl (p := ⟨gn, 0, none⟩) (blk_ne h.bl h.bn (by decide)) _, blk_put h.bn 0 _ rfl, blk_far h.bf (p := ⟨gn, 0, none⟩) (blk_ne h.bf h.bn (by decide)) _, blk_far h.bc (p := ⟨gn, 0, none⟩) (Ne.symm hd) _, blk_far h.bp (p := ⟨gn, 0, none⟩) (blk_ne h.bp h.bn (by decide)) _, Kd.R_set h.rw_ h.bn (by decide) 0 _, Kd.R_set h.rf_ h.bn (by decide) 0 _, h.nil_⟩
theorem impl_Lock_wholes.St.set_c (h : impl_Lock_wholes.St gw gl gn gf gc gp W D B w vw vf way first whole closed) (hd : gn ≠ gc) (x : Int) : impl_Lock_wholes.St gw gl gn gf gc gp W D B (w.setCell ⟨gc, 0, none⟩ (.int .i64 x)) vw vf way first whole x :=
  ⟨blk_far h.bw (p := ⟨gc, 0, none⟩) (blk_ne h.bw h.bc (by decide)) _, blk_far h.bl (p := ⟨gc, 0, none⟩) (blk_ne h.bl h.bc (by decide)) _, blk_far h.bn (p := ⟨gc, 0, none⟩) hd _, blk_far h.bf (p := ⟨gc, 0, none⟩) (blk_ne h.bf h.bc (by decide)) _, blk_put h.bc 0 _ rfl, blk_far h.bp (p := ⟨gc, 0, none⟩) (blk_ne h.bp h.bc (by decide)) _, Kd.R_set h.rw_ h.bc (by decide) 0 _, Kd.R_set h.rf_ h.bc (by decide) 0 _, h.nil_⟩
theorem impl_Lock_wholes.St.set_f (h : impl_Lock_wholes.St gw gl gn gf gc gp W D B w vw vf way first whole closed) (hd : gw ≠ gf) (hw : Kd.R Kd.string 9 w B (fun k_ => some k_ ≠ v1.ownBlock) vw way) (hf : Kd.R Kd.string 9 w B (fun k_ => some k_ ≠ vw.ownBlock) v1 first') (hn : first'.length = 0 → v1 = .slice none 0 0) : impl_Lock_wholes.St gw gl gn gf gc gp W D B (w.setCell ⟨gf, 0, none⟩ v1) vw v1 way first' whole closed :=
  ⟨blk_far h.bw (p := ⟨gf, 0, none⟩) hd _, blk_far h.bl (p := ⟨gf, 0, none⟩) (blk_ne h.bl h.bf (by decide)) _, blk_far h.bn (p := ⟨gf, 0, none⟩) (blk_ne h.bn h.bf (by decide)) _, blk_put h.bf 0 _ rfl, blk_far h.bc (p := ⟨gf, 0, none⟩) (blk_ne h.bc h.bf (by decide)) _, blk_far h.bp (p := ⟨gf, 0, none⟩) (blk_ne h.bp h.bf (by decide)) _, Kd.R_set hw h.bf (by decide) 0 _, Kd.R_set hf h.bf (by decide) 0 _, hn⟩
theorem impl_Lock_wholes.St.set_w (h : impl_Lock_wholes.St gw gl gn gf gc gp W D B w vw vf way first whole closed) (hd : gw ≠ gf) (ho : v1.ownBlock = vw.ownBlock) (hw : Kd.R Kd.string 9 w B (fun k_ => some k_ ≠ vf.ownBlock) v1 way') : impl_Lock_wholes.St gw gl gn gf gc gp W D B (w.setCell ⟨gw, 0, none⟩ v1) v1 vf way' first whole closed :=
  ⟨blk_put h.bw 0 _ rfl, blk_far h.bl (p := ⟨gw, 0, none⟩) (blk_ne h.bl h.bw (by decide)) _, blk_far h.bn (p := ⟨gw, 0, none⟩) (blk_ne h.bn h.bw (by decide)) _, blk_far h.bf (p := ⟨gw, 0, none⟩) (Ne.symm hd) _, blk_far h.bc (p := ⟨gw, 0, none⟩) (blk_ne h.bc h.bw (by decide)) _, blk_far h.bp (p := ⟨gw, 0, none⟩) (blk_ne h.bp h.bw (by decide)) _, Kd.R_set hw h.bw (by decide) 0 _, by rw [ho]; exact Kd.R_set h.rf_ h.bw (by decide) 0 _, h.nil_⟩
/-- An append to the way, stored. -/
theorem impl_Lock_wholes.St.push (h : impl_Lock_wholes.St gw gl gn gf gc gp W D B w vw vf way first whole closed) (hd : gw ≠ gf) (hg : w.grownBy w1 vw.ownBlock) (hat : v1.ownBlock = vw.ownBlock ∨ ∃ b, v1.ownBlock = some b ∧ w.heap.size ≤ b) (ho : Kd.R Kd.string 9 w1 B (fun k_ => some k_ ≠ vf.ownBlock) v1 way') : impl_Lock_wholes.St gw gl gn gf gc gp W D B (w1.setCell ⟨gw, 0, none⟩ v1) v1 vf way' first whole closed := by
  have bw := blk_grown h.bw hg (Kd.R_ne h.rw_ h.bw (by decide))
  exact ⟨blk_put bw 0 _ rfl, blk_far (blk_grown h.bl hg (Kd.R_ne h.rw_ h.bl (by decide))) (p := ⟨gw, 0, none⟩) (blk_ne h.bl h.bw (by decide)) _, blk_far (blk_grown h.bn hg (Kd.R_ne h.rw_ h.bn (by decide))) (p := ⟨gw, 0, none⟩) (blk_ne h.bn h.bw (by decide)) _, blk_far (blk_grown h.bf hg (Kd.R_ne h.rw_ h.bf (by decide))) (p := ⟨gw, 0, none⟩) (Ne.symm hd) _, blk_far (blk_grown h.bc hg (Kd.R_ne h.rw_ h.bc (by decide))) (p := ⟨gw, 0, none⟩) (blk_ne h.bc h.bw (by decide)) _, blk_far (blk_grown h.bp hg (Kd.R_ne h.rw_ h.bp (by decide))) (p := ⟨gw, 0, none⟩) (blk_ne h.bp h.bw (by decide)) _, Kd.R_set ho bw (by decide) 0 _,
    Kd.R_set (Kd.R_mono (Kd.R_after (ok := fun _ => True) (Kd.R_mono h.rf_ (fun _ q => ⟨trivial, q⟩)) hg hat) (fun _ q => q.2)) bw (by decide) 0 _, h.nil_⟩
end
/-- The blocks that a call may write: the boxes of the variables that it sets, and the way's own row. -/
def impl_Lock_wholes.Sx (gw gn gf gc : Nat) (ob : Option Nat) (k : Nat) : Prop := k = gw ∨ k = gn ∨ k = gf ∨ k = gc ∨ some k = ob
/-- A row of texts that is not the way's stays. -/
theorem impl_Lock_wholes.keepR {gw gl gn gf gc gp : Nat} {W D : Int} {B B' : Nat} {w w1 : World} {vw vf v : Value} {way first xs : List ByteArray} {whole closed : Int} (h : impl_Lock_wholes.St gw gl gn gf gc gp W D B w vw vf way first whole closed) (hr : Kd.R Kd.string 9 w B' (fun k_ => some k_ ≠ vw.ownBlock) v xs) (hk : Kept w w1 (impl_Lock_wholes.Sx gw gn gf gc vw.ownBlock)) {v1 : Value} (hat : v1.ownBlock = vw.ownBlock ∨ ∃ b, v1.ownBlock = some b ∧ w.heap.size ≤ b) : Kd.R Kd.string 9 w1 B' (fun k_ => some k_ ≠ v1.ownBlock) v xs := by
  refine Kd.R_mono (Kd.R_kept (Kd.R_bound hr) hk (fun k hk' hs => ?_)) (fun k hk' => ?_)
  · obtain ⟨h1, _, _, q, hq, cells, hc⟩ := hk'
    obtain rfl : q = 9 := by simpa [Kd.string, Kd.scalar] using hq
    have ne : ∀ {g : Nat} {cs : Array Value} {t : TypeId}, w.heap[g]? = some (.cells cs t (0, 0)) → t ≠ 9 → k ≠ g := by
      intro g cs t hg ht e
      subst e
      rw [hc] at hg
      injection hg with hg
      injection hg with _ hg
      exact ht hg.symm
    rcases hs with e | e | e | e | e
    · exact ne h.bw (by decide) e
    · exact ne h.bn (by decide) e
    · exact ne h.bf (by decide) e
    · exact ne h.bc (by decide) e
    · exact h1 e
  · rcases hat with e | ⟨b, e, hb⟩
    · rw [e]; exact hk'.1
    · rw [e]; intro q; have := hk'.2.2.1; injection q with q; omega
/-- A row of texts cut at its end. -/
theorem impl_Lock_wholes.cutR {w : World} {B : Nat} {ok : Nat → Prop} {A : Option Addr} {c n : Nat} {xs : List ByteArray} (h : Kd.R Kd.string 9 w B ok (.slice A xs.length c) xs) (hn : n ≤ xs.length) : Kd.R Kd.string 9 w B ok (.slice A n c) (xs.take n) := by
  have hok := h.1
  have own := Kd.own_of_R h
  refine Kd.R_of_own (enc := Value.string) ?_ (fun k hk => hok k (by revert hk; cases A <;> exact fun q => q))
  have hl : (xs.take n).length = n := by rw [List.length_take]; omega
  rw [hl]
  obtain ⟨h1, h2⟩ := own
  refine ⟨by simp [encs]; omega, ?_⟩
  rcases h2 with ⟨hu, h0⟩ | ⟨g, cap, cur, hu, hle, hb, hlen, hmax, hsz, htake⟩
  · injection hu with hA hl0 hc
    exact .inl ⟨by rw [hA, hc, show n = 0 by omega], by omega⟩
  · injection hu with hA hl0 hc
    refine .inr ⟨g, cap, cur, by rw [hA, hc], hle, hb, by omega, hmax, hsz, ?_⟩
    have := congrArg (List.take n) htake
    rw [List.take_take, Nat.min_eq_left (by omega)] at this
    rw [Nat.mul_one]
    rw [this]
    unfold encs
    rw [List.map_take]
theorem impl_Lock_wholes.keptS {gw gn gf gc : Nat} {w w1 w2 : World} {ob : Option Nat} {v : Value} (h : Kept w w1 (impl_Lock_wholes.Sx gw gn gf gc ob)) (hg : w1.grownBy w2 v.ownBlock) (hat : v.ownBlock = ob ∨ ∃ b, v.ownBlock = some b ∧ w.heap.size ≤ b) : Kept w w2 (impl_Lock_wholes.Sx gw gn gf gc ob) := by
  refine Kept.of_grown hg h (fun k hk => ?_)
  rcases hat with e | ⟨b, e, hb⟩
  · exact .inl (.inr (.inr (.inr (.inr (hk.symm.trans e)))))
  · right; rw [e] at hk; injection hk with hk; omega
theorem impl_Lock_wholes.keptK {gw gn gf gc : Nat} {w w1 w2 : World} {ob : Option Nat} {v : Value} (h : Kept w w1 (impl_Lock_wholes.Sx gw gn gf gc ob)) (k : Kept w1 w2 (impl_Lock_wholes.Sx gw gn gf gc v.ownBlock)) (hat : v.ownBlock = ob ∨ ∃ b, v.ownBlock = some b ∧ w.heap.size ≤ b) : Kept w w2 (impl_Lock_wholes.Sx gw gn gf gc ob) := by
  refine h.then_ k (fun k hk => ?_)
  rcases hk with e | e | e | e | e
  · exact .inl (.inl e)
  · exact .inl (.inr (.inl e))
  · exact .inl (.inr (.inr (.inl e)))
  · exact .inl (.inr (.inr (.inr (.inl e))))
  · rcases hat with q | ⟨b, q, hb⟩
    · exact .inl (.inr (.inr (.inr (.inr (e.trans q)))))
    · right; rw [q] at e; injection e with e; omega
theorem impl_Lock_wholes.atS {w w1 : World} {ob : Option Nat} {v v1 : Value} (h : v.ownBlock = ob ∨ ∃ b, v.ownBlock = some b ∧ w.heap.size ≤ b) (k : v1.ownBlock = v.ownBlock ∨ ∃ b, v1.ownBlock = some b ∧ w1.heap.size ≤ b) (hs : w.heap.size ≤ w1.heap.size) : v1.ownBlock = ob ∨ ∃ b, v1.ownBlock = some b ∧ w.heap.size ≤ b := by
  rcases k with e | ⟨b, e, hb⟩
  · rw [e]; exact h
  · exact .inr ⟨b, e, Nat.le_trans hs hb⟩
theorem impl_Lock_wholes.St.at0 {gw gl gn gf gc gp : Nat} {W D : Int} {B : Nat} {w : World} {ad0 : Addr} {cw : Nat} {vf : Value} {way first : List ByteArray} {whole closed : Int} (h : impl_Lock_wholes.St gw gl gn gf gc gp W D B w (.slice (some ad0) way.length cw) vf way first whole closed) (hp : 0 < way.length) : w.cell? ad0 = some (.string (rdOf ByteArray.empty way 0)) := by
  obtain ⟨ad, e, hx⟩ := Kd.at_string (Kd.R_reads' h.rw_).2.2 0 (by omega) (by omega)
  injection e with e
  subst e
  rw [show ((0 : Int)).toNat = 0 from rfl, Addr.add_zero'] at hx
  exact hx
set_option maxHeartbeats 16000000 in
set_option maxRecDepth 100000 in
theorem impl_Lock_wholes.go_calls (gw gl gn gf gc gp : Nat) (W D : Int) (w0 : World) (hdw : gw ≠ gf) (hdn : gn ≠ gc) (hgew : w0.heap.size ≤ gw) (hgen : w0.heap.size ≤ gn) (hgef : w0.heap.size ≤ gf) (hgec : w0.heap.size ≤ gc) : ∀ (k : Nat) (way first : List ByteArray) (whole closed : Int) (r : List ByteArray × Int × Int) (w : World) (vw vf : Value)
    (_hB : Below w0.heap.size w0 w) (_hS : impl_Lock_wholes.St gw gl gn gf gc gp W D w0.heap.size w vw vf way first whole closed) (_h : impl_Lock_wholes.go k W D way first whole closed = some r),
    Calls Try.prog 133 #[.pointer (some ⟨gw, 0, none⟩), .pointer (some ⟨gl, 0, none⟩), .pointer (some ⟨gn, 0, none⟩), .pointer (some ⟨gf, 0, none⟩), .pointer (some ⟨gc, 0, none⟩), .pointer (some ⟨gp, 0, none⟩)] w fun e w' => e = .returned (.tuple #[]) ∧ ∃ vw' vf' : Value, impl_Lock_wholes.St gw gl gn gf gc gp W D w0.heap.size w' vw' vf' way r.1 r.2.1 r.2.2 ∧ Below w0.heap.size w0 w' ∧ Kept w w' (impl_Lock_wholes.Sx gw gn gf gc vw.ownBlock) ∧ (vw'.ownBlock = vw.ownBlock ∨ ∃ b, vw'.ownBlock = some b ∧ w.heap.size ≤ b) := by
  intro k
  induction k using Nat.strongRecOn with
  | _ k ih =>
  intro way first whole closed r w vw vf hB hS h
  cases k with
  | zero => exact absurd h (by simp [impl_Lock_wholes.go])
  | succ k =>
  have hu28 := Try.underlying28
  have hnil := fun (w : World) (a : Option Addr) (n c : Nat) => Lib.run_eql_slice_nil (P := Try.prog) w 24 9 a n c 0 0 Try.underlying24
  simp only [impl_Lock_wholes.go] at h
  obtain ⟨ji, hji⟩ : ∃ j_ : Int, wrap64 ((way.length : Int) - 1) = j_ := ⟨_, rfl⟩
  simp only [hji] at h
  have hjiw : (IntKind.i64.wrap ((way.length : Int) - 1)) = ji := (i64_w _).trans hji
  clear hji
  by_cases c0 : 0 ≤ ji
  rotate_left
  · rw [if_neg c0] at h; exact absurd h (by simp)
  rw [if_pos c0] at h
  by_cases c1 : ji < (way.length : Int)
  rotate_left
  · rw [if_neg c1] at h; exact absurd h (by simp)
  rw [if_pos c1] at h
  obtain ⟨nn, hn, h⟩ := Option.bind_eq_some_iff.mp h
  have HN := Aside0.mk hn
  clear hn
  obtain ⟨Aw, cw, ew⟩ := Kd.R_slice hS.rw_
  subst ew
  obtain ⟨ad0, e0_, hx0⟩ := Kd.at_string (Kd.R_reads' hS.rw_).2.2 0 (by omega) (by omega)
  obtain ⟨adw, e_, hxl⟩ := Kd.at_string (Kd.R_reads' hS.rw_).2.2 ji c0 c1
  obtain rfl : ad0 = adw := by rw [e0_] at e_; injection e_
  clear e_
  subst e0_
  rw [show ((0 : Int)).toNat = 0 from rfl, Addr.add_zero'] at hx0
  obtain ⟨s0, hs0⟩ : ∃ s_ : ByteArray, s_ = rdOf ByteArray.empty way 0 := ⟨_, rfl⟩
  obtain ⟨sl, hsl⟩ : ∃ s_ : ByteArray, s_ = rdOf ByteArray.empty way ji := ⟨_, rfl⟩
  rw [← hs0] at hx0
  rw [← hsl] at hxl
  simp only [← hs0, ← hsl] at h
  have HS0 := Aside0.mk hs0
  clear hs0 hsl
  have HX0 := Aside0.mk hx0
  clear hx0
  have hp1 : (0 < way.length) = True := eq_true (by omega)
  replace c0 := eq_true c0
  replace c1 := eq_true c1
  have HB := Aside0.mk hB
  have HS := Aside0.mk hS
  have HK := Aside0.mk (Kept.refl w (impl_Lock_wholes.Sx gw gn gf gc (.slice (some ad0) way.length cw : Value).ownBlock))
  clear hB hS
  by_cases cn : (way.length : Int) = nn
  · rw [if_pos cn] at h
    have cnb : ((way.length : Int) == nn) = true := beq_iff_eq.mpr cn
    clear cn
    by_cases cm : way.length < 8796093022000
    rotate_left
    · rw [if_neg cm] at h; exact absurd h (by simp)
    rw [if_pos cm] at h
    have LM := Aside0.mk cm
    clear cm
    obtain ⟨d, hd, h⟩ := Option.bind_eq_some_iff.mp h
    have HD := Aside0.mk hd
    clear hd
    obtain rfl := Option.some.inj h
    clear h
    by_cases cd : d = 1
    · have cdb : (d == 1) = true := beq_iff_eq.mpr cd
      have ecd : (if d = 1 then wrap64 (closed + 1) else closed) = wrap64 (closed + 1) := if_pos cd
      simp only [ecd]
      clear ecd cd
      by_cases cf : first.length = 0
      · have ecf : (if first.length = 0 then way else first) = way := if_pos cf
        simp only [ecf]
        clear ecf
        have evf := HS.out.nil_ cf
        subst evf
        have hcw := HS.out.cw; have hcl0 := HS.out.cl0; have hcl1 := HS.out.cl1; have hcn := HS.out.cn; have hcf := HS.out.cf; have hcc := HS.out.cc; have hcp := HS.out.cp; have hfw := HS.out.fw; have hfn := HS.out.fn_; have hff := HS.out.ff; have hfc := HS.out.fc
        go_enter Try.func133, Try.ntmps133
        go_wp2
        refine start_ (n := 5) (S := fun w' => w'.cell? ⟨gw, 0, none⟩ = some (.slice (some ad0) way.length cw) ∧ w'.cell? ⟨gl, 0, none⟩ = some (.int .i64 W) ∧ w'.cell? ⟨gl, 1, none⟩ = some (.int .i64 D)) (ds := []) #[false, false, false, false, false] (by kernel_rfl) rfl rfl ⟨hcw, hcl0, hcl1⟩ (fun hHeld => ?_)
        clear hcw hcl0 hcl1 hcn hcf hcc hcp hfw hfn hff hfc
        have hb := below_drew1 (Below.refl w.heap.size w)
        replace HS := Aside0.mk (HS.out.below hb)
        replace HB := Aside0.mk (below_then HB.out HB.out.size hb)
        replace HK := Aside0.mk (HK.out.below hb)
        clear hb
        generalize w.drew = wd_w at HS HB HK hHeld ⊢
        refine take_ (i := 0) (N := some 15) (v := ?_) (a' := ?_) #[true, false, false, false, false] rfl rfl (by kernel_rfl) (fun _ _ _ h => h) (Or.inl ⟨by rfl, ?_⟩) hHeld ?_ ?_
        rotate_left
        · rintro w' ⟨s0, s1, s2⟩
          go_simp
          with_reducible rfl
        rotate_left
        · simp only [Act.put, List.setIfInBounds_toArray, List.set_cons_zero, List.set_cons_succ, i64_w, i32_w]
          rfl
        refine pure_ (i := 1) (N := some 16) (v := ?_) (a' := ?_) #[true, true, false, false, false] rfl rfl (by kernel_rfl) (fun _ _ _ h => h) (Or.inl ⟨by rfl, ?_⟩) ?_ ?_
        rotate_left
        · intro w'
          go_simp
          with_reducible rfl
        rotate_left
        · simp only [Act.put, List.setIfInBounds_toArray, List.set_cons_zero, List.set_cons_succ, i64_w, i32_w]
          rfl
        refine take_ (i := 2) (N := some 17) (v := ?_) (a' := ?_) #[true, true, true, false, false] rfl rfl (by kernel_rfl) (fun _ _ _ h => h) (Or.inl ⟨by rfl, ?_⟩) hHeld ?_ ?_
        rotate_left
        · rintro w' ⟨s0, s1, s2⟩
          go_simp
          with_reducible rfl
        rotate_left
        · simp only [Act.put, List.setIfInBounds_toArray, List.set_cons_zero, List.set_cons_succ, i64_w, i32_w]
          rfl
        refine one_ (i := 3) (N := some 18) #[true, true, true, true, false] rfl rfl (by kernel_rfl) (by decide) (fun K hK => ?_)
        refine goes_ Try.func107 (by kernel_rfl) rfl #[.agg #[.int .i64 W, .int .i64 D]] (by rfl) rfl rfl (by (try simp only [List.map_toArray, List.map_cons, List.map_nil]); first | done | rfl) ?_
        with_reducible refine (impl_Lock_count.calls k W D nn _ HN.out).mono ?_
        rintro e w3 ⟨rfl, hb⟩
        refine ⟨_, rfl, ?_⟩
        replace HS := Aside0.mk (HS.out.below hb)
        replace HB := Aside0.mk (below_then HB.out HB.out.size hb)
        replace HK := Aside0.mk (HK.out.below hb)
        clear hb
        refine hK.out _ _ ⟨HS.out.cw, HS.out.cl0, HS.out.cl1⟩ (fun hHeld => ?_)
        clear hK K
        refine norm_ (a' := ?_) ?_ ?_
        rotate_left
        · show Act.put _ (some 18) _ = _
          simp only [Act.put, List.setIfInBounds_toArray, List.set_cons_zero, List.set_cons_succ, i64_w, i32_w]
          rfl
        refine pure_ (i := 4) (N := some 19) (v := ?_) (a' := ?_) #[true, true, true, true, true] rfl rfl (by kernel_rfl) (fun _ _ _ h => h) (Or.inl ⟨by rfl, ?_⟩) ?_ ?_
        rotate_left
        · intro w'
          go_simp
          with_reducible rfl
        rotate_left
        · simp only [Act.put, List.setIfInBounds_toArray, List.set_cons_zero, List.set_cons_succ, i64_w, i32_w]
          rfl
        refine done_ (by kernel_rfl) ?_
        clear hxl hjiw
        have hcw := HS.out.cw; have hcl0 := HS.out.cl0; have hcl1 := HS.out.cl1; have hcn := HS.out.cn; have hcf := HS.out.cf; have hcc := HS.out.cc; have hcp := HS.out.cp; have hfw := HS.out.fw; have hfn := HS.out.fn_; have hff := HS.out.ff; have hfc := HS.out.fc
        have HCL : Aside0 (slices_Clone_string_string.f way = some way) := ⟨by unfold slices_Clone_string_string.f; rw [if_pos (of_eq_true hp1), if_pos (by have := LM.out; omega)]⟩
        go_wp2_with (first | ((with_reducible refine gate_store (p := 2) rfl ?_); refine store_event (w1 := w3.setCell ⟨gn, 0, none⟩ (.int .i64 (wrap64 (whole + 1)))) rfl rfl rfl ?hr ?_; (case hr => first | (go_simp; done) | (go_simp; rfl)); intro w4 hw_; clear hcw hcl0 hcl1 hcn hcf hcc hcp hfw hfn hff hfc; have hs_ := HS.out.set_n hdn (wrap64 (whole + 1)); have hb_ := HB.out.setCell (p := ⟨gn, 0, none⟩) hgen (.int .i64 (wrap64 (whole + 1))); have hk_ := HK.out.setCell (p := ⟨gn, 0, none⟩) (.inl (Or.inr (Or.inl rfl))) (.int .i64 (wrap64 (whole + 1))); rw [← hw_] at hs_ hb_ hk_; replace HX0 := Aside0.mk ((impl_Lock_wholes.St.at0 hs_ (of_eq_true hp1)).trans (congrArg (fun x_ => some (Value.string x_)) HS0.out.symm)); replace HS := Aside0.mk hs_; replace HB := Aside0.mk hb_; replace HK := Aside0.mk hk_; clear hs_ hb_ hk_ hw_; have hcw := HS.out.cw; have hcl0 := HS.out.cl0; have hcl1 := HS.out.cl1; have hcn := HS.out.cn; have hcf := HS.out.cf; have hcc := HS.out.cc; have hcp := HS.out.cp; have hfw := HS.out.fw; have hfn := HS.out.fn_; have hff := HS.out.ff; have hfc := HS.out.fc) | ((with_reducible refine gate_callee (f := 134) rfl ?_); refine goesL_ (some 25) rfl rfl Try.func134 (by kernel_rfl) rfl #[.slice (some ad0) way.length cw] rfl (by (try simp only [List.map_toArray, List.map_cons, List.map_nil]); first | done | rfl) ?_; (with_reducible refine (slices_Clone_string_string.calls (some ad0) cw way way _ (Kd.R_reads' HS.out.rw_).2.2 (Kd.R_reads' HS.out.rw_).2.1 HCL.out).mono ?_); rintro e w5 ⟨v25, rfl, ho, hb⟩; obtain ⟨A25, c25, e25⟩ := Kd.R_slice ho; subst e25; refine ⟨_, rfl, ?_⟩; clear hcw hcl0 hcl1 hcn hcf hcc hcp hfw hfn hff hfc; have HF1 := Aside0.mk (Kd.R_mono (Kd.R_lower (Kd.R_new' ho (Kd.R_lt HS.out.rw_)) HB.out.size) (fun _ q => q.2)); have HW1 := Aside0.mk (Kd.R_mono (Kd.R_elder' HS.out.rw_ (Kd.R_base ho) hb) (fun _ q => q.2)); replace HS := Aside0.mk (HS.out.below hb); replace HB := Aside0.mk (below_then HB.out HB.out.size hb); replace HK := Aside0.mk (HK.out.below hb); clear ho hb; have hcw := HS.out.cw; have hcl0 := HS.out.cl0; have hcl1 := HS.out.cl1; have hcn := HS.out.cn; have hcf := HS.out.cf; have hcc := HS.out.cc; have hcp := HS.out.cp; have hfw := HS.out.fw; have hfn := HS.out.fn_; have hff := HS.out.ff; have hfc := HS.out.fc) | ((with_reducible refine gate_store (p := 3) rfl ?_); refine store_event (w1 := w5.setCell ⟨gf, 0, none⟩ (.slice A25 way.length c25)) rfl rfl rfl ?hr ?_; (case hr => first | (go_simp; done) | (go_simp; rfl)); intro w6 hw_; clear hcw hcl0 hcl1 hcn hcf hcc hcp hfw hfn hff hfc; have hs_ := HS.out.set_f hdw HW1.out HF1.out (fun q => absurd q (Nat.ne_of_gt (of_eq_true hp1))); have hb_ := HB.out.setCell (p := ⟨gf, 0, none⟩) hgef (.slice A25 way.length c25); have hk_ := HK.out.setCell (p := ⟨gf, 0, none⟩) (.inl (Or.inr (Or.inr (Or.inl rfl)))) (.slice A25 way.length c25); rw [← hw_] at hs_ hb_ hk_; clear HF1 HW1; replace HX0 := Aside0.mk ((impl_Lock_wholes.St.at0 hs_ (of_eq_true hp1)).trans (congrArg (fun x_ => some (Value.string x_)) HS0.out.symm)); replace HS := Aside0.mk hs_; replace HB := Aside0.mk hb_; replace HK := Aside0.mk hk_; clear hs_ hb_ hk_ hw_; have hcw := HS.out.cw; have hcl0 := HS.out.cl0; have hcl1 := HS.out.cl1; have hcn := HS.out.cn; have hcf := HS.out.cf; have hcc := HS.out.cc; have hcp := HS.out.cp; have hfw := HS.out.fw; have hfn := HS.out.fn_; have hff := HS.out.ff; have hfc := HS.out.fc))
        refine start_ (n := 7) (S := fun w' => w'.cell? ⟨gw, 0, none⟩ = some (.slice (some ad0) way.length cw) ∧ w'.cell? ⟨gl, 0, none⟩ = some (.int .i64 W) ∧ w'.cell? ⟨gl, 1, none⟩ = some (.int .i64 D) ∧ w'.cell? ad0 = some (.string s0)) (ds := []) #[false, false, false, false, false, false, false] (by kernel_rfl) rfl rfl ⟨hcw, hcl0, hcl1, HX0.out⟩ (fun hHeld => ?_)
        clear hcw hcl0 hcl1 hcn hcf hcc hcp hfw hfn hff hfc
        have hb := below_drew1 (Below.refl w6.heap.size w6)
        replace HS := Aside0.mk (HS.out.below hb)
        replace HB := Aside0.mk (below_then HB.out HB.out.size hb)
        replace HK := Aside0.mk (HK.out.below hb)
        replace HX0 := Aside0.mk ((hb.cell (World.block_lt_of_cell? _ _ HX0.out)).trans HX0.out)
        clear hb
        generalize w6.drew = wd_w6 at HS HB HK HX0 hHeld ⊢
        refine pure_ (i := 4) (N := some 30) (v := ?_) (a' := ?_) #[false, false, false, false, true, false, false] rfl rfl (by kernel_rfl) (fun _ _ _ h => h) (Or.inl ⟨by rfl, ?_⟩) ?_ ?_
        rotate_left
        · intro w'
          go_simp
          with_reducible rfl
        rotate_left
        · simp only [Act.put, List.setIfInBounds_toArray, List.set_cons_zero, List.set_cons_succ, i64_w, i32_w]
          rfl
        refine take_ (i := 0) (N := some 26) (v := ?_) (a' := ?_) #[true, false, false, false, true, false, false] rfl rfl (by kernel_rfl) (fun _ _ _ h => h) (Or.inl ⟨by rfl, ?_⟩) hHeld ?_ ?_
        rotate_left
        · rintro w' ⟨s0, s1, s2, s3⟩
          go_simp
          with_reducible rfl
        rotate_left
        · simp only [Act.put, List.setIfInBounds_toArray, List.set_cons_zero, List.set_cons_succ, i64_w, i32_w]
          rfl
        refine take_ (i := 1) (N := some 27) (v := ?_) (a' := ?_) #[true, true, false, false, true, false, false] rfl rfl (by kernel_rfl) (fun _ _ _ h => h) (Or.inl ⟨by rfl, ?_⟩) hHeld ?_ ?_
        rotate_left
        · rintro w' ⟨s0, s1, s2, s3⟩
          go_simp
          with_reducible rfl
        rotate_left
        · simp only [Act.put, List.setIfInBounds_toArray, List.set_cons_zero, List.set_cons_succ, i64_w, i32_w]
          rfl
        refine pure_ (i := 2) (N := some 28) (v := ?_) (a' := ?_) #[true, true, true, false, true, false, false] rfl rfl (by kernel_rfl) (fun _ _ _ h => h) (Or.inl ⟨by rfl, ?_⟩) ?_ ?_
        rotate_left
        · intro w'
          go_simp
          with_reducible rfl
        rotate_left
        · simp only [Act.put, List.setIfInBounds_toArray, List.set_cons_zero, List.set_cons_succ, i64_w, i32_w]
          rfl
        refine take_ (i := 3) (N := some 29) (v := ?_) (a' := ?_) #[true, true, true, true, true, false, false] rfl rfl (by kernel_rfl) (fun _ _ _ h => h) (Or.inl ⟨by rfl, ?_⟩) hHeld ?_ ?_
        rotate_left
        · rintro w' ⟨s0, s1, s2, s3⟩
          go_simp
          with_reducible rfl
        rotate_left
        · simp only [Act.put, List.setIfInBounds_toArray, List.set_cons_zero, List.set_cons_succ, i64_w, i32_w]
          rfl
        refine one_ (i := 5) (N := some 31) #[true, true, true, true, true, true, false] rfl rfl (by kernel_rfl) (by decide) (fun K hK => ?_)
        refine goes_ Try.func111 (by kernel_rfl) rfl #[.agg #[.int .i64 W, .int .i64 D], .string s0, .string sl] (by rfl) rfl rfl (by (try simp only [List.map_toArray, List.map_cons, List.map_nil]); first | done | rfl) ?_
        with_reducible refine (impl_Lock_distance.calls k W D s0 sl d _ HD.out).mono ?_
        rintro e w7 ⟨rfl, hb⟩
        refine ⟨_, rfl, ?_⟩
        replace HX0 := Aside0.mk ((hb.cell (World.block_lt_of_cell? _ _ HX0.out)).trans HX0.out)
        replace HS := Aside0.mk (HS.out.below hb)
        replace HB := Aside0.mk (below_then HB.out HB.out.size hb)
        replace HK := Aside0.mk (HK.out.below hb)
        clear hb
        refine hK.out _ _ ⟨HS.out.cw, HS.out.cl0, HS.out.cl1, HX0.out⟩ (fun hHeld => ?_)
        clear hK K
        refine norm_ (a' := ?_) ?_ ?_
        rotate_left
        · show Act.put _ (some 31) _ = _
          simp only [Act.put, List.setIfInBounds_toArray, List.set_cons_zero, List.set_cons_succ, i64_w, i32_w]
          rfl
        refine pure_ (i := 6) (N := some 32) (v := ?_) (a' := ?_) #[true, true, true, true, true, true, true] rfl rfl (by kernel_rfl) (fun _ _ _ h => h) (Or.inl ⟨by rfl, ?_⟩) ?_ ?_
        rotate_left
        · intro w'
          go_simp
          with_reducible rfl
        rotate_left
        · simp only [Act.put, List.setIfInBounds_toArray, List.set_cons_zero, List.set_cons_succ, i64_w, i32_w]
          rfl
        refine done_ (by kernel_rfl) ?_
        have hcw := HS.out.cw; have hcl0 := HS.out.cl0; have hcl1 := HS.out.cl1; have hcn := HS.out.cn; have hcf := HS.out.cf; have hcc := HS.out.cc; have hcp := HS.out.cp; have hfw := HS.out.fw; have hfn := HS.out.fn_; have hff := HS.out.ff; have hfc := HS.out.fc
        go_wp2_with (first | ((with_reducible refine gate_store (p := 4) rfl ?_); refine store_event (w1 := w7.setCell ⟨gc, 0, none⟩ (.int .i64 (wrap64 (closed + 1)))) rfl rfl rfl ?hr ?_; (case hr => first | (go_simp; done) | (go_simp; rfl)); intro w8 hw_; clear hcw hcl0 hcl1 hcn hcf hcc hcp hfw hfn hff hfc; have hs_ := HS.out.set_c hdn (wrap64 (closed + 1)); have hb_ := HB.out.setCell (p := ⟨gc, 0, none⟩) hgec (.int .i64 (wrap64 (closed + 1))); have hk_ := HK.out.setCell (p := ⟨gc, 0, none⟩) (.inl (Or.inr (Or.inr (Or.inr (Or.inl rfl))))) (.int .i64 (wrap64 (closed + 1))); rw [← hw_] at hs_ hb_ hk_; replace HS := Aside0.mk hs_; replace HB := Aside0.mk hb_; replace HK := Aside0.mk hk_; clear hs_ hb_ hk_ hw_; have hcw := HS.out.cw; have hcl0 := HS.out.cl0; have hcl1 := HS.out.cl1; have hcn := HS.out.cn; have hcf := HS.out.cf; have hcc := HS.out.cc; have hcp := HS.out.cp; have hfw := HS.out.fw; have hfn := HS.out.fn_; have hff := HS.out.ff; have hfc := HS.out.fc))
        (try simp only [Exit.inBlock, Exit.then]); (first | refine bodyPost_ret (results_none rfl _ _ _) rfl ?_ | refine bodyPost_end (results_none rfl _ _ _) rfl ?_)
        first | exact ⟨rfl, _, _, HS.out, HB.out, HK.out, Or.inl rfl⟩ | exact ⟨rfl, _, ⟨_, HS.out⟩, HB.out, HK.out, Or.inl rfl⟩
      · have ecf : (if first.length = 0 then way else first) = first := if_neg cf
        simp only [ecf]
        clear ecf
        obtain ⟨Af, cf_, evf⟩ := Kd.R_slice HS.out.rf_
        subst evf
        obtain ⟨adf, eaf, _⟩ := Kd.at_string (Kd.R_reads' HS.out.rf_).2.2 0 (by omega) (by omega)
        subst eaf
        have hcw := HS.out.cw; have hcl0 := HS.out.cl0; have hcl1 := HS.out.cl1; have hcn := HS.out.cn; have hcf := HS.out.cf; have hcc := HS.out.cc; have hcp := HS.out.cp; have hfw := HS.out.fw; have hfn := HS.out.fn_; have hff := HS.out.ff; have hfc := HS.out.fc
        go_enter Try.func133, Try.ntmps133
        go_wp2
        refine start_ (n := 5) (S := fun w' => w'.cell? ⟨gw, 0, none⟩ = some (.slice (some ad0) way.length cw) ∧ w'.cell? ⟨gl, 0, none⟩ = some (.int .i64 W) ∧ w'.cell? ⟨gl, 1, none⟩ = some (.int .i64 D)) (ds := []) #[false, false, false, false, false] (by kernel_rfl) rfl rfl ⟨hcw, hcl0, hcl1⟩ (fun hHeld => ?_)
        clear hcw hcl0 hcl1 hcn hcf hcc hcp hfw hfn hff hfc
        have hb := below_drew1 (Below.refl w.heap.size w)
        replace HS := Aside0.mk (HS.out.below hb)
        replace HB := Aside0.mk (below_then HB.out HB.out.size hb)
        replace HK := Aside0.mk (HK.out.below hb)
        clear hb
        generalize w.drew = wd_w at HS HB HK hHeld ⊢
        refine take_ (i := 0) (N := some 15) (v := ?_) (a' := ?_) #[true, false, false, false, false] rfl rfl (by kernel_rfl) (fun _ _ _ h => h) (Or.inl ⟨by rfl, ?_⟩) hHeld ?_ ?_
        rotate_left
        · rintro w' ⟨s0, s1, s2⟩
          go_simp
          with_reducible rfl
        rotate_left
        · simp only [Act.put, List.setIfInBounds_toArray, List.set_cons_zero, List.set_cons_succ, i64_w, i32_w]
          rfl
        refine pure_ (i := 1) (N := some 16) (v := ?_) (a' := ?_) #[true, true, false, false, false] rfl rfl (by kernel_rfl) (fun _ _ _ h => h) (Or.inl ⟨by rfl, ?_⟩) ?_ ?_
        rotate_left
        · intro w'
          go_simp
          with_reducible rfl
        rotate_left
        · simp only [Act.put, List.setIfInBounds_toArray, List.set_cons_zero, List.set_cons_succ, i64_w, i32_w]
          rfl
        refine take_ (i := 2) (N := some 17) (v := ?_) (a' := ?_) #[true, true, true, false, false] rfl rfl (by kernel_rfl) (fun _ _ _ h => h) (Or.inl ⟨by rfl, ?_⟩) hHeld ?_ ?_
        rotate_left
        · rintro w' ⟨s0, s1, s2⟩
          go_simp
          with_reducible rfl
        rotate_left
        · simp only [Act.put, List.setIfInBounds_toArray, List.set_cons_zero, List.set_cons_succ, i64_w, i32_w]
          rfl
        refine one_ (i := 3) (N := some 18) #[true, true, true, true, false] rfl rfl (by kernel_rfl) (by decide) (fun K hK => ?_)
        refine goes_ Try.func107 (by kernel_rfl) rfl #[.agg #[.int .i64 W, .int .i64 D]] (by rfl) rfl rfl (by (try simp only [List.map_toArray, List.map_cons, List.map_nil]); first | done | rfl) ?_
        with_reducible refine (impl_Lock_count.calls k W D nn _ HN.out).mono ?_
        rintro e w3 ⟨rfl, hb⟩
        refine ⟨_, rfl, ?_⟩
        replace HS := Aside0.mk (HS.out.below hb)
        replace HB := Aside0.mk (below_then HB.out HB.out.size hb)
        replace HK := Aside0.mk (HK.out.below hb)
        clear hb
        refine hK.out _ _ ⟨HS.out.cw, HS.out.cl0, HS.out.cl1⟩ (fun hHeld => ?_)
        clear hK K
        refine norm_ (a' := ?_) ?_ ?_
        rotate_left
        · show Act.put _ (some 18) _ = _
          simp only [Act.put, List.setIfInBounds_toArray, List.set_cons_zero, List.set_cons_succ, i64_w, i32_w]
          rfl
        refine pure_ (i := 4) (N := some 19) (v := ?_) (a' := ?_) #[true, true, true, true, true] rfl rfl (by kernel_rfl) (fun _ _ _ h => h) (Or.inl ⟨by rfl, ?_⟩) ?_ ?_
        rotate_left
        · intro w'
          go_simp
          with_reducible rfl
        rotate_left
        · simp only [Act.put, List.setIfInBounds_toArray, List.set_cons_zero, List.set_cons_succ, i64_w, i32_w]
          rfl
        refine done_ (by kernel_rfl) ?_
        clear hxl hjiw
        have hcw := HS.out.cw; have hcl0 := HS.out.cl0; have hcl1 := HS.out.cl1; have hcn := HS.out.cn; have hcf := HS.out.cf; have hcc := HS.out.cc; have hcp := HS.out.cp; have hfw := HS.out.fw; have hfn := HS.out.fn_; have hff := HS.out.ff; have hfc := HS.out.fc
        go_wp2_with (first | ((with_reducible refine gate_store (p := 2) rfl ?_); refine store_event (w1 := w3.setCell ⟨gn, 0, none⟩ (.int .i64 (wrap64 (whole + 1)))) rfl rfl rfl ?hr ?_; (case hr => first | (go_simp; done) | (go_simp; rfl)); intro w4 hw_; clear hcw hcl0 hcl1 hcn hcf hcc hcp hfw hfn hff hfc; have hs_ := HS.out.set_n hdn (wrap64 (whole + 1)); have hb_ := HB.out.setCell (p := ⟨gn, 0, none⟩) hgen (.int .i64 (wrap64 (whole + 1))); have hk_ := HK.out.setCell (p := ⟨gn, 0, none⟩) (.inl (Or.inr (Or.inl rfl))) (.int .i64 (wrap64 (whole + 1))); rw [← hw_] at hs_ hb_ hk_; replace HX0 := Aside0.mk ((impl_Lock_wholes.St.at0 hs_ (of_eq_true hp1)).trans (congrArg (fun x_ => some (Value.string x_)) HS0.out.symm)); replace HS := Aside0.mk hs_; replace HB := Aside0.mk hb_; replace HK := Aside0.mk hk_; clear hs_ hb_ hk_ hw_; have hcw := HS.out.cw; have hcl0 := HS.out.cl0; have hcl1 := HS.out.cl1; have hcn := HS.out.cn; have hcf := HS.out.cf; have hcc := HS.out.cc; have hcp := HS.out.cp; have hfw := HS.out.fw; have hfn := HS.out.fn_; have hff := HS.out.ff; have hfc := HS.out.fc))
        refine start_ (n := 7) (S := fun w' => w'.cell? ⟨gw, 0, none⟩ = some (.slice (some ad0) way.length cw) ∧ w'.cell? ⟨gl, 0, none⟩ = some (.int .i64 W) ∧ w'.cell? ⟨gl, 1, none⟩ = some (.int .i64 D) ∧ w'.cell? ad0 = some (.string s0)) (ds := []) #[false, false, false, false, false, false, false] (by kernel_rfl) rfl rfl ⟨hcw, hcl0, hcl1, HX0.out⟩ (fun hHeld => ?_)
        clear hcw hcl0 hcl1 hcn hcf hcc hcp hfw hfn hff hfc
        have hb := below_drew1 (Below.refl w4.heap.size w4)
        replace HS := Aside0.mk (HS.out.below hb)
        replace HB := Aside0.mk (below_then HB.out HB.out.size hb)
        replace HK := Aside0.mk (HK.out.below hb)
        replace HX0 := Aside0.mk ((hb.cell (World.block_lt_of_cell? _ _ HX0.out)).trans HX0.out)
        clear hb
        generalize w4.drew = wd_w4 at HS HB HK HX0 hHeld ⊢
        refine pure_ (i := 4) (N := some 30) (v := ?_) (a' := ?_) #[false, false, false, false, true, false, false] rfl rfl (by kernel_rfl) (fun _ _ _ h => h) (Or.inl ⟨by rfl, ?_⟩) ?_ ?_
        rotate_left
        · intro w'
          go_simp
          with_reducible rfl
        rotate_left
        · simp only [Act.put, List.setIfInBounds_toArray, List.set_cons_zero, List.set_cons_succ, i64_w, i32_w]
          rfl
        refine take_ (i := 0) (N := some 26) (v := ?_) (a' := ?_) #[true, false, false, false, true, false, false] rfl rfl (by kernel_rfl) (fun _ _ _ h => h) (Or.inl ⟨by rfl, ?_⟩) hHeld ?_ ?_
        rotate_left
        · rintro w' ⟨s0, s1, s2, s3⟩
          go_simp
          with_reducible rfl
        rotate_left
        · simp only [Act.put, List.setIfInBounds_toArray, List.set_cons_zero, List.set_cons_succ, i64_w, i32_w]
          rfl
        refine take_ (i := 1) (N := some 27) (v := ?_) (a' := ?_) #[true, true, false, false, true, false, false] rfl rfl (by kernel_rfl) (fun _ _ _ h => h) (Or.inl ⟨by rfl, ?_⟩) hHeld ?_ ?_
        rotate_left
        · rintro w' ⟨s0, s1, s2, s3⟩
          go_simp
          with_reducible rfl
        rotate_left
        · simp only [Act.put, List.setIfInBounds_toArray, List.set_cons_zero, List.set_cons_succ, i64_w, i32_w]
          rfl
        refine pure_ (i := 2) (N := some 28) (v := ?_) (a' := ?_) #[true, true, true, false, true, false, false] rfl rfl (by kernel_rfl) (fun _ _ _ h => h) (Or.inl ⟨by rfl, ?_⟩) ?_ ?_
        rotate_left
        · intro w'
          go_simp
          with_reducible rfl
        rotate_left
        · simp only [Act.put, List.setIfInBounds_toArray, List.set_cons_zero, List.set_cons_succ, i64_w, i32_w]
          rfl
        refine take_ (i := 3) (N := some 29) (v := ?_) (a' := ?_) #[true, true, true, true, true, false, false] rfl rfl (by kernel_rfl) (fun _ _ _ h => h) (Or.inl ⟨by rfl, ?_⟩) hHeld ?_ ?_
        rotate_left
        · rintro w' ⟨s0, s1, s2, s3⟩
          go_simp
          with_reducible rfl
        rotate_left
        · simp only [Act.put, List.setIfInBounds_toArray, List.set_cons_zero, List.set_cons_succ, i64_w, i32_w]
          rfl
        refine one_ (i := 5) (N := some 31) #[true, true, true, true, true, true, false] rfl rfl (by kernel_rfl) (by decide) (fun K hK => ?_)
        refine goes_ Try.func111 (by kernel_rfl) rfl #[.agg #[.int .i64 W, .int .i64 D], .string s0, .string sl] (by rfl) rfl rfl (by (try simp only [List.map_toArray, List.map_cons, List.map_nil]); first | done | rfl) ?_
        with_reducible refine (impl_Lock_distance.calls k W D s0 sl d _ HD.out).mono ?_
        rintro e w7 ⟨rfl, hb⟩
        refine ⟨_, rfl, ?_⟩
        replace HX0 := Aside0.mk ((hb.cell (World.block_lt_of_cell? _ _ HX0.out)).trans HX0.out)
        replace HS := Aside0.mk (HS.out.below hb)
        replace HB := Aside0.mk (below_then HB.out HB.out.size hb)
        replace HK := Aside0.mk (HK.out.below hb)
        clear hb
        refine hK.out _ _ ⟨HS.out.cw, HS.out.cl0, HS.out.cl1, HX0.out⟩ (fun hHeld => ?_)
        clear hK K
        refine norm_ (a' := ?_) ?_ ?_
        rotate_left
        · show Act.put _ (some 31) _ = _
          simp only [Act.put, List.setIfInBounds_toArray, List.set_cons_zero, List.set_cons_succ, i64_w, i32_w]
          rfl
        refine pure_ (i := 6) (N := some 32) (v := ?_) (a' := ?_) #[true, true, true, true, true, true, true] rfl rfl (by kernel_rfl) (fun _ _ _ h => h) (Or.inl ⟨by rfl, ?_⟩) ?_ ?_
        rotate_left
        · intro w'
          go_simp
          with_reducible rfl
        rotate_left
        · simp only [Act.put, List.setIfInBounds_toArray, List.set_cons_zero, List.set_cons_succ, i64_w, i32_w]
          rfl
        refine done_ (by kernel_rfl) ?_
        have hcw := HS.out.cw; have hcl0 := HS.out.cl0; have hcl1 := HS.out.cl1; have hcn := HS.out.cn; have hcf := HS.out.cf; have hcc := HS.out.cc; have hcp := HS.out.cp; have hfw := HS.out.fw; have hfn := HS.out.fn_; have hff := HS.out.ff; have hfc := HS.out.fc
        go_wp2_with (first | ((with_reducible refine gate_store (p := 4) rfl ?_); refine store_event (w1 := w7.setCell ⟨gc, 0, none⟩ (.int .i64 (wrap64 (closed + 1)))) rfl rfl rfl ?hr ?_; (case hr => first | (go_simp; done) | (go_simp; rfl)); intro w8 hw_; clear hcw hcl0 hcl1 hcn hcf hcc hcp hfw hfn hff hfc; have hs_ := HS.out.set_c hdn (wrap64 (closed + 1)); have hb_ := HB.out.setCell (p := ⟨gc, 0, none⟩) hgec (.int .i64 (wrap64 (closed + 1))); have hk_ := HK.out.setCell (p := ⟨gc, 0, none⟩) (.inl (Or.inr (Or.inr (Or.inr (Or.inl rfl))))) (.int .i64 (wrap64 (closed + 1))); rw [← hw_] at hs_ hb_ hk_; replace HS := Aside0.mk hs_; replace HB := Aside0.mk hb_; replace HK := Aside0.mk hk_; clear hs_ hb_ hk_ hw_; have hcw := HS.out.cw; have hcl0 := HS.out.cl0; have hcl1 := HS.out.cl1; have hcn := HS.out.cn; have hcf := HS.out.cf; have hcc := HS.out.cc; have hcp := HS.out.cp; have hfw := HS.out.fw; have hfn := HS.out.fn_; have hff := HS.out.ff; have hfc := HS.out.fc))
        (try simp only [Exit.inBlock, Exit.then]); (first | refine bodyPost_ret (results_none rfl _ _ _) rfl ?_ | refine bodyPost_end (results_none rfl _ _ _) rfl ?_)
        first | exact ⟨rfl, _, _, HS.out, HB.out, HK.out, Or.inl rfl⟩ | exact ⟨rfl, _, ⟨_, HS.out⟩, HB.out, HK.out, Or.inl rfl⟩
    · have cdb : (d == 1) = false := beq_eq_false_iff_ne.mpr cd
      have ecd : (if d = 1 then wrap64 (closed + 1) else closed) = closed := if_neg cd
      simp only [ecd]
      clear ecd cd
      by_cases cf : first.length = 0
      · have ecf : (if first.length = 0 then way else first) = way := if_pos cf
        simp only [ecf]
        clear ecf
        have evf := HS.out.nil_ cf
        subst evf
        have hcw := HS.out.cw; have hcl0 := HS.out.cl0; have hcl1 := HS.out.cl1; have hcn := HS.out.cn; have hcf := HS.out.cf; have hcc := HS.out.cc; have hcp := HS.out.cp; have hfw := HS.out.fw; have hfn := HS.out.fn_; have hff := HS.out.ff; have hfc := HS.out.fc
        go_enter Try.func133, Try.ntmps133
        go_wp2
        refine start_ (n := 5) (S := fun w' => w'.cell? ⟨gw, 0, none⟩ = some (.slice (some ad0) way.length cw) ∧ w'.cell? ⟨gl, 0, none⟩ = some (.int .i64 W) ∧ w'.cell? ⟨gl, 1, none⟩ = some (.int .i64 D)) (ds := []) #[false, false, false, false, false] (by kernel_rfl) rfl rfl ⟨hcw, hcl0, hcl1⟩ (fun hHeld => ?_)
        clear hcw hcl0 hcl1 hcn hcf hcc hcp hfw hfn hff hfc
        have hb := below_drew1 (Below.refl w.heap.size w)
        replace HS := Aside0.mk (HS.out.below hb)
        replace HB := Aside0.mk (below_then HB.out HB.out.size hb)
        replace HK := Aside0.mk (HK.out.below hb)
        clear hb
        generalize w.drew = wd_w at HS HB HK hHeld ⊢
        refine take_ (i := 0) (N := some 15) (v := ?_) (a' := ?_) #[true, false, false, false, false] rfl rfl (by kernel_rfl) (fun _ _ _ h => h) (Or.inl ⟨by rfl, ?_⟩) hHeld ?_ ?_
        rotate_left
        · rintro w' ⟨s0, s1, s2⟩
          go_simp
          with_reducible rfl
        rotate_left
        · simp only [Act.put, List.setIfInBounds_toArray, List.set_cons_zero, List.set_cons_succ, i64_w, i32_w]
          rfl
        refine pure_ (i := 1) (N := some 16) (v := ?_) (a' := ?_) #[true, true, false, false, false] rfl rfl (by kernel_rfl) (fun _ _ _ h => h) (Or.inl ⟨by rfl, ?_⟩) ?_ ?_
        rotate_left
        · intro w'
          go_simp
          with_reducible rfl
        rotate_left
        · simp only [Act.put, List.setIfInBounds_toArray, List.set_cons_zero, List.set_cons_succ, i64_w, i32_w]
          rfl
        refine take_ (i := 2) (N := some 17) (v := ?_) (a' := ?_) #[true, true, true, false, false] rfl rfl (by kernel_rfl) (fun _ _ _ h => h) (Or.inl ⟨by rfl, ?_⟩) hHeld ?_ ?_
        rotate_left
        · rintro w' ⟨s0, s1, s2⟩
          go_simp
          with_reducible rfl
        rotate_left
        · simp only [Act.put, List.setIfInBounds_toArray, List.set_cons_zero, List.set_cons_succ, i64_w, i32_w]
          rfl
        refine one_ (i := 3) (N := some 18) #[true, true, true, true, false] rfl rfl (by kernel_rfl) (by decide) (fun K hK => ?_)
        refine goes_ Try.func107 (by kernel_rfl) rfl #[.agg #[.int .i64 W, .int .i64 D]] (by rfl) rfl rfl (by (try simp only [List.map_toArray, List.map_cons, List.map_nil]); first | done | rfl) ?_
        with_reducible refine (impl_Lock_count.calls k W D nn _ HN.out).mono ?_
        rintro e w3 ⟨rfl, hb⟩
        refine ⟨_, rfl, ?_⟩
        replace HS := Aside0.mk (HS.out.below hb)
        replace HB := Aside0.mk (below_then HB.out HB.out.size hb)
        replace HK := Aside0.mk (HK.out.below hb)
        clear hb
        refine hK.out _ _ ⟨HS.out.cw, HS.out.cl0, HS.out.cl1⟩ (fun hHeld => ?_)
        clear hK K
        refine norm_ (a' := ?_) ?_ ?_
        rotate_left
        · show Act.put _ (some 18) _ = _
          simp only [Act.put, List.setIfInBounds_toArray, List.set_cons_zero, List.set_cons_succ, i64_w, i32_w]
          rfl
        refine pure_ (i := 4) (N := some 19) (v := ?_) (a' := ?_) #[true, true, true, true, true] rfl rfl (by kernel_rfl) (fun _ _ _ h => h) (Or.inl ⟨by rfl, ?_⟩) ?_ ?_
        rotate_left
        · intro w'
          go_simp
          with_reducible rfl
        rotate_left
        · simp only [Act.put, List.setIfInBounds_toArray, List.set_cons_zero, List.set_cons_succ, i64_w, i32_w]
          rfl
        refine done_ (by kernel_rfl) ?_
        clear hxl hjiw
        have hcw := HS.out.cw; have hcl0 := HS.out.cl0; have hcl1 := HS.out.cl1; have hcn := HS.out.cn; have hcf := HS.out.cf; have hcc := HS.out.cc; have hcp := HS.out.cp; have hfw := HS.out.fw; have hfn := HS.out.fn_; have hff := HS.out.ff; have hfc := HS.out.fc
        have HCL : Aside0 (slices_Clone_string_string.f way = some way) := ⟨by unfold slices_Clone_string_string.f; rw [if_pos (of_eq_true hp1), if_pos (by have := LM.out; omega)]⟩
        go_wp2_with (first | ((with_reducible refine gate_store (p := 2) rfl ?_); refine store_event (w1 := w3.setCell ⟨gn, 0, none⟩ (.int .i64 (wrap64 (whole + 1)))) rfl rfl rfl ?hr ?_; (case hr => first | (go_simp; done) | (go_simp; rfl)); intro w4 hw_; clear hcw hcl0 hcl1 hcn hcf hcc hcp hfw hfn hff hfc; have hs_ := HS.out.set_n hdn (wrap64 (whole + 1)); have hb_ := HB.out.setCell (p := ⟨gn, 0, none⟩) hgen (.int .i64 (wrap64 (whole + 1))); have hk_ := HK.out.setCell (p := ⟨gn, 0, none⟩) (.inl (Or.inr (Or.inl rfl))) (.int .i64 (wrap64 (whole + 1))); rw [← hw_] at hs_ hb_ hk_; replace HX0 := Aside0.mk ((impl_Lock_wholes.St.at0 hs_ (of_eq_true hp1)).trans (congrArg (fun x_ => some (Value.string x_)) HS0.out.symm)); replace HS := Aside0.mk hs_; replace HB := Aside0.mk hb_; replace HK := Aside0.mk hk_; clear hs_ hb_ hk_ hw_; have hcw := HS.out.cw; have hcl0 := HS.out.cl0; have hcl1 := HS.out.cl1; have hcn := HS.out.cn; have hcf := HS.out.cf; have hcc := HS.out.cc; have hcp := HS.out.cp; have hfw := HS.out.fw; have hfn := HS.out.fn_; have hff := HS.out.ff; have hfc := HS.out.fc) | ((with_reducible refine gate_callee (f := 134) rfl ?_); refine goesL_ (some 25) rfl rfl Try.func134 (by kernel_rfl) rfl #[.slice (some ad0) way.length cw] rfl (by (try simp only [List.map_toArray, List.map_cons, List.map_nil]); first | done | rfl) ?_; (with_reducible refine (slices_Clone_string_string.calls (some ad0) cw way way _ (Kd.R_reads' HS.out.rw_).2.2 (Kd.R_reads' HS.out.rw_).2.1 HCL.out).mono ?_); rintro e w5 ⟨v25, rfl, ho, hb⟩; obtain ⟨A25, c25, e25⟩ := Kd.R_slice ho; subst e25; refine ⟨_, rfl, ?_⟩; clear hcw hcl0 hcl1 hcn hcf hcc hcp hfw hfn hff hfc; have HF1 := Aside0.mk (Kd.R_mono (Kd.R_lower (Kd.R_new' ho (Kd.R_lt HS.out.rw_)) HB.out.size) (fun _ q => q.2)); have HW1 := Aside0.mk (Kd.R_mono (Kd.R_elder' HS.out.rw_ (Kd.R_base ho) hb) (fun _ q => q.2)); replace HS := Aside0.mk (HS.out.below hb); replace HB := Aside0.mk (below_then HB.out HB.out.size hb); replace HK := Aside0.mk (HK.out.below hb); clear ho hb; have hcw := HS.out.cw; have hcl0 := HS.out.cl0; have hcl1 := HS.out.cl1; have hcn := HS.out.cn; have hcf := HS.out.cf; have hcc := HS.out.cc; have hcp := HS.out.cp; have hfw := HS.out.fw; have hfn := HS.out.fn_; have hff := HS.out.ff; have hfc := HS.out.fc) | ((with_reducible refine gate_store (p := 3) rfl ?_); refine store_event (w1 := w5.setCell ⟨gf, 0, none⟩ (.slice A25 way.length c25)) rfl rfl rfl ?hr ?_; (case hr => first | (go_simp; done) | (go_simp; rfl)); intro w6 hw_; clear hcw hcl0 hcl1 hcn hcf hcc hcp hfw hfn hff hfc; have hs_ := HS.out.set_f hdw HW1.out HF1.out (fun q => absurd q (Nat.ne_of_gt (of_eq_true hp1))); have hb_ := HB.out.setCell (p := ⟨gf, 0, none⟩) hgef (.slice A25 way.length c25); have hk_ := HK.out.setCell (p := ⟨gf, 0, none⟩) (.inl (Or.inr (Or.inr (Or.inl rfl)))) (.slice A25 way.length c25); rw [← hw_] at hs_ hb_ hk_; clear HF1 HW1; replace HX0 := Aside0.mk ((impl_Lock_wholes.St.at0 hs_ (of_eq_true hp1)).trans (congrArg (fun x_ => some (Value.string x_)) HS0.out.symm)); replace HS := Aside0.mk hs_; replace HB := Aside0.mk hb_; replace HK := Aside0.mk hk_; clear hs_ hb_ hk_ hw_; have hcw := HS.out.cw; have hcl0 := HS.out.cl0; have hcl1 := HS.out.cl1; have hcn := HS.out.cn; have hcf := HS.out.cf; have hcc := HS.out.cc; have hcp := HS.out.cp; have hfw := HS.out.fw; have hfn := HS.out.fn_; have hff := HS.out.ff; have hfc := HS.out.fc))
        refine start_ (n := 7) (S := fun w' => w'.cell? ⟨gw, 0, none⟩ = some (.slice (some ad0) way.length cw) ∧ w'.cell? ⟨gl, 0, none⟩ = some (.int .i64 W) ∧ w'.cell? ⟨gl, 1, none⟩ = some (.int .i64 D) ∧ w'.cell? ad0 = some (.string s0)) (ds := []) #[false, false, false, false, false, false, false] (by kernel_rfl) rfl rfl ⟨hcw, hcl0, hcl1, HX0.out⟩ (fun hHeld => ?_)
        clear hcw hcl0 hcl1 hcn hcf hcc hcp hfw hfn hff hfc
        have hb := below_drew1 (Below.refl w6.heap.size w6)
        replace HS := Aside0.mk (HS.out.below hb)
        replace HB := Aside0.mk (below_then HB.out HB.out.size hb)
        replace HK := Aside0.mk (HK.out.below hb)
        replace HX0 := Aside0.mk ((hb.cell (World.block_lt_of_cell? _ _ HX0.out)).trans HX0.out)
        clear hb
        generalize w6.drew = wd_w6 at HS HB HK HX0 hHeld ⊢
        refine pure_ (i := 4) (N := some 30) (v := ?_) (a' := ?_) #[false, false, false, false, true, false, false] rfl rfl (by kernel_rfl) (fun _ _ _ h => h) (Or.inl ⟨by rfl, ?_⟩) ?_ ?_
        rotate_left
        · intro w'
          go_simp
          with_reducible rfl
        rotate_left
        · simp only [Act.put, List.setIfInBounds_toArray, List.set_cons_zero, List.set_cons_succ, i64_w, i32_w]
          rfl
        refine take_ (i := 0) (N := some 26) (v := ?_) (a' := ?_) #[true, false, false, false, true, false, false] rfl rfl (by kernel_rfl) (fun _ _ _ h => h) (Or.inl ⟨by rfl, ?_⟩) hHeld ?_ ?_
        rotate_left
        · rintro w' ⟨s0, s1, s2, s3⟩
          go_simp
          with_reducible rfl
        rotate_left
        · simp only [Act.put, List.setIfInBounds_toArray, List.set_cons_zero, List.set_cons_succ, i64_w, i32_w]
          rfl
        refine take_ (i := 1) (N := some 27) (v := ?_) (a' := ?_) #[true, true, false, false, true, false, false] rfl rfl (by kernel_rfl) (fun _ _ _ h => h) (Or.inl ⟨by rfl, ?_⟩) hHeld ?_ ?_
        rotate_left
        · rintro w' ⟨s0, s1, s2, s3⟩
          go_simp
          with_reducible rfl
        rotate_left
        · simp only [Act.put, List.setIfInBounds_toArray, List.set_cons_zero, List.set_cons_succ, i64_w, i32_w]
          rfl
        refine pure_ (i := 2) (N := some 28) (v := ?_) (a' := ?_) #[true, true, true, false, true, false, false] rfl rfl (by kernel_rfl) (fun _ _ _ h => h) (Or.inl ⟨by rfl, ?_⟩) ?_ ?_
        rotate_left
        · intro w'
          go_simp
          with_reducible rfl
        rotate_left
        · simp only [Act.put, List.setIfInBounds_toArray, List.set_cons_zero, List.set_cons_succ, i64_w, i32_w]
          rfl
        refine take_ (i := 3) (N := some 29) (v := ?_) (a' := ?_) #[true, true, true, true, true, false, false] rfl rfl (by kernel_rfl) (fun _ _ _ h => h) (Or.inl ⟨by rfl, ?_⟩) hHeld ?_ ?_
        rotate_left
        · rintro w' ⟨s0, s1, s2, s3⟩
          go_simp
          with_reducible rfl
        rotate_left
        · simp only [Act.put, List.setIfInBounds_toArray, List.set_cons_zero, List.set_cons_succ, i64_w, i32_w]
          rfl
        refine one_ (i := 5) (N := some 31) #[true, true, true, true, true, true, false] rfl rfl (by kernel_rfl) (by decide) (fun K hK => ?_)
        refine goes_ Try.func111 (by kernel_rfl) rfl #[.agg #[.int .i64 W, .int .i64 D], .string s0, .string sl] (by rfl) rfl rfl (by (try simp only [List.map_toArray, List.map_cons, List.map_nil]); first | done | rfl) ?_
        with_reducible refine (impl_Lock_distance.calls k W D s0 sl d _ HD.out).mono ?_
        rintro e w7 ⟨rfl, hb⟩
        refine ⟨_, rfl, ?_⟩
        replace HX0 := Aside0.mk ((hb.cell (World.block_lt_of_cell? _ _ HX0.out)).trans HX0.out)
        replace HS := Aside0.mk (HS.out.below hb)
        replace HB := Aside0.mk (below_then HB.out HB.out.size hb)
        replace HK := Aside0.mk (HK.out.below hb)
        clear hb
        refine hK.out _ _ ⟨HS.out.cw, HS.out.cl0, HS.out.cl1, HX0.out⟩ (fun hHeld => ?_)
        clear hK K
        refine norm_ (a' := ?_) ?_ ?_
        rotate_left
        · show Act.put _ (some 31) _ = _
          simp only [Act.put, List.setIfInBounds_toArray, List.set_cons_zero, List.set_cons_succ, i64_w, i32_w]
          rfl
        refine pure_ (i := 6) (N := some 32) (v := ?_) (a' := ?_) #[true, true, true, true, true, true, true] rfl rfl (by kernel_rfl) (fun _ _ _ h => h) (Or.inl ⟨by rfl, ?_⟩) ?_ ?_
        rotate_left
        · intro w'
          go_simp
          with_reducible rfl
        rotate_left
        · simp only [Act.put, List.setIfInBounds_toArray, List.set_cons_zero, List.set_cons_succ, i64_w, i32_w]
          rfl
        refine done_ (by kernel_rfl) ?_
        have hcw := HS.out.cw; have hcl0 := HS.out.cl0; have hcl1 := HS.out.cl1; have hcn := HS.out.cn; have hcf := HS.out.cf; have hcc := HS.out.cc; have hcp := HS.out.cp; have hfw := HS.out.fw; have hfn := HS.out.fn_; have hff := HS.out.ff; have hfc := HS.out.fc
        try go_wp2
        (try simp only [Exit.inBlock, Exit.then]); (first | refine bodyPost_ret (results_none rfl _ _ _) rfl ?_ | refine bodyPost_end (results_none rfl _ _ _) rfl ?_)
        first | exact ⟨rfl, _, _, HS.out, HB.out, HK.out, Or.inl rfl⟩ | exact ⟨rfl, _, ⟨_, HS.out⟩, HB.out, HK.out, Or.inl rfl⟩
      · have ecf : (if first.length = 0 then way else first) = first := if_neg cf
        simp only [ecf]
        clear ecf
        obtain ⟨Af, cf_, evf⟩ := Kd.R_slice HS.out.rf_
        subst evf
        obtain ⟨adf, eaf, _⟩ := Kd.at_string (Kd.R_reads' HS.out.rf_).2.2 0 (by omega) (by omega)
        subst eaf
        have hcw := HS.out.cw; have hcl0 := HS.out.cl0; have hcl1 := HS.out.cl1; have hcn := HS.out.cn; have hcf := HS.out.cf; have hcc := HS.out.cc; have hcp := HS.out.cp; have hfw := HS.out.fw; have hfn := HS.out.fn_; have hff := HS.out.ff; have hfc := HS.out.fc
        go_enter Try.func133, Try.ntmps133
        go_wp2
        refine start_ (n := 5) (S := fun w' => w'.cell? ⟨gw, 0, none⟩ = some (.slice (some ad0) way.length cw) ∧ w'.cell? ⟨gl, 0, none⟩ = some (.int .i64 W) ∧ w'.cell? ⟨gl, 1, none⟩ = some (.int .i64 D)) (ds := []) #[false, false, false, false, false] (by kernel_rfl) rfl rfl ⟨hcw, hcl0, hcl1⟩ (fun hHeld => ?_)
        clear hcw hcl0 hcl1 hcn hcf hcc hcp hfw hfn hff hfc
        have hb := below_drew1 (Below.refl w.heap.size w)
        replace HS := Aside0.mk (HS.out.below hb)
        replace HB := Aside0.mk (below_then HB.out HB.out.size hb)
        replace HK := Aside0.mk (HK.out.below hb)
        clear hb
        generalize w.drew = wd_w at HS HB HK hHeld ⊢
        refine take_ (i := 0) (N := some 15) (v := ?_) (a' := ?_) #[true, false, false, false, false] rfl rfl (by kernel_rfl) (fun _ _ _ h => h) (Or.inl ⟨by rfl, ?_⟩) hHeld ?_ ?_
        rotate_left
        · rintro w' ⟨s0, s1, s2⟩
          go_simp
          with_reducible rfl
        rotate_left
        · simp only [Act.put, List.setIfInBounds_toArray, List.set_cons_zero, List.set_cons_succ, i64_w, i32_w]
          rfl
        refine pure_ (i := 1) (N := some 16) (v := ?_) (a' := ?_) #[true, true, false, false, false] rfl rfl (by kernel_rfl) (fun _ _ _ h => h) (Or.inl ⟨by rfl, ?_⟩) ?_ ?_
        rotate_left
        · intro w'
          go_simp
          with_reducible rfl
        rotate_left
        · simp only [Act.put, List.setIfInBounds_toArray, List.set_cons_zero, List.set_cons_succ, i64_w, i32_w]
          rfl
        refine take_ (i := 2) (N := some 17) (v := ?_) (a' := ?_) #[true, true, true, false, false] rfl rfl (by kernel_rfl) (fun _ _ _ h => h) (Or.inl ⟨by rfl, ?_⟩) hHeld ?_ ?_
        rotate_left
        · rintro w' ⟨s0, s1, s2⟩
          go_simp
          with_reducible rfl
        rotate_left
        · simp only [Act.put, List.setIfInBounds_toArray, List.set_cons_zero, List.set_cons_succ, i64_w, i32_w]
          rfl
        refine one_ (i := 3) (N := some 18) #[true, true, true, true, false] rfl rfl (by kernel_rfl) (by decide) (fun K hK => ?_)
        refine goes_ Try.func107 (by kernel_rfl) rfl #[.agg #[.int .i64 W, .int .i64 D]] (by rfl) rfl rfl (by (try simp only [List.map_toArray, List.map_cons, List.map_nil]); first | done | rfl) ?_
        with_reducible refine (impl_Lock_count.calls k W D nn _ HN.out).mono ?_
        rintro e w3 ⟨rfl, hb⟩
        refine ⟨_, rfl, ?_⟩
        replace HS := Aside0.mk (HS.out.below hb)
        replace HB := Aside0.mk (below_then HB.out HB.out.size hb)
        replace HK := Aside0.mk (HK.out.below hb)
        clear hb
        refine hK.out _ _ ⟨HS.out.cw, HS.out.cl0, HS.out.cl1⟩ (fun hHeld => ?_)
        clear hK K
        refine norm_ (a' := ?_) ?_ ?_
        rotate_left
        · show Act.put _ (some 18) _ = _
          simp only [Act.put, List.setIfInBounds_toArray, List.set_cons_zero, List.set_cons_succ, i64_w, i32_w]
          rfl
        refine pure_ (i := 4) (N := some 19) (v := ?_) (a' := ?_) #[true, true, true, true, true] rfl rfl (by kernel_rfl) (fun _ _ _ h => h) (Or.inl ⟨by rfl, ?_⟩) ?_ ?_
        rotate_left
        · intro w'
          go_simp
          with_reducible rfl
        rotate_left
        · simp only [Act.put, List.setIfInBounds_toArray, List.set_cons_zero, List.set_cons_succ, i64_w, i32_w]
          rfl
        refine done_ (by kernel_rfl) ?_
        clear hxl hjiw
        have hcw := HS.out.cw; have hcl0 := HS.out.cl0; have hcl1 := HS.out.cl1; have hcn := HS.out.cn; have hcf := HS.out.cf; have hcc := HS.out.cc; have hcp := HS.out.cp; have hfw := HS.out.fw; have hfn := HS.out.fn_; have hff := HS.out.ff; have hfc := HS.out.fc
        go_wp2_with (first | ((with_reducible refine gate_store (p := 2) rfl ?_); refine store_event (w1 := w3.setCell ⟨gn, 0, none⟩ (.int .i64 (wrap64 (whole + 1)))) rfl rfl rfl ?hr ?_; (case hr => first | (go_simp; done) | (go_simp; rfl)); intro w4 hw_; clear hcw hcl0 hcl1 hcn hcf hcc hcp hfw hfn hff hfc; have hs_ := HS.out.set_n hdn (wrap64 (whole + 1)); have hb_ := HB.out.setCell (p := ⟨gn, 0, none⟩) hgen (.int .i64 (wrap64 (whole + 1))); have hk_ := HK.out.setCell (p := ⟨gn, 0, none⟩) (.inl (Or.inr (Or.inl rfl))) (.int .i64 (wrap64 (whole + 1))); rw [← hw_] at hs_ hb_ hk_; replace HX0 := Aside0.mk ((impl_Lock_wholes.St.at0 hs_ (of_eq_true hp1)).trans (congrArg (fun x_ => some (Value.string x_)) HS0.out.symm)); replace HS := Aside0.mk hs_; replace HB := Aside0.mk hb_; replace HK := Aside0.mk hk_; clear hs_ hb_ hk_ hw_; have hcw := HS.out.cw; have hcl0 := HS.out.cl0; have hcl1 := HS.out.cl1; have hcn := HS.out.cn; have hcf := HS.out.cf; have hcc := HS.out.cc; have hcp := HS.out.cp; have hfw := HS.out.fw; have hfn := HS.out.fn_; have hff := HS.out.ff; have hfc := HS.out.fc))
        refine start_ (n := 7) (S := fun w' => w'.cell? ⟨gw, 0, none⟩ = some (.slice (some ad0) way.length cw) ∧ w'.cell? ⟨gl, 0, none⟩ = some (.int .i64 W) ∧ w'.cell? ⟨gl, 1, none⟩ = some (.int .i64 D) ∧ w'.cell? ad0 = some (.string s0)) (ds := []) #[false, false, false, false, false, false, false] (by kernel_rfl) rfl rfl ⟨hcw, hcl0, hcl1, HX0.out⟩ (fun hHeld => ?_)
        clear hcw hcl0 hcl1 hcn hcf hcc hcp hfw hfn hff hfc
        have hb := below_drew1 (Below.refl w4.heap.size w4)
        replace HS := Aside0.mk (HS.out.below hb)
        replace HB := Aside0.mk (below_then HB.out HB.out.size hb)
        replace HK := Aside0.mk (HK.out.below hb)
        replace HX0 := Aside0.mk ((hb.cell (World.block_lt_of_cell? _ _ HX0.out)).trans HX0.out)
        clear hb
        generalize w4.drew = wd_w4 at HS HB HK HX0 hHeld ⊢
        refine pure_ (i := 4) (N := some 30) (v := ?_) (a' := ?_) #[false, false, false, false, true, false, false] rfl rfl (by kernel_rfl) (fun _ _ _ h => h) (Or.inl ⟨by rfl, ?_⟩) ?_ ?_
        rotate_left
        · intro w'
          go_simp
          with_reducible rfl
        rotate_left
        · simp only [Act.put, List.setIfInBounds_toArray, List.set_cons_zero, List.set_cons_succ, i64_w, i32_w]
          rfl
        refine take_ (i := 0) (N := some 26) (v := ?_) (a' := ?_) #[true, false, false, false, true, false, false] rfl rfl (by kernel_rfl) (fun _ _ _ h => h) (Or.inl ⟨by rfl, ?_⟩) hHeld ?_ ?_
        rotate_left
        · rintro w' ⟨s0, s1, s2, s3⟩
          go_simp
          with_reducible rfl
        rotate_left
        · simp only [Act.put, List.setIfInBounds_toArray, List.set_cons_zero, List.set_cons_succ, i64_w, i32_w]
          rfl
        refine take_ (i := 1) (N := some 27) (v := ?_) (a' := ?_) #[true, true, false, false, true, false, false] rfl rfl (by kernel_rfl) (fun _ _ _ h => h) (Or.inl ⟨by rfl, ?_⟩) hHeld ?_ ?_
        rotate_left
        · rintro w' ⟨s0, s1, s2, s3⟩
          go_simp
          with_reducible rfl
        rotate_left
        · simp only [Act.put, List.setIfInBounds_toArray, List.set_cons_zero, List.set_cons_succ, i64_w, i32_w]
          rfl
        refine pure_ (i := 2) (N := some 28) (v := ?_) (a' := ?_) #[true, true, true, false, true, false, false] rfl rfl (by kernel_rfl) (fun _ _ _ h => h) (Or.inl ⟨by rfl, ?_⟩) ?_ ?_
        rotate_left
        · intro w'
          go_simp
          with_reducible rfl
        rotate_left
        · simp only [Act.put, List.setIfInBounds_toArray, List.set_cons_zero, List.set_cons_succ, i64_w, i32_w]
          rfl
        refine take_ (i := 3) (N := some 29) (v := ?_) (a' := ?_) #[true, true, true, true, true, false, false] rfl rfl (by kernel_rfl) (fun _ _ _ h => h) (Or.inl ⟨by rfl, ?_⟩) hHeld ?_ ?_
        rotate_left
        · rintro w' ⟨s0, s1, s2, s3⟩
          go_simp
          with_reducible rfl
        rotate_left
        · simp only [Act.put, List.setIfInBounds_toArray, List.set_cons_zero, List.set_cons_succ, i64_w, i32_w]
          rfl
        refine one_ (i := 5) (N := some 31) #[true, true, true, true, true, true, false] rfl rfl (by kernel_rfl) (by decide) (fun K hK => ?_)
        refine goes_ Try.func111 (by kernel_rfl) rfl #[.agg #[.int .i64 W, .int .i64 D], .string s0, .string sl] (by rfl) rfl rfl (by (try simp only [List.map_toArray, List.map_cons, List.map_nil]); first | done | rfl) ?_
        with_reducible refine (impl_Lock_distance.calls k W D s0 sl d _ HD.out).mono ?_
        rintro e w7 ⟨rfl, hb⟩
        refine ⟨_, rfl, ?_⟩
        replace HX0 := Aside0.mk ((hb.cell (World.block_lt_of_cell? _ _ HX0.out)).trans HX0.out)
        replace HS := Aside0.mk (HS.out.below hb)
        replace HB := Aside0.mk (below_then HB.out HB.out.size hb)
        replace HK := Aside0.mk (HK.out.below hb)
        clear hb
        refine hK.out _ _ ⟨HS.out.cw, HS.out.cl0, HS.out.cl1, HX0.out⟩ (fun hHeld => ?_)
        clear hK K
        refine norm_ (a' := ?_) ?_ ?_
        rotate_left
        · show Act.put _ (some 31) _ = _
          simp only [Act.put, List.setIfInBounds_toArray, List.set_cons_zero, List.set_cons_succ, i64_w, i32_w]
          rfl
        refine pure_ (i := 6) (N := some 32) (v := ?_) (a' := ?_) #[true, true, true, true, true, true, true] rfl rfl (by kernel_rfl) (fun _ _ _ h => h) (Or.inl ⟨by rfl, ?_⟩) ?_ ?_
        rotate_left
        · intro w'
          go_simp
          with_reducible rfl
        rotate_left
        · simp only [Act.put, List.setIfInBounds_toArray, List.set_cons_zero, List.set_cons_succ, i64_w, i32_w]
          rfl
        refine done_ (by kernel_rfl) ?_
        have hcw := HS.out.cw; have hcl0 := HS.out.cl0; have hcl1 := HS.out.cl1; have hcn := HS.out.cn; have hcf := HS.out.cf; have hcc := HS.out.cc; have hcp := HS.out.cp; have hfw := HS.out.fw; have hfn := HS.out.fn_; have hff := HS.out.ff; have hfc := HS.out.fc
        try go_wp2
        (try simp only [Exit.inBlock, Exit.then]); (first | refine bodyPost_ret (results_none rfl _ _ _) rfl ?_ | refine bodyPost_end (results_none rfl _ _ _) rfl ?_)
        first | exact ⟨rfl, _, _, HS.out, HB.out, HK.out, Or.inl rfl⟩ | exact ⟨rfl, _, ⟨_, HS.out⟩, HB.out, HK.out, Or.inl rfl⟩
  · rw [if_neg cn] at h
    have cnb : ((way.length : Int) == nn) = false := beq_eq_false_iff_ne.mpr cn
    clear cn
    obtain ⟨ns, hns, h⟩ := Option.bind_eq_some_iff.mp h
    have HNX := Aside0.mk hns
    clear hns
    have H' := Aside0.mk h
    clear h
    have hcw := HS.out.cw; have hcl0 := HS.out.cl0; have hcl1 := HS.out.cl1; have hcn := HS.out.cn; have hcf := HS.out.cf; have hcc := HS.out.cc; have hcp := HS.out.cp; have hfw := HS.out.fw; have hfn := HS.out.fn_; have hff := HS.out.ff; have hfc := HS.out.fc
    go_enter Try.func133, Try.ntmps133
    go_wp2
    refine start_ (n := 5) (S := fun w' => w'.cell? ⟨gw, 0, none⟩ = some (.slice (some ad0) way.length cw) ∧ w'.cell? ⟨gl, 0, none⟩ = some (.int .i64 W) ∧ w'.cell? ⟨gl, 1, none⟩ = some (.int .i64 D)) (ds := []) #[false, false, false, false, false] (by kernel_rfl) rfl rfl ⟨hcw, hcl0, hcl1⟩ (fun hHeld => ?_)
    clear hcw hcl0 hcl1 hcn hcf hcc hcp hfw hfn hff hfc
    have hb := below_drew1 (Below.refl w.heap.size w)
    replace HS := Aside0.mk (HS.out.below hb)
    replace HB := Aside0.mk (below_then HB.out HB.out.size hb)
    replace HK := Aside0.mk (HK.out.below hb)
    clear hb
    generalize w.drew = wd_w at HS HB HK hHeld ⊢
    refine take_ (i := 0) (N := some 15) (v := ?_) (a' := ?_) #[true, false, false, false, false] rfl rfl (by kernel_rfl) (fun _ _ _ h => h) (Or.inl ⟨by rfl, ?_⟩) hHeld ?_ ?_
    rotate_left
    · rintro w' ⟨s0, s1, s2⟩
      go_simp
      with_reducible rfl
    rotate_left
    · simp only [Act.put, List.setIfInBounds_toArray, List.set_cons_zero, List.set_cons_succ, i64_w, i32_w]
      rfl
    refine pure_ (i := 1) (N := some 16) (v := ?_) (a' := ?_) #[true, true, false, false, false] rfl rfl (by kernel_rfl) (fun _ _ _ h => h) (Or.inl ⟨by rfl, ?_⟩) ?_ ?_
    rotate_left
    · intro w'
      go_simp
      with_reducible rfl
    rotate_left
    · simp only [Act.put, List.setIfInBounds_toArray, List.set_cons_zero, List.set_cons_succ, i64_w, i32_w]
      rfl
    refine take_ (i := 2) (N := some 17) (v := ?_) (a' := ?_) #[true, true, true, false, false] rfl rfl (by kernel_rfl) (fun _ _ _ h => h) (Or.inl ⟨by rfl, ?_⟩) hHeld ?_ ?_
    rotate_left
    · rintro w' ⟨s0, s1, s2⟩
      go_simp
      with_reducible rfl
    rotate_left
    · simp only [Act.put, List.setIfInBounds_toArray, List.set_cons_zero, List.set_cons_succ, i64_w, i32_w]
      rfl
    refine one_ (i := 3) (N := some 18) #[true, true, true, true, false] rfl rfl (by kernel_rfl) (by decide) (fun K hK => ?_)
    refine goes_ Try.func107 (by kernel_rfl) rfl #[.agg #[.int .i64 W, .int .i64 D]] (by rfl) rfl rfl (by (try simp only [List.map_toArray, List.map_cons, List.map_nil]); first | done | rfl) ?_
    with_reducible refine (impl_Lock_count.calls k W D nn _ HN.out).mono ?_
    rintro e w3 ⟨rfl, hb⟩
    refine ⟨_, rfl, ?_⟩
    replace HS := Aside0.mk (HS.out.below hb)
    replace HB := Aside0.mk (below_then HB.out HB.out.size hb)
    replace HK := Aside0.mk (HK.out.below hb)
    clear hb
    refine hK.out _ _ ⟨HS.out.cw, HS.out.cl0, HS.out.cl1⟩ (fun hHeld => ?_)
    clear hK K
    refine norm_ (a' := ?_) ?_ ?_
    rotate_left
    · show Act.put _ (some 18) _ = _
      simp only [Act.put, List.setIfInBounds_toArray, List.set_cons_zero, List.set_cons_succ, i64_w, i32_w]
      rfl
    refine pure_ (i := 4) (N := some 19) (v := ?_) (a' := ?_) #[true, true, true, true, true] rfl rfl (by kernel_rfl) (fun _ _ _ h => h) (Or.inl ⟨by rfl, ?_⟩) ?_ ?_
    rotate_left
    · intro w'
      go_simp
      with_reducible rfl
    rotate_left
    · simp only [Act.put, List.setIfInBounds_toArray, List.set_cons_zero, List.set_cons_succ, i64_w, i32_w]
      rfl
    refine done_ (by kernel_rfl) ?_
    clear hxl c0 c1 hp1 hjiw
    have hcw := HS.out.cw; have hcl0 := HS.out.cl0; have hcl1 := HS.out.cl1; have hcn := HS.out.cn; have hcf := HS.out.cf; have hcc := HS.out.cc; have hcp := HS.out.cp; have hfw := HS.out.fw; have hfn := HS.out.fn_; have hff := HS.out.ff; have hfc := HS.out.fc
    go_wp2_with (first | ((with_reducible refine gate_callee (f := 89) rfl ?_); refine goesL_ (some 37) rfl rfl Try.func89 (by kernel_rfl) rfl #[.agg #[.int .i64 W, .int .i64 D], .string sl] rfl (by (try simp only [List.map_toArray, List.map_cons, List.map_nil]); first | done | rfl) ?_; (with_reducible refine (impl_Lock_next.calls k W D sl ns _ HNX.out).mono ?_); rintro e w5 ⟨v37, rfl, ho, hb⟩; refine ⟨_, rfl, ?_⟩; clear hcw hcl0 hcl1 hcn hcf hcc hcp hfw hfn hff hfc; have HNS := Aside0.mk (Kd.R_mono (Kd.R_lower (Kd.R_new' ho (Kd.R_lt HS.out.rw_)) HB.out.size) (fun _ q => q.2)); replace HS := Aside0.mk (HS.out.below hb); replace HB := Aside0.mk (below_then HB.out HB.out.size hb); replace HK := Aside0.mk (HK.out.below hb); clear ho hb; obtain ⟨An, cn_, en_⟩ := Kd.R_slice HNS.out; subst en_; have hcw := HS.out.cw; have hcl0 := HS.out.cl0; have hcl1 := HS.out.cl1; have hcn := HS.out.cn; have hcf := HS.out.cf; have hcc := HS.out.cc; have hcp := HS.out.cp; have hfw := HS.out.fw; have hfn := HS.out.fn_; have hff := HS.out.ff; have hfc := HS.out.fc))
    go_loopg [39] k (fun kq v39 w' => ∃ (x39 : Int) (f_ : List ByteArray) (wh cl : Int) (vwr vfr : Value), v39 = .int .i64 x39 ∧ Aside0 (impl_Lock_wholes.rep kq W D way ns x39 f_ wh cl = some r) ∧ Aside0 (kq ≤ k) ∧ Aside0 (impl_Lock_wholes.St gw gl gn gf gc gp W D w0.heap.size w' vwr vfr way f_ wh cl) ∧ Aside0 (Kd.R Kd.string 9 w' w0.heap.size (fun k_ => some k_ ≠ vwr.ownBlock) (.slice An ns.length cn_) ns) ∧ Aside0 (Below w0.heap.size w0 w') ∧ Aside0 (Kept w w' (impl_Lock_wholes.Sx gw gn gf gc (.slice (some ad0) way.length cw : Value).ownBlock)) ∧ Aside0 (vwr.ownBlock = (.slice (some ad0) way.length cw : Value).ownBlock ∨ ∃ b, vwr.ownBlock = some b ∧ w.heap.size ≤ b))
    case atStart => exact ⟨0, first, whole, closed, _, _, (by first | rfl | (simp; done) | (simp [*]; done)), H', ⟨Nat.le_refl _⟩, HS, HNS, HB, HK, ⟨Or.inl rfl⟩⟩
    case round =>
      clear H' HS HNS HB HK HX0 HNX HN
      clear hcw hcl0 hcl1 hcn hcf hcc hcp hfw hfn hff hfc
      obtain ⟨x39, f_, wh, cl, vwr, vfr, rfl, HA, HK1, HS, HNS, HB, HK, HAT⟩ := hrel
      cases gk with
      | zero => exact absurd HA.out (by simp [impl_Lock_wholes.rep])
      | succ kq =>
        have H := HA.out
        clear HA
        simp only [impl_Lock_wholes.rep] at H
        by_cases c7 : x39 < (ns.length : Int)
        · rw [if_pos c7] at H
          have c7b : decide (x39 < (ns.length : Int)) = true := decide_eq_true c7
          by_cases c8 : 0 ≤ x39
          rotate_left
          · rw [if_neg c8] at H; exact absurd H (by simp)
          rw [if_pos c8] at H
          obtain ⟨t, ht, H⟩ := Option.bind_eq_some_iff.mp H
          unfold slices_Contains_string_string.f at ht
          by_cases hl : way.length ≤ 9223372036854775807
          rotate_left
          · rw [if_neg hl] at ht; exact absurd ht (by simp)
          rw [if_pos hl] at ht
          replace ht := Option.some.inj ht
          obtain ⟨Awr, cwr, ew⟩ := Kd.R_slice HS.out.rw_
          subst ew
          obtain ⟨adn, en, hxn⟩ := Kd.at_string (Kd.R_reads' HNS.out).2.2 x39 c8 c7
          subst en
          obtain ⟨sn, hsn⟩ : ∃ s_ : ByteArray, s_ = rdOf ByteArray.empty ns x39 := ⟨_, rfl⟩
          rw [← hsn] at hxn ht
          simp only [← hsn] at H
          clear hsn
          have hcon := slices_Contains_string_string.same Awr cwr way sn wr (Kd.R_reads' HS.out.rw_).2.2 hl
          rw [ht] at hcon
          have HCON := Aside0.mk hcon
          clear hcon ht hl
          replace c7 := eq_true c7
          replace c8 := eq_true c8
          cases t with
          | true =>
            rw [if_pos rfl] at H
            have hcw := HS.out.cw; have hcl0 := HS.out.cl0; have hcl1 := HS.out.cl1; have hcn := HS.out.cn; have hcf := HS.out.cf; have hcc := HS.out.cc; have hcp := HS.out.cp; have hfw := HS.out.fw; have hfn := HS.out.fn_; have hff := HS.out.ff; have hfc := HS.out.fc
            go_wp2_with (first | (go_at_call 91; (with_reducible refine HCON.out.mono ?_); rintro e w6 ⟨rfl, rfl⟩))
            go_roundg kq
            case measure => have := HK1.out; omega
            case rel => exact ⟨wrap64 (x39 + 1), f_, wh, cl, _, vfr, (by first | rfl | (simp; done) | (simp [*]; done)), ⟨H⟩, ⟨by have := HK1.out; omega⟩, HS, HNS, HB, HK, HAT⟩
          | false =>
            rw [if_neg (by decide)] at H
            by_cases c9 : way.length < 8796093022000
            rotate_left
            · rw [if_neg c9] at H; exact absurd H (by simp)
            rw [if_pos c9] at H
            have LM := Aside0.mk c9
            obtain ⟨p_, hp, H⟩ := Option.bind_eq_some_iff.mp H
            obtain ⟨y50, hy⟩ : ∃ y_ : List ByteArray, y_ = way ++ [sn] := ⟨_, rfl⟩
            rw [← hy] at hp
            have NL : Aside0 (y50.length = way.length + 1) := ⟨by rw [hy, List.length_append]; rfl⟩
            have NJ : Aside0 ((IntKind.i64.wrap ((y50.length : Int) - 1)) = (way.length : Int)) := ⟨by rw [NL.out, i64_w]; unfold wrap64; omega⟩
            have NY := Aside0.mk hy
            have HP := Aside0.mk hp
            have H' := Aside0.mk H
            clear hy hp H c9
            obtain ⟨i0, hi0, _, hsz0, _⟩ := info_parts info9
            clear hsz0
            have hcw := HS.out.cw; have hcl0 := HS.out.cl0; have hcl1 := HS.out.cl1; have hcn := HS.out.cn; have hcf := HS.out.cf; have hcc := HS.out.cc; have hcp := HS.out.cp; have hfw := HS.out.fw; have hfn := HS.out.fn_; have hff := HS.out.ff; have hfc := HS.out.fc
            go_wp2_with (first | (go_at_call 91; (with_reducible refine HCON.out.mono ?_); rintro e w6 ⟨rfl, rfl⟩) | ((with_reducible refine gate_dst (N := 49) rfl ?_); refine Kd.R_lit Kd.string _ 9 ?hg (N := 49) ?hd (xs := ([sn] : List ByteArray)) (inner := [.string sn]) (ok := fun _ => True) (okp := fun _ => True) ?hr ?hp (fun _ hk => hk) trivial (Below.refl _ _) (Nat.le_refl _) (by simp) ?_; (case hd => rfl); (case hg => rfl); (case hr => first | (go_simp; done) | (go_simp; rfl)); (case hp => exact (Reps.one (show Kd.M Kd.string _ _ _ sn [.string sn] from rfl) (Reps.none _ _))); intro v49 w7 ho hb hg_ hnew_; clear hg_ hnew_; clear hcw hcl0 hcl1 hcn hcf hcc hcp hfw hfn hff hfc; have HL := Aside0.mk ho; replace HNS := Aside0.mk (Kd.R_below HNS.out hb); replace HS := Aside0.mk (HS.out.below hb); replace HB := Aside0.mk (below_then HB.out HB.out.size hb); replace HK := Aside0.mk (HK.out.below hb); clear ho hb; obtain ⟨A49, c49, e49⟩ := Kd.R_slice HL.out; subst e49; have hcw := HS.out.cw; have hcl0 := HS.out.cl0; have hcl1 := HS.out.cl1; have hcn := HS.out.cn; have hcf := HS.out.cf; have hcc := HS.out.cc; have hcp := HS.out.cp; have hfw := HS.out.fw; have hfn := HS.out.fn_; have hff := HS.out.ff; have hfc := HS.out.fc) | ((with_reducible refine gate_builtin (b := .append) (xs := #[.tmp 47, .tmp 49]) rfl ?_); at_builtin; refine Kd.R_append_rows Kd.string (w0 := w0) w0.heap.size rfl (.tmp 47) (.tmp 49) 24 9 (.string ⟨#[]⟩) 16 rfl Try.underlying24 info9 rfl (by decide) (by omega) (.slice Awr way.length cwr) way [sn] _ _ _ (fun k_ => some k_ ≠ vfr.ownBlock) (fun _ => False) rfl rfl ?aO ?aR (fun _ _ h => h) (fun _ h => h.elim) ?aF ?aB ?aS ?aL ?_; (case aR => exact (Kd.R_reads' HL.out).2.2); (case aB => exact HB.out); (case aF => exact (fun k_ hk => Kd.fresh' (Kd.R_lt HS.out.rf_) k_ hk)); (case aO => exact HS.out.rw_); (case aS => exact HB.out.size); (case aL => have := LM.out; simp only [List.length_cons, List.length_nil]; omega); intro v50 w8 ho hb hg hat; clear hcw hcl0 hcl1 hcn hcf hcc hcp hfw hfn hff hfc; rw [← NY.out] at ho; obtain ⟨A50, c50, e50⟩ := Kd.R_slice ho; subst e50; have HP_ := Aside0.mk (HS.out.push hdw hg hat ho); have HNP := Aside0.mk (Kd.R_mono (Kd.R_after (ok := fun _ => True) (Kd.R_mono HNS.out (fun _ q => ⟨trivial, q⟩)) hg hat) (fun _ q => q.2)); have hbw8 := blk_grown HS.out.bw hg (Kd.R_ne HS.out.rw_ HS.out.bw (by decide)); have HBW := Aside0.mk hbw8; have hcw := (blk_cell hbw8 0).trans rfl; have hfw := blk_frozen hbw8 0; replace HB := Aside0.mk hb; have HKP := Aside0.mk (impl_Lock_wholes.keptS HK.out hg HAT.out); have HATP := Aside0.mk (impl_Lock_wholes.atS HAT.out hat HK.out.1); clear HK HAT HNS HL HS ho hb hg hat hbw8) | ((with_reducible refine gate_store (p := 0) rfl ?_); refine store_event (w1 := w10.setCell ⟨gw, 0, none⟩ (.slice Av way.length cv)) rfl rfl rfl ?hr ?_; (case hr => first | (go_simp; done) | (go_simp; rfl)); intro w11 hw_; clear hcut hjn; clear hcw hcl0 hcl1 hcn hcf hcc hcp hfw hfn hff hfc; have hr_ := impl_Lock_wholes.cutR HS.out.rw_ (n := way.length) (by have := NL.out; omega); have et_ : y50.take way.length = way := (by rw [NY.out]; exact List.take_left' rfl); rw [et_] at hr_; clear et_; have ho_ : (.slice Av way.length cv : Value).ownBlock = (.slice Av y50.length cv : Value).ownBlock := (by cases Av <;> rfl); have hn_ := Kd.R_set HNS.out HS.out.bw (by decide) 0 (.slice Av way.length cv); rw [← ho_] at hn_; have hs_ := HS.out.set_w hdw ho_ hr_; have hb_ := HB.out.setCell (p := ⟨gw, 0, none⟩) hgew (.slice Av way.length cv); have hk_ := HK.out.setCell (p := ⟨gw, 0, none⟩) (.inl (Or.inl rfl)) (.slice Av way.length cv); have ha_ := HAT.out; rw [← ho_] at ha_; rw [← hw_] at hs_ hb_ hk_ hn_; replace HS := Aside0.mk hs_; replace HB := Aside0.mk hb_; replace HK := Aside0.mk hk_; replace HNS := Aside0.mk hn_; replace HAT := Aside0.mk ha_; clear hs_ hb_ hk_ hw_ hn_ ha_ hr_ ho_; have hcw := HS.out.cw; have hcl0 := HS.out.cl0; have hcl1 := HS.out.cl1; have hcn := HS.out.cn; have hcf := HS.out.cf; have hcc := HS.out.cc; have hcp := HS.out.cp; have hfw := HS.out.fw; have hfn := HS.out.fn_; have hff := HS.out.ff; have hfc := HS.out.fc) | ((with_reducible refine gate_store (p := 0) rfl ?_); refine store_event (w1 := w8.setCell ⟨gw, 0, none⟩ (.slice A50 y50.length c50)) rfl rfl rfl ?hr ?_; (case hr => first | (go_simp; done) | (go_simp; rfl)); intro w9 hw_; have hn_ := Kd.R_set HNP.out HBW.out (by decide) 0 (.slice A50 y50.length c50); clear hcw hfw HBW; have hs_ := HP_.out; have hb_ := HB.out.setCell (p := ⟨gw, 0, none⟩) hgew (.slice A50 y50.length c50); have hk_ := HKP.out.setCell (p := ⟨gw, 0, none⟩) (.inl (Or.inl rfl)) (.slice A50 y50.length c50); rw [← hw_] at hs_ hb_ hk_ hn_; clear HP_ HKP HNP; have HS := Aside0.mk hs_; replace HB := Aside0.mk hb_; have HK := Aside0.mk hk_; have HNS := Aside0.mk hn_; have HAT := HATP; clear hs_ hb_ hk_ hw_ hn_ HATP; have hcw := HS.out.cw; have hcl0 := HS.out.cl0; have hcl1 := HS.out.cl1; have hcn := HS.out.cn; have hcf := HS.out.cf; have hcc := HS.out.cc; have hcp := HS.out.cp; have hfw := HS.out.fw; have hfn := HS.out.fn_; have hff := HS.out.ff; have hfc := HS.out.fc) | (go_at_call 133; refine (ih kq (by have := HK1.out; omega) y50 f_ wh cl p_ _ (.slice A50 y50.length c50) vfr HB.out HS.out HP.out).mono ?_; rintro e w10 ⟨rfl, vw', vf', hs_, hb_, hk_, hat_⟩; clear hcw hcl0 hcl1 hcn hcf hcc hcp hfw hfn hff hfc; have hn_ := impl_Lock_wholes.keepR HS.out HNS.out hk_ hat_; have HK10 := Aside0.mk (impl_Lock_wholes.keptK HK.out hk_ HAT.out); have HAT10 := Aside0.mk (impl_Lock_wholes.atS HAT.out hat_ HK.out.1); clear HS HB HK HAT HNS; have HS := Aside0.mk hs_; have HB := Aside0.mk hb_; have HK := HK10; have HAT := HAT10; have HNS := Aside0.mk hn_; clear HK10 HAT10 hs_ hb_ hk_ hat_ hn_; obtain ⟨Av, cv, ev_⟩ := Kd.R_slice HS.out.rw_; subst ev_; have hcut := cut_to (P := Try.prog) 24 9 .i64 Try.underlying24 hi0 Av y50.length cv (way.length : Int) (by omega) (by have := NL.out; omega) (Kd.R_reads' HS.out.rw_).2.1; rw [Int.toNat_natCast] at hcut; have hjn : (IntKind.i64.wrap ((y50.length : Int) - 1)) = (way.length : Int) := NJ.out; have hcw := HS.out.cw; have hcl0 := HS.out.cl0; have hcl1 := HS.out.cl1; have hcn := HS.out.cn; have hcf := HS.out.cf; have hcc := HS.out.cc; have hcp := HS.out.cp; have hfw := HS.out.fw; have hfn := HS.out.fn_; have hff := HS.out.ff; have hfc := HS.out.fc))
            go_roundg kq
            case measure => have := HK1.out; omega
            case rel => exact ⟨wrap64 (x39 + 1), p_.1, p_.2.1, p_.2.2, _, vf', (by first | rfl | (simp; done) | (simp [*]; done)), H', ⟨by have := HK1.out; omega⟩, HS, HNS, HB, HK, HAT⟩
        · rw [if_neg c7] at H
          have c7b : decide (x39 < (ns.length : Int)) = false := decide_eq_false c7
          clear c7
          obtain rfl := Option.some.inj H
          go_wp2
          (try simp only [Exit.inBlock, Exit.then]); (first | refine bodyPost_ret (results_none rfl _ _ _) rfl ?_ | refine bodyPost_end (results_none rfl _ _ _) rfl ?_)
          first | exact ⟨rfl, vwr, vfr, HS.out, HB.out, HK.out, HAT.out⟩ | exact ⟨rfl, vwr, ⟨vfr, HS.out⟩, HB.out, HK.out, HAT.out⟩
set_option maxHeartbeats 8000000 in
set_option maxRecDepth 100000 in
theorem impl_Lock_wholes.calls (k : Nat) (a0_0 : Int) (a0_1 : Int) (r1 : List ByteArray) (r2 : Int) (r3 : Int) (w : World) (h : impl_Lock_wholes.f k a0_0 a0_1 = some (r1, r2, r3)) :
    Calls Try.prog 83 #[.agg #[.int .i64 a0_0, .int .i64 a0_1]] w fun e w' => ∃ v0_ : Value, e = .returned (.tuple #[v0_, .int .i64 r2, .int .i64 r3]) ∧ Kd.R Kd.string 9 w' w.heap.size (fun _ => True) v0_ r1 ∧ Below w.heap.size w w' := by
  have HB := Aside0.mk (Below.refl w.heap.size w)
  have hu28 := Try.underlying28
  have hmf : ∀ (fn : Fn) (first cap : Array Value) (w : World), (Instr.makeFunc fn first cap).run Try.prog w = .ok (.func fn first cap) w := fun _ _ _ _ => rfl
  unfold impl_Lock_wholes.f at h
  obtain ⟨c, hc, h⟩ := Option.bind_eq_some_iff.mp h
  have HC := Aside0.mk hc
  have H := Aside0.mk h
  clear hc h
  go_enter Try.func83, Try.ntmps83
  go_wp2_with (first
    | ((with_reducible refine gate_dst (N := 1) rfl ?_); refine box_event ?hg (N := 1) ?hd (cs := #[.int .i64 a0_0, .int .i64 a0_1]) (t := 28) ?hr ?_; (case hd => rfl); (case hg => rfl); (case hr => first | (go_simp; done) | (go_simp; rfl)); intro gl hg_ w1 hbx_ hb; have Ggl := Aside0.mk (show w.heap.size ≤ gl from by rw [hg_]; exact HB.out.size); replace HB := Aside0.mk (below_step HB.out hb); have Bgl := Aside0.mk hbx_; clear hbx_ hb hg_; have hcl0 : w1.cell? ⟨gl, 0, none⟩ = some (.int .i64 a0_0) := (blk_cell Bgl.out 0).trans rfl; have hcl1 : w1.cell? ⟨gl, 1, none⟩ = some (.int .i64 a0_1) := (blk_cell Bgl.out 1).trans rfl)
    | ((with_reducible refine gate_callee (f := 132) rfl ?_); refine goesL_ (some 11) rfl rfl Try.func132 (by kernel_rfl) rfl #[.agg #[.int .i64 a0_0, .int .i64 a0_1], .int .i64 0] rfl (by (try simp only [List.map_toArray, List.map_cons, List.map_nil]); first | done | rfl) ?_; (with_reducible refine (impl_Lock_code.calls k a0_0 a0_1 0 c _ HC.out).mono ?_); rintro e w2 ⟨rfl, hb⟩; refine ⟨_, rfl, ?_⟩; clear hcl0 hcl1; replace Bgl := Aside0.mk (blk_below Bgl.out hb); replace HB := Aside0.mk (below_step HB.out hb); clear hb)
    | ((with_reducible refine gate_dst (N := 12) rfl ?_); refine Kd.R_lit Kd.string _ 9 ?hg (N := 12) ?hd (xs := ([c] : List ByteArray)) (inner := [.string c]) (ok := fun _ => True) (okp := fun _ => True) ?hr ?hp (fun _ hk => hk) trivial (Below.refl _ _) (Nat.le_refl _) (by simp) ?_; (case hd => rfl); (case hg => rfl); (case hr => first | (go_simp; done) | (go_simp; rfl)); (case hp => exact (Reps.one (show Kd.M Kd.string _ _ _ c [.string c] from rfl) (Reps.none _ _))); intro v12 w3 ho hb hg_ hnew_; clear hg_ hnew_; obtain ⟨A12, c12, e12⟩ := Kd.R_slice ho; replace e12 : v12 = .slice A12 1 c12 := e12; subst e12; have HO := Aside0.mk (Kd.R_lower ho HB.out.size); replace Bgl := Aside0.mk (blk_below Bgl.out hb); replace HB := Aside0.mk (below_step HB.out hb); clear ho hb)
    | ((with_reducible refine gate_dst (N := 5) rfl ?_); refine box_event ?hg (N := 5) ?hd (cs := #[.slice none 0 0]) (t := 24) ?hr ?_; (case hd => rfl); (case hg => rfl); (case hr => first | (go_simp; done) | (go_simp; rfl)); intro gw hg_ w4 hbx_ hb; have Ggw := Aside0.mk (show w.heap.size ≤ gw from by rw [hg_]; exact HB.out.size); have NE_gl_gw := Aside0.mk (show gl ≠ gw from by rw [hg_]; exact Nat.ne_of_lt (blk_lt Bgl.out)); replace Bgl := Aside0.mk (blk_below Bgl.out hb); replace HO := Aside0.mk (Kd.R_below HO.out hb); replace HB := Aside0.mk (below_step HB.out hb); have Bgw := Aside0.mk hbx_; clear hbx_ hb hg_)
    | ((with_reducible refine gate_dst (N := 6) rfl ?_); refine box_event ?hg (N := 6) ?hd (cs := #[.slice none 0 0]) (t := 24) ?hr ?_; (case hd => rfl); (case hg => rfl); (case hr => first | (go_simp; done) | (go_simp; rfl)); intro gf hg_ w5 hbx_ hb; have Ggf := Aside0.mk (show w.heap.size ≤ gf from by rw [hg_]; exact HB.out.size); have NE_gl_gf := Aside0.mk (show gl ≠ gf from by rw [hg_]; exact Nat.ne_of_lt (blk_lt Bgl.out)); have NE_gw_gf := Aside0.mk (show gw ≠ gf from by rw [hg_]; exact Nat.ne_of_lt (blk_lt Bgw.out)); replace Bgl := Aside0.mk (blk_below Bgl.out hb); replace Bgw := Aside0.mk (blk_below Bgw.out hb); replace HO := Aside0.mk (Kd.R_below HO.out hb); replace HB := Aside0.mk (below_step HB.out hb); have Bgf := Aside0.mk hbx_; clear hbx_ hb hg_)
    | ((with_reducible refine gate_dst (N := 7) rfl ?_); refine box_event ?hg (N := 7) ?hd (cs := #[.int .i64 0]) (t := 3) ?hr ?_; (case hd => rfl); (case hg => rfl); (case hr => first | (go_simp; done) | (go_simp; rfl)); intro gn hg_ w6 hbx_ hb; have Ggn := Aside0.mk (show w.heap.size ≤ gn from by rw [hg_]; exact HB.out.size); have NE_gl_gn := Aside0.mk (show gl ≠ gn from by rw [hg_]; exact Nat.ne_of_lt (blk_lt Bgl.out)); have NE_gw_gn := Aside0.mk (show gw ≠ gn from by rw [hg_]; exact Nat.ne_of_lt (blk_lt Bgw.out)); have NE_gf_gn := Aside0.mk (show gf ≠ gn from by rw [hg_]; exact Nat.ne_of_lt (blk_lt Bgf.out)); replace Bgl := Aside0.mk (blk_below Bgl.out hb); replace Bgw := Aside0.mk (blk_below Bgw.out hb); replace Bgf := Aside0.mk (blk_below Bgf.out hb); replace HO := Aside0.mk (Kd.R_below HO.out hb); replace HB := Aside0.mk (below_step HB.out hb); have Bgn := Aside0.mk hbx_; clear hbx_ hb hg_)
    | ((with_reducible refine gate_dst (N := 8) rfl ?_); refine box_event ?hg (N := 8) ?hd (cs := #[.int .i64 0]) (t := 3) ?hr ?_; (case hd => rfl); (case hg => rfl); (case hr => first | (go_simp; done) | (go_simp; rfl)); intro gc hg_ w7 hbx_ hb; have Ggc := Aside0.mk (show w.heap.size ≤ gc from by rw [hg_]; exact HB.out.size); have NE_gl_gc := Aside0.mk (show gl ≠ gc from by rw [hg_]; exact Nat.ne_of_lt (blk_lt Bgl.out)); have NE_gw_gc := Aside0.mk (show gw ≠ gc from by rw [hg_]; exact Nat.ne_of_lt (blk_lt Bgw.out)); have NE_gf_gc := Aside0.mk (show gf ≠ gc from by rw [hg_]; exact Nat.ne_of_lt (blk_lt Bgf.out)); have NE_gn_gc := Aside0.mk (show gn ≠ gc from by rw [hg_]; exact Nat.ne_of_lt (blk_lt Bgn.out)); replace Bgl := Aside0.mk (blk_below Bgl.out hb); replace Bgw := Aside0.mk (blk_below Bgw.out hb); replace Bgf := Aside0.mk (blk_below Bgf.out hb); replace Bgn := Aside0.mk (blk_below Bgn.out hb); replace HO := Aside0.mk (Kd.R_below HO.out hb); replace HB := Aside0.mk (below_step HB.out hb); have Bgc := Aside0.mk hbx_; clear hbx_ hb hg_; have hc_gw : w7.cell? ⟨gw, 0, none⟩ = some (.slice none 0 0) := (blk_cell Bgw.out 0).trans rfl; have hf_gw := blk_frozen Bgw.out 0)
    | ((with_reducible refine gate_store (p := 5) rfl ?_); refine store_event (w1 := w7.setCell ⟨gw, 0, none⟩ (.slice A12 1 c12)) rfl rfl rfl ?hr ?_; (case hr => first | (go_simp; done) | (go_simp; rfl)); intro w8 hw_; clear hc_gw hf_gw; have b_ := blk_put Bgw.out 0 (.slice A12 1 c12) rfl; rw [← hw_] at b_; have c_gl := blk_far Bgl.out (p := ⟨gw, 0, none⟩) NE_gl_gw.out (.slice A12 1 c12); rw [← hw_] at c_gl; have c_gf := blk_far Bgf.out (p := ⟨gw, 0, none⟩) (Ne.symm NE_gw_gf.out) (.slice A12 1 c12); rw [← hw_] at c_gf; have c_gn := blk_far Bgn.out (p := ⟨gw, 0, none⟩) (Ne.symm NE_gw_gn.out) (.slice A12 1 c12); rw [← hw_] at c_gn; have c_gc := blk_far Bgc.out (p := ⟨gw, 0, none⟩) (Ne.symm NE_gw_gc.out) (.slice A12 1 c12); rw [← hw_] at c_gc; have d_ := below_set (j := 0) (v := (.slice A12 1 c12)) HB.out Ggw.out; rw [← hw_] at d_; have r_ := Kd.R_set HO.out Bgw.out (by decide) 0 (.slice A12 1 c12); rw [← hw_] at r_; replace Bgw := Aside0.mk b_; replace Bgl := Aside0.mk c_gl; replace Bgf := Aside0.mk c_gf; replace Bgn := Aside0.mk c_gn; replace Bgc := Aside0.mk c_gc; replace HB := Aside0.mk d_; replace HO := Aside0.mk r_; clear b_ d_ r_ hw_ c_gl c_gf c_gn c_gc; have hc_gf : w8.cell? ⟨gf, 0, none⟩ = some (.slice none 0 0) := (blk_cell Bgf.out 0).trans rfl; have hf_gf := blk_frozen Bgf.out 0)
    | ((with_reducible refine gate_store (p := 6) rfl ?_); refine store_event (w1 := w8.setCell ⟨gf, 0, none⟩ (.slice none 0 0)) rfl rfl rfl ?hr ?_; (case hr => first | (go_simp; done) | (go_simp; rfl)); intro w9 hw_; clear hc_gf hf_gf; have b_ := blk_put Bgf.out 0 (.slice none 0 0) rfl; rw [← hw_] at b_; have c_gl := blk_far Bgl.out (p := ⟨gf, 0, none⟩) NE_gl_gf.out (.slice none 0 0); rw [← hw_] at c_gl; have c_gw := blk_far Bgw.out (p := ⟨gf, 0, none⟩) NE_gw_gf.out (.slice none 0 0); rw [← hw_] at c_gw; have c_gn := blk_far Bgn.out (p := ⟨gf, 0, none⟩) (Ne.symm NE_gf_gn.out) (.slice none 0 0); rw [← hw_] at c_gn; have c_gc := blk_far Bgc.out (p := ⟨gf, 0, none⟩) (Ne.symm NE_gf_gc.out) (.slice none 0 0); rw [← hw_] at c_gc; have d_ := below_set (j := 0) (v := (.slice none 0 0)) HB.out Ggf.out; rw [← hw_] at d_; have r_ := Kd.R_set HO.out Bgf.out (by decide) 0 (.slice none 0 0); rw [← hw_] at r_; replace Bgf := Aside0.mk b_; replace Bgl := Aside0.mk c_gl; replace Bgw := Aside0.mk c_gw; replace Bgn := Aside0.mk c_gn; replace Bgc := Aside0.mk c_gc; replace HB := Aside0.mk d_; replace HO := Aside0.mk r_; clear b_ d_ r_ hw_ c_gl c_gw c_gn c_gc; have hc_gn : w9.cell? ⟨gn, 0, none⟩ = some (.int .i64 0) := (blk_cell Bgn.out 0).trans rfl; have hf_gn := blk_frozen Bgn.out 0)
    | ((with_reducible refine gate_store (p := 7) rfl ?_); refine store_event (w1 := w9.setCell ⟨gn, 0, none⟩ (.int .i64 0)) rfl rfl rfl ?hr ?_; (case hr => first | (go_simp; done) | (go_simp; rfl)); intro w10 hw_; clear hc_gn hf_gn; have b_ := blk_put Bgn.out 0 (.int .i64 0) rfl; rw [← hw_] at b_; have c_gl := blk_far Bgl.out (p := ⟨gn, 0, none⟩) NE_gl_gn.out (.int .i64 0); rw [← hw_] at c_gl; have c_gw := blk_far Bgw.out (p := ⟨gn, 0, none⟩) NE_gw_gn.out (.int .i64 0); rw [← hw_] at c_gw; have c_gf := blk_far Bgf.out (p := ⟨gn, 0, none⟩) NE_gf_gn.out (.int .i64 0); rw [← hw_] at c_gf; have c_gc := blk_far Bgc.out (p := ⟨gn, 0, none⟩) (Ne.symm NE_gn_gc.out) (.int .i64 0); rw [← hw_] at c_gc; have d_ := below_set (j := 0) (v := (.int .i64 0)) HB.out Ggn.out; rw [← hw_] at d_; have r_ := Kd.R_set HO.out Bgn.out (by decide) 0 (.int .i64 0); rw [← hw_] at r_; replace Bgn := Aside0.mk b_; replace Bgl := Aside0.mk c_gl; replace Bgw := Aside0.mk c_gw; replace Bgf := Aside0.mk c_gf; replace Bgc := Aside0.mk c_gc; replace HB := Aside0.mk d_; replace HO := Aside0.mk r_; clear b_ d_ r_ hw_ c_gl c_gw c_gf c_gc; have hc_gc : w10.cell? ⟨gc, 0, none⟩ = some (.int .i64 0) := (blk_cell Bgc.out 0).trans rfl; have hf_gc := blk_frozen Bgc.out 0)
    | ((with_reducible refine gate_store (p := 8) rfl ?_); refine store_event (w1 := w10.setCell ⟨gc, 0, none⟩ (.int .i64 0)) rfl rfl rfl ?hr ?_; (case hr => first | (go_simp; done) | (go_simp; rfl)); intro w11 hw_; clear hc_gc hf_gc; have b_ := blk_put Bgc.out 0 (.int .i64 0) rfl; rw [← hw_] at b_; have c_gl := blk_far Bgl.out (p := ⟨gc, 0, none⟩) NE_gl_gc.out (.int .i64 0); rw [← hw_] at c_gl; have c_gw := blk_far Bgw.out (p := ⟨gc, 0, none⟩) NE_gw_gc.out (.int .i64 0); rw [← hw_] at c_gw; have c_gf := blk_far Bgf.out (p := ⟨gc, 0, none⟩) NE_gf_gc.out (.int .i64 0); rw [← hw_] at c_gf; have c_gn := blk_far Bgn.out (p := ⟨gc, 0, none⟩) NE_gn_gc.out (.int .i64 0); rw [← hw_] at c_gn; have d_ := below_set (j := 0) (v := (.int .i64 0)) HB.out Ggc.out; rw [← hw_] at d_; have r_ := Kd.R_set HO.out Bgc.out (by decide) 0 (.int .i64 0); rw [← hw_] at r_; replace Bgc := Aside0.mk b_; replace Bgl := Aside0.mk c_gl; replace Bgw := Aside0.mk c_gw; replace Bgf := Aside0.mk c_gf; replace Bgn := Aside0.mk c_gn; replace HB := Aside0.mk d_; replace HO := Aside0.mk r_; clear b_ d_ r_ hw_ c_gl c_gw c_gf c_gn)
    | ((with_reducible refine gate_dst (N := 9) rfl ?_); refine box_event ?hg (N := 9) ?hd (cs := #[.nilFunc]) (t := 1) ?hr ?_; (case hd => rfl); (case hg => rfl); (case hr => first | (go_simp; done) | (go_simp; rfl)); intro gp hg_ w12 hbx_ hb; have Ggp := Aside0.mk (show w.heap.size ≤ gp from by rw [hg_]; exact HB.out.size); have NE_gl_gp := Aside0.mk (show gl ≠ gp from by rw [hg_]; exact Nat.ne_of_lt (blk_lt Bgl.out)); have NE_gw_gp := Aside0.mk (show gw ≠ gp from by rw [hg_]; exact Nat.ne_of_lt (blk_lt Bgw.out)); have NE_gf_gp := Aside0.mk (show gf ≠ gp from by rw [hg_]; exact Nat.ne_of_lt (blk_lt Bgf.out)); have NE_gn_gp := Aside0.mk (show gn ≠ gp from by rw [hg_]; exact Nat.ne_of_lt (blk_lt Bgn.out)); have NE_gc_gp := Aside0.mk (show gc ≠ gp from by rw [hg_]; exact Nat.ne_of_lt (blk_lt Bgc.out)); replace Bgl := Aside0.mk (blk_below Bgl.out hb); replace Bgw := Aside0.mk (blk_below Bgw.out hb); replace Bgf := Aside0.mk (blk_below Bgf.out hb); replace Bgn := Aside0.mk (blk_below Bgn.out hb); replace Bgc := Aside0.mk (blk_below Bgc.out hb); replace HO := Aside0.mk (Kd.R_below HO.out hb); replace HB := Aside0.mk (below_step HB.out hb); have Bgp := Aside0.mk hbx_; clear hbx_ hb hg_; have hc_gp : w12.cell? ⟨gp, 0, none⟩ = some (.nilFunc) := (blk_cell Bgp.out 0).trans rfl; have hf_gp := blk_frozen Bgp.out 0)
    | ((with_reducible refine gate_store (p := 9) rfl ?_); refine store_event (w1 := w12.setCell ⟨gp, 0, none⟩ (.func (.func 133) #[] #[.pointer (some ⟨gw, 0, none⟩), .pointer (some ⟨gl, 0, none⟩), .pointer (some ⟨gn, 0, none⟩), .pointer (some ⟨gf, 0, none⟩), .pointer (some ⟨gc, 0, none⟩), .pointer (some ⟨gp, 0, none⟩)])) rfl rfl rfl ?hr ?_; (case hr => first | (go_simp; done) | (go_simp; rfl)); intro w13 hw_; clear hc_gp hf_gp; have b_ := blk_put Bgp.out 0 (.func (.func 133) #[] #[.pointer (some ⟨gw, 0, none⟩), .pointer (some ⟨gl, 0, none⟩), .pointer (some ⟨gn, 0, none⟩), .pointer (some ⟨gf, 0, none⟩), .pointer (some ⟨gc, 0, none⟩), .pointer (some ⟨gp, 0, none⟩)]) rfl; rw [← hw_] at b_; have c_gl := blk_far Bgl.out (p := ⟨gp, 0, none⟩) NE_gl_gp.out (.func (.func 133) #[] #[.pointer (some ⟨gw, 0, none⟩), .pointer (some ⟨gl, 0, none⟩), .pointer (some ⟨gn, 0, none⟩), .pointer (some ⟨gf, 0, none⟩), .pointer (some ⟨gc, 0, none⟩), .pointer (some ⟨gp, 0, none⟩)]); rw [← hw_] at c_gl; have c_gw := blk_far Bgw.out (p := ⟨gp, 0, none⟩) NE_gw_gp.out (.func (.func 133) #[] #[.pointer (some ⟨gw, 0, none⟩), .pointer (some ⟨gl, 0, none⟩), .pointer (some ⟨gn, 0, none⟩), .pointer (some ⟨gf, 0, none⟩), .pointer (some ⟨gc, 0, none⟩), .pointer (some ⟨gp, 0, none⟩)]); rw [← hw_] at c_gw; have c_gf := blk_far Bgf.out (p := ⟨gp, 0, none⟩) NE_gf_gp.out (.func (.func 133) #[] #[.pointer (some ⟨gw, 0, none⟩), .pointer (some ⟨gl, 0, none⟩), .pointer (some ⟨gn, 0, none⟩), .pointer (some ⟨gf, 0, none⟩), .pointer (some ⟨gc, 0, none⟩), .pointer (some ⟨gp, 0, none⟩)]); rw [← hw_] at c_gf; have c_gn := blk_far Bgn.out (p := ⟨gp, 0, none⟩) NE_gn_gp.out (.func (.func 133) #[] #[.pointer (some ⟨gw, 0, none⟩), .pointer (some ⟨gl, 0, none⟩), .pointer (some ⟨gn, 0, none⟩), .pointer (some ⟨gf, 0, none⟩), .pointer (some ⟨gc, 0, none⟩), .pointer (some ⟨gp, 0, none⟩)]); rw [← hw_] at c_gn; have c_gc := blk_far Bgc.out (p := ⟨gp, 0, none⟩) NE_gc_gp.out (.func (.func 133) #[] #[.pointer (some ⟨gw, 0, none⟩), .pointer (some ⟨gl, 0, none⟩), .pointer (some ⟨gn, 0, none⟩), .pointer (some ⟨gf, 0, none⟩), .pointer (some ⟨gc, 0, none⟩), .pointer (some ⟨gp, 0, none⟩)]); rw [← hw_] at c_gc; have d_ := below_set (j := 0) (v := (.func (.func 133) #[] #[.pointer (some ⟨gw, 0, none⟩), .pointer (some ⟨gl, 0, none⟩), .pointer (some ⟨gn, 0, none⟩), .pointer (some ⟨gf, 0, none⟩), .pointer (some ⟨gc, 0, none⟩), .pointer (some ⟨gp, 0, none⟩)])) HB.out Ggp.out; rw [← hw_] at d_; have r_ := Kd.R_set HO.out Bgp.out (by decide) 0 (.func (.func 133) #[] #[.pointer (some ⟨gw, 0, none⟩), .pointer (some ⟨gl, 0, none⟩), .pointer (some ⟨gn, 0, none⟩), .pointer (some ⟨gf, 0, none⟩), .pointer (some ⟨gc, 0, none⟩), .pointer (some ⟨gp, 0, none⟩)]); rw [← hw_] at r_; replace Bgp := Aside0.mk b_; replace Bgl := Aside0.mk c_gl; replace Bgw := Aside0.mk c_gw; replace Bgf := Aside0.mk c_gf; replace Bgn := Aside0.mk c_gn; replace Bgc := Aside0.mk c_gc; replace HB := Aside0.mk d_; replace HO := Aside0.mk r_; clear b_ d_ r_ hw_ c_gl c_gw c_gf c_gn c_gc; have hcp : w13.cell? ⟨gp, 0, none⟩ = some (.func (.func 133) #[] #[.pointer (some ⟨gw, 0, none⟩), .pointer (some ⟨gl, 0, none⟩), .pointer (some ⟨gn, 0, none⟩), .pointer (some ⟨gf, 0, none⟩), .pointer (some ⟨gc, 0, none⟩), .pointer (some ⟨gp, 0, none⟩)]) := (blk_cell Bgp.out 0).trans rfl)
    | (go_at_call 133; refine (impl_Lock_wholes.go_calls gw gl gn gf gc gp a0_0 a0_1 w NE_gw_gf.out NE_gn_gc.out Ggw.out Ggn.out Ggf.out Ggc.out k [c] [] 0 0 (r1, r2, r3) w13 (.slice A12 1 c12) (.slice none 0 0) HB.out ⟨Bgw.out, Bgl.out, Bgn.out, Bgf.out, Bgc.out, Bgp.out, Kd.R_mono HO.out (fun _ _ => by simp [Value.ownBlock]), Kd.R_nil _ _ _ _ _, fun _ => rfl⟩ H.out).mono ?_; rintro e w14 ⟨rfl, vw', vf', hs_, hb_, hk_, hat_⟩; clear hcp; have HS := Aside0.mk hs_; replace HB := Aside0.mk hb_; clear hs_ hb_ hk_ hat_; have hcf := HS.out.cf; have hcn := HS.out.cn; have hcc := HS.out.cc))
  refine start_ (n := 6) (S := fun w' => w'.cell? ⟨gf, 0, none⟩ = some vf' ∧ w'.cell? ⟨gn, 0, none⟩ = some (.int .i64 r2) ∧ w'.cell? ⟨gc, 0, none⟩ = some (.int .i64 r3)) (ds := []) #[false, false, false, false, false, false] (by kernel_rfl) rfl rfl ⟨hcf, hcn, hcc⟩ (fun hHeld => ?_)
  clear hcf hcn hcc
  have hb := below_drew1 (Below.refl w14.heap.size w14)
  replace HS := Aside0.mk (HS.out.below hb)
  replace HB := Aside0.mk (below_step HB.out hb)
  clear hb
  generalize w14.drew = wd at HS HB hHeld ⊢
  refine take_ (i := 0) (N := some 16) (v := ?_) (a' := ?_) #[true, false, false, false, false, false] rfl rfl (by kernel_rfl) (fun _ _ _ h => h) (Or.inl ⟨by rfl, ?_⟩) hHeld ?_ ?_
  rotate_left
  · rintro w' ⟨s0, s1, s2⟩
    go_simp
    with_reducible rfl
  rotate_left
  · simp only [Act.put, List.setIfInBounds_toArray, List.set_cons_zero, List.set_cons_succ, i64_w, i32_w]
    rfl
  refine pure_ (i := 3) (N := some 2) (v := ?_) (a' := ?_) #[true, false, false, true, false, false] rfl rfl (by kernel_rfl) (fun _ _ _ h => h) (Or.inl ⟨by rfl, ?_⟩) ?_ ?_
  rotate_left
  · intro w'
    go_simp
    with_reducible rfl
  rotate_left
  · simp only [Act.put, List.setIfInBounds_toArray, List.set_cons_zero, List.set_cons_succ, i64_w, i32_w]
    rfl
  refine take_ (i := 1) (N := some 17) (v := ?_) (a' := ?_) #[true, true, false, true, false, false] rfl rfl (by kernel_rfl) (fun _ _ _ h => h) (Or.inl ⟨by rfl, ?_⟩) hHeld ?_ ?_
  rotate_left
  · rintro w' ⟨s0, s1, s2⟩
    go_simp
    with_reducible rfl
  rotate_left
  · simp only [Act.put, List.setIfInBounds_toArray, List.set_cons_zero, List.set_cons_succ, i64_w, i32_w]
    rfl
  refine pure_ (i := 4) (N := some 3) (v := ?_) (a' := ?_) #[true, true, false, true, true, false] rfl rfl (by kernel_rfl) (fun _ _ _ h => h) (Or.inl ⟨by rfl, ?_⟩) ?_ ?_
  rotate_left
  · intro w'
    go_simp
    with_reducible rfl
  rotate_left
  · simp only [Act.put, List.setIfInBounds_toArray, List.set_cons_zero, List.set_cons_succ, i64_w, i32_w]
    rfl
  refine take_ (i := 2) (N := some 18) (v := ?_) (a' := ?_) #[true, true, true, true, true, false] rfl rfl (by kernel_rfl) (fun _ _ _ h => h) (Or.inl ⟨by rfl, ?_⟩) hHeld ?_ ?_
  rotate_left
  · rintro w' ⟨s0, s1, s2⟩
    go_simp
    with_reducible rfl
  rotate_left
  · simp only [Act.put, List.setIfInBounds_toArray, List.set_cons_zero, List.set_cons_succ, i64_w, i32_w]
    rfl
  refine pure_ (i := 5) (N := some 4) (v := ?_) (a' := ?_) #[true, true, true, true, true, true] rfl rfl (by kernel_rfl) (fun _ _ _ h => h) (Or.inl ⟨by rfl, ?_⟩) ?_ ?_
  rotate_left
  · intro w'
    go_simp
    with_reducible rfl
  rotate_left
  · simp only [Act.put, List.setIfInBounds_toArray, List.set_cons_zero, List.set_cons_succ, i64_w, i32_w]
    rfl
  refine done_ (by kernel_rfl) ?_
  try go_wp2
  go_ret3
  exact ⟨_, rfl, Kd.R_mono HS.out.rf_ (fun _ _ => trivial), HB.out⟩


end Go.Proofs.Ytihhiolflbieaaa.P
