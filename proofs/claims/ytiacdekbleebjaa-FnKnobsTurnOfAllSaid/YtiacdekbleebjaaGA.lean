/- For the rows of laws over gears (a struct of a struct of two numbers and rows of numbers): such an argument, opened. No conditions. -/
import Derived.Test.YtiacdekbleebjaaPx0
import Derived.Deep.Matrix
import Derived.Lib.SmallJoins
namespace Go.Proofs.Ytiacdekbleebjaa.GA
open Go.ChangeShapes Go.WideShapes Go.RowKit Go.Proofs.YtiacdekbleebjaaW.PrintWords
theorem open_rows {H : Type} {enc : TypeId × Value → H} {P : Program} {W : World} {base : Nat} {held : Bool} {t e q : TypeId} {fuel : Nat} {cs : List Value} {x : DataW H × List MemPlace} (ht : P.underlying t = some (.slice e)) (he : P.underlying e = some (.slice q)) (hq : P.underlying q = some (.int .i64)) (ce : P.cellsOf e = 1) (cq : P.cellsOf q = 1)
    (h : DataW.trod enc P W base (fun _ => true) held fuel t cs = some x) :
    ∃ (A : Option Addr) (c : Nat) (l : List (List Int)), cs = [.slice A l.length c] ∧ l.length ≤ c ∧ Kd.C (Kd.slice q (Kd.int .i64)) W A l.length l ∧ l.length ≤ 9223372036854775807 ∧ ∀ r ∈ l, r.length ≤ 9223372036854775807 := by
  rcases Deep.open_int_rows ht he hq ce cq h with ⟨hcs, _⟩ | ⟨a, len, cap, A, L, C, Z, hcs, _, hl, hm, _, hr⟩
  · exact ⟨none, 0, [], hcs, Nat.le_refl _, Kd.C_nil _ _, by simp, by simp⟩
  · have hm' : cap ≤ 9223372036854775807 := hm
    have ln : ∀ r, r < cap → ((Z r).take (L r)).length = L r := fun r hr' => by
      obtain ⟨_, h1, _, h3, _⟩ := hr r hr'
      rw [List.length_take]; omega
    have le : ((List.range len).map fun r => (Z r).take (L r)).length = len := by simp
    refine ⟨some a, cap, (List.range len).map fun r => (Z r).take (L r), by rw [le]; exact hcs, by rw [le]; exact hl, ?_, by rw [le]; omega, ?_⟩
    · rw [le]
      refine ⟨le, by omega, fun _ => ⟨a, rfl, fun j p hj => ?_⟩⟩
      obtain ⟨hjl, hp⟩ := List.getElem?_eq_some_iff.1 hj
      rw [le] at hjl
      rw [List.getElem_map, List.getElem_range] at hp
      subst hp
      obtain ⟨hc, h1, h2, h3, _, h5, h6⟩ := hr j (by omega)
      refine ⟨[.slice (A j) (L j) (C j)], rfl, ⟨A j, C j, by rw [ln j (by omega)], by rw [ln j (by omega)]; exact h1, ?_⟩, fun i u hu => ?_⟩
      · rw [ln j (by omega)]
        cases hA : A j with
        | none =>
          have z := h5 hA
          have e0 : L j = 0 := by omega
          rw [e0, List.take_zero]
          exact Kd.C_nil _ _
        | some a' =>
          have h2' : C j ≤ 9223372036854775807 := h2
          refine Kd.C_of_reads (d := (0 : Int)) ⟨ln j (by omega), by omega, fun _ => ⟨a', rfl, fun i hi => ?_⟩⟩
          rw [(h6 a' hA).2 i (by omega)]
          congr 2
          rw [List.getD_eq_getElem?_getD, List.getD_eq_getElem?_getD, List.getElem?_take, if_pos hi]
      · cases i with
        | zero =>
          have : Value.slice (A j) (L j) (C j) = u := by simpa using hu
          subst this
          show W.cell? (a.add (j * 1 + 0)) = _
          rw [Nat.mul_one, Nat.add_zero]
          exact hc
        | succ i => simp at hu
    · intro r hr'
      obtain ⟨j, hj, rfl⟩ := List.mem_map.mp hr'
      have hj' := List.mem_range.mp hj
      obtain ⟨_, h1, h2, _⟩ := hr j (by omega)
      have h2' : C j ≤ 9223372036854775807 := h2
      rw [ln j (by omega)]; omega
theorem open_list {H : Type} {enc : TypeId × Value → H} {P : Program} {W : World} {base : Nat} {held : Bool} {t e : TypeId} {A : Option Addr} {len cap : Nat} {d : DataW H} {p : List MemPlace} (ht : P.underlying t = some (.slice e)) (he : P.underlying e = some (.int .i64)) (hc : P.cellsOf e = 1)
    (h : DataW.Trod enc P W base (fun _ => true) held t (.slice A len cap) d p) : ∃ l : List Int, len = l.length ∧ Kd.C (Kd.int .i64) W A l.length l ∧ l.length ≤ cap ∧ l.length ≤ 9223372036854775807 := by
  obtain ⟨fuel, hf⟩ := h
  rcases open_ints ht he hc hf with ⟨hcs, _⟩ | ⟨x, l, c, zs, hcs, _, hl, hm, hz, _, hcell, _⟩
  · simp [Value.cells] at hcs
    obtain ⟨rfl, rfl, rfl⟩ := hcs
    exact ⟨[], rfl, Kd.C_nil _ _, Nat.le_refl _, by simp⟩
  · simp [Value.cells] at hcs
    obtain ⟨rfl, rfl, rfl⟩ := hcs
    have hm' : cap ≤ 9223372036854775807 := hm
    simp only [if_true] at hz
    have le : (zs.take len).length = len := by rw [List.length_take]; omega
    refine ⟨zs.take len, le.symm, ?_, by omega, by omega⟩
    rw [le]
    refine Kd.C_of_reads (d := (0 : Int)) ⟨le, by omega, fun _ => ⟨x, rfl, fun i hi => ?_⟩⟩
    rw [hcell i (by omega)]
    congr 2
    rw [List.getD_eq_getElem?_getD, List.getD_eq_getElem?_getD, List.getElem?_take, if_pos hi]
theorem open_gears {H : Type} {enc : TypeId × Value → H} {P : Program} {W : World} {base : Nat} {held : Bool} {r : Reach} {b0 : Nat} {t : TypeId} {f0 f1 g0 g1 : Field} {e q : TypeId} {v : Value} {d : DataW H} {p : List MemPlace}
    (hs : P.underlying t = some (.struct #[f0, f1])) (hC : P.cellsOf t = 3) (o0 : f0.offset = 0) (o1 : f1.offset = 2) (hs0 : P.underlying f0.type = some (.struct #[g0, g1])) (hC0 : P.cellsOf f0.type = 2) (p0 : g0.offset = 0) (q0 : P.cellsOf g0.type = 1) (p1 : g1.offset = 1) (q1 : P.cellsOf g1.type = 1) (hC1 : P.cellsOf f1.type = 1)
    (u0 : P.underlying g0.type = some (.int .i64)) (u1 : P.underlying g1.type = some (.int .i64)) (ht : P.underlying f1.type = some (.slice e)) (he : P.underlying e = some (.slice q)) (hq : P.underlying q = some (.int .i64)) (ce : P.cellsOf e = 1) (cq : P.cellsOf q = 1)
    (hv : Value.okWide P W r b0 t v) (h : DataW.Trod enc P W base (fun _ => true) held t v d p) :
    ∃ (a0 a1 : Int) (A : Option Addr) (c : Nat) (l : List (List Int)), v = .agg #[.int .i64 a0, .int .i64 a1, .slice A l.length c] ∧ (Lit.int .i64 a0).wf = true ∧ (Lit.int .i64 a1).wf = true ∧ l.length ≤ c ∧ Kd.C (Kd.slice q (Kd.int .i64)) W A l.length l ∧ l.length ≤ 9223372036854775807 ∧ ∀ r ∈ l, r.length ≤ 9223372036854775807 := by
  obtain ⟨cs, rfl, hsz⟩ := okWide_struct hs hv
  obtain ⟨c0, c1, c2, rfl⟩ := Joins.array3 (hsz.trans hC)
  obtain ⟨fuel, hf⟩ := h
  obtain ⟨y0, y1, n, _, _, h0, h1⟩ := trod_struct2 hs hf
  rw [o0, hC0] at h0
  rw [o1, hC1] at h1
  have h0' : DataW.trod enc P W base (fun _ => true) held n f0.type [c0, c1] = some y0 := by simpa [Value.cells] using h0
  have h1' : DataW.trod enc P W base (fun _ => true) held n f1.type [c2] = some y1 := by simpa [Value.cells] using h1
  obtain ⟨z0, z1, n2, _, _, k0, k1⟩ := trod_struct2 hs0 h0'
  rw [p0, q0] at k0
  rw [p1, q1] at k1
  obtain ⟨a0, e0, _, w0⟩ := DataW.trod_int u0 k0
  obtain ⟨a1, e1, _, w1⟩ := DataW.trod_int u1 k1
  have e0' : c0 = .int .i64 a0 := by simpa using e0
  have e1' : c1 = .int .i64 a1 := by simpa using e1
  obtain ⟨A, c, l, ecs, hlc, hcc, hl, hr⟩ := open_rows ht he hq ce cq h1'
  have e2' : c2 = .slice A l.length c := by simpa using ecs
  subst e0' e1' e2'
  exact ⟨a0, a1, A, c, l, rfl, w0, w1, hlc, hcc, hl, hr⟩
end Go.Proofs.Ytiacdekbleebjaa.GA
