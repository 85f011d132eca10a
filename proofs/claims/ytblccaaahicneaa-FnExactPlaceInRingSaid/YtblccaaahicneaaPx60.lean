-- Texts of this session's own program (wip/dr.py), which runs the kit's printer.
import Derived.Test.YtblccaaahicneaaPx0
namespace Go.Proofs.Ytblccaaahicneaa.P
open Go.RowKit Go.Proofs.YtblccaaahicneaaW.PrintWords Go.Proofs.YtblccaaahicneaaW.PrintLast Go.Proofs.YtblccaaahicneaaW.PrintMore
attribute [local go_sem] max2_int min2_int max_two min_two max_three min_three max_four min_four   -- for this text's walks alone
set_option linter.unusedVariables false
set_option linter.unusedSimpArgs false

/-! ### strings_Index: function 58 (a text of our own) -/
/-- The library's own variable that tells how long a text may be looked for at once: some whole number. -/
def strings_Index.Gl (w : World) : Prop := ∃ m, w.cell? ⟨0, 0, none⟩ = some (.int .i64 m)
theorem strings_Index.gl_below {w W : World} (h : strings_Index.Gl w) (hb : Below w.heap.size w W) : strings_Index.Gl W := by
  obtain ⟨m, hm⟩ := h
  exact ⟨m, (hb.cell (p := ⟨0, 0, none⟩) (World.block_lt_of_cell? _ _ hm)).trans hm⟩
theorem strings_Index.gl_shaped (w : World) (h : w.ShapedOpen Try.prog) : strings_Index.Gl w := Try.laysM143.s1_3 w h
def strings_Index.f (a0 : ByteArray) (a1 : ByteArray) : Option (Int) := if a0.size < 4294967281 then some (Lib.index a0.data.toList a1.data.toList) else none
theorem strings_Index.calls (a0 : ByteArray) (a1 : ByteArray) (r : Int) (w : World) (hG : strings_Index.Gl w) (h : strings_Index.f a0 a1 = some r) :
    Calls Try.prog 58 #[.string a0, .string a1] w fun e w' => e = .returned (.int .i64 r) ∧ Drawn0 w w' := by
  unfold strings_Index.f at h
  obtain ⟨m, hm⟩ := hG
  by_cases hs : a0.size < 4294967281
  · rw [if_pos hs] at h
    obtain rfl := Option.some.inj h
    exact (Try.strings_Index a0 a1 m w hs hm).mono fun e w' ⟨he, hw⟩ => ⟨he, by rw [hw]; exact Drawn0.refl _⟩
  · rw [if_neg hs] at h; exact absurd h (by simp)


end Go.Proofs.Ytblccaaahicneaa.P
