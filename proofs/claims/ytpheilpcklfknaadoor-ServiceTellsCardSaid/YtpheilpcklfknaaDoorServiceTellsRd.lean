/-
  What is handed in, opened. No condition.
-/
import Derived.Test.YtpheilpcklfknaaDoorServiceTellsFct
import Derived.Test.YtpheilpcklfknaaDoorBOpen
namespace Go.Proofs.YtpheilpcklfknaaDoor
open Go Go.RowKit
set_option linter.unusedVariables false
set_option linter.unusedSimpArgs false
set_option linter.unnecessarySimpa false
open Go.ChangeShapes Go.WideShapes Go.ChangeAt
theorem G_anon_7_rd {H : Type} {enc : TypeId × Value → H} {W : World} : ∀ cs, Rd enc Tryd.prog W 7 cs → ∃ x : G_anon_7, cs = el_G_anon_7.f x ∧ G_anon_7_wf x := by
  intro cs h
  have hl := h.struct Tryd.underlying7 (n := 4) (by kernel_rfl)
  have g0 := h.field Tryd.underlying7 (i := 0) (t' := 2) (o := 0) (m := 1) rfl (by kernel_rfl)
  obtain ⟨x0, e0, w0⟩ := g0.i64 Tryd.underlying2
  have g1 := h.field Tryd.underlying7 (i := 1) (t' := 3) (o := 1) (m := 1) rfl (by kernel_rfl)
  obtain ⟨x1, e1, w1⟩ := g1.i64 Tryd.underlying3
  have g2 := h.field Tryd.underlying7 (i := 2) (t' := 4) (o := 2) (m := 1) rfl (by kernel_rfl)
  obtain ⟨x2, e2⟩ := g2.bool Tryd.underlying4
  have g3 := h.field Tryd.underlying7 (i := 3) (t' := 6) (o := 3) (m := 1) rfl (by kernel_rfl)
  obtain ⟨x3, e3⟩ := g3.u8 Tryd.underlying6
  have e : cs = cs.drop 0 := rfl
  rw [drop_part cs 0 1 e0, drop_part cs 1 1 e1, drop_part cs 2 1 e2, drop_part cs 3 1 e3, List.drop_of_length_le (by rw [hl]; decide)] at e
  exact ⟨⟨x0, x1, x2, x3⟩, e.trans (by simp [el_G_anon_7]), ⟨w0, w1⟩⟩
theorem G_runtime_boundsError_rd {H : Type} {enc : TypeId × Value → H} {W : World} : ∀ cs, Rd enc Tryd.prog W 8 cs → ∃ x : G_runtime_boundsError, cs = el_G_runtime_boundsError.f x ∧ G_runtime_boundsError_wf x := by
  intro cs h
  have hl := h.struct Tryd.underlying8 (n := 4) (by kernel_rfl)
  have g0 := h.field Tryd.underlying8 (i := 0) (t' := 2) (o := 0) (m := 1) rfl (by kernel_rfl)
  obtain ⟨x0, e0, w0⟩ := g0.i64 Tryd.underlying2
  have g1 := h.field Tryd.underlying8 (i := 1) (t' := 3) (o := 1) (m := 1) rfl (by kernel_rfl)
  obtain ⟨x1, e1, w1⟩ := g1.i64 Tryd.underlying3
  have g2 := h.field Tryd.underlying8 (i := 2) (t' := 4) (o := 2) (m := 1) rfl (by kernel_rfl)
  obtain ⟨x2, e2⟩ := g2.bool Tryd.underlying4
  have g3 := h.field Tryd.underlying8 (i := 3) (t' := 6) (o := 3) (m := 1) rfl (by kernel_rfl)
  obtain ⟨x3, e3⟩ := g3.u8 Tryd.underlying6
  have e : cs = cs.drop 0 := rfl
  rw [drop_part cs 0 1 e0, drop_part cs 1 1 e1, drop_part cs 2 1 e2, drop_part cs 3 1 e3, List.drop_of_length_le (by rw [hl]; decide)] at e
  exact ⟨⟨x0, x1, x2, x3⟩, e.trans (by simp [el_G_runtime_boundsError]), ⟨w0, w1⟩⟩
theorem G_anon_13_rd {H : Type} {enc : TypeId × Value → H} {W : World} : ∀ cs, Rd enc Tryd.prog W 13 cs → ∃ x : G_anon_13, cs = el_G_anon_13.f x ∧ G_anon_13_wf x := by
  intro cs h
  have hl := h.struct Tryd.underlying13 (n := 2) (by kernel_rfl)
  have g0 := h.field Tryd.underlying13 (i := 0) (t' := 9) (o := 0) (m := 1) rfl (by kernel_rfl)
  obtain ⟨x0, e0, w0⟩ := g0.str Tryd.underlying9
  have g1 := h.field Tryd.underlying13 (i := 1) (t' := 12) (o := 1) (m := 1) rfl (by kernel_rfl)
  obtain ⟨x1, e1⟩ := g1.u64 Tryd.underlying12
  have e : cs = cs.drop 0 := rfl
  rw [drop_part cs 0 1 e0, drop_part cs 1 1 e1, List.drop_of_length_le (by rw [hl]; decide)] at e
  exact ⟨⟨x0, x1⟩, e.trans (by simp [el_G_anon_13]), w0⟩
theorem G_runtime_errorAddressString_rd {H : Type} {enc : TypeId × Value → H} {W : World} : ∀ cs, Rd enc Tryd.prog W 14 cs → ∃ x : G_runtime_errorAddressString, cs = el_G_runtime_errorAddressString.f x ∧ G_runtime_errorAddressString_wf x := by
  intro cs h
  have hl := h.struct Tryd.underlying14 (n := 2) (by kernel_rfl)
  have g0 := h.field Tryd.underlying14 (i := 0) (t' := 9) (o := 0) (m := 1) rfl (by kernel_rfl)
  obtain ⟨x0, e0, w0⟩ := g0.str Tryd.underlying9
  have g1 := h.field Tryd.underlying14 (i := 1) (t' := 12) (o := 1) (m := 1) rfl (by kernel_rfl)
  obtain ⟨x1, e1⟩ := g1.u64 Tryd.underlying12
  have e : cs = cs.drop 0 := rfl
  rw [drop_part cs 0 1 e0, drop_part cs 1 1 e1, List.drop_of_length_le (by rw [hl]; decide)] at e
  exact ⟨⟨x0, x1⟩, e.trans (by simp [el_G_runtime_errorAddressString]), w0⟩
end Go.Proofs.YtpheilpcklfknaaDoor
