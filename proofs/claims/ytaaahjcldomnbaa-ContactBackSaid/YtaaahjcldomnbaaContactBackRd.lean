/-
  What is handed in, opened. No condition.
-/
import Derived.Test.YtaaahjcldomnbaaContactBackFct
import Derived.Test.YtaaahjcldomnbaaBOpen
namespace Go.Proofs.Ytaaahjcldomnbaa
open Go Go.RowKit
set_option linter.unusedVariables false
set_option linter.unusedSimpArgs false
set_option linter.unnecessarySimpa false
open Go.ChangeShapes Go.WideShapes Go.ChangeAt
theorem G_api_Addr_rd {H : Type} {enc : TypeId × Value → H} {W : World} : ∀ cs, Rd enc Try.prog W 58 cs → ∃ x : G_api_Addr, cs = el_G_api_Addr.f x ∧ G_api_Addr_wf x := by
  intro cs h
  have hl := h.struct Try.underlying58 (n := 2) (by kernel_rfl)
  have g0 := h.field Try.underlying58 (i := 0) (t' := 41) (o := 0) (m := 1) rfl (by kernel_rfl)
  obtain ⟨x0, e0⟩ := g0.u32 Try.underlying41
  have g1 := h.field Try.underlying58 (i := 1) (t' := 56) (o := 1) (m := 1) rfl (by kernel_rfl)
  obtain ⟨x1, e1⟩ := g1.u16 Try.underlying56
  have e : cs = cs.drop 0 := rfl
  rw [drop_part cs 0 1 e0, drop_part cs 1 1 e1, List.drop_of_length_le (by rw [hl]; decide)] at e
  exact ⟨⟨x0, x1⟩, e.trans (by simp [el_G_api_Addr]), trivial⟩
theorem G_api_Contact_rd {H : Type} {enc : TypeId × Value → H} {W : World} : ∀ cs, Rd enc Try.prog W 60 cs → ∃ x : G_api_Contact, cs = el_G_api_Contact.f x ∧ G_api_Contact_wf x := by
  intro cs h
  have hl := h.struct Try.underlying60 (n := 22) (by kernel_rfl)
  have g0 := h.field Try.underlying60 (i := 0) (t' := 55) (o := 0) (m := 20) rfl (by kernel_rfl)
  obtain ⟨x0, e0⟩ := g0.arr Try.underlying55 Try.underlying5 (by kernel_rfl) (by kernel_rfl)
  have g1 := h.field Try.underlying60 (i := 1) (t' := 58) (o := 20) (m := 2) rfl (by kernel_rfl)
  obtain ⟨x1, e1, w1⟩ := G_api_Addr_rd _ g1
  have e : cs = cs.drop 0 := rfl
  rw [drop_part cs 0 20 e0, drop_part cs 20 2 e1, List.drop_of_length_le (by rw [hl]; decide)] at e
  exact ⟨⟨x0, x1⟩, e.trans (by simp [el_G_api_Contact, el_G_api_Addr]), w1⟩
theorem G_signpostref06_Addr_rd {H : Type} {enc : TypeId × Value → H} {W : World} : ∀ cs, Rd enc Try.prog W 64 cs → ∃ x : G_signpostref06_Addr, cs = el_G_signpostref06_Addr.f x ∧ G_signpostref06_Addr_wf x := by
  intro cs h
  have hl := h.struct Try.underlying64 (n := 2) (by kernel_rfl)
  have g0 := h.field Try.underlying64 (i := 0) (t' := 41) (o := 0) (m := 1) rfl (by kernel_rfl)
  obtain ⟨x0, e0⟩ := g0.u32 Try.underlying41
  have g1 := h.field Try.underlying64 (i := 1) (t' := 56) (o := 1) (m := 1) rfl (by kernel_rfl)
  obtain ⟨x1, e1⟩ := g1.u16 Try.underlying56
  have e : cs = cs.drop 0 := rfl
  rw [drop_part cs 0 1 e0, drop_part cs 1 1 e1, List.drop_of_length_le (by rw [hl]; decide)] at e
  exact ⟨⟨x0, x1⟩, e.trans (by simp [el_G_signpostref06_Addr]), trivial⟩
theorem G_signpostref08_Contact_rd {H : Type} {enc : TypeId × Value → H} {W : World} : ∀ cs, Rd enc Try.prog W 66 cs → ∃ x : G_signpostref08_Contact, cs = el_G_signpostref08_Contact.f x ∧ G_signpostref08_Contact_wf x := by
  intro cs h
  have hl := h.struct Try.underlying66 (n := 22) (by kernel_rfl)
  have g0 := h.field Try.underlying66 (i := 0) (t' := 63) (o := 0) (m := 20) rfl (by kernel_rfl)
  obtain ⟨x0, e0⟩ := g0.arr Try.underlying63 Try.underlying5 (by kernel_rfl) (by kernel_rfl)
  have g1 := h.field Try.underlying66 (i := 1) (t' := 64) (o := 20) (m := 2) rfl (by kernel_rfl)
  obtain ⟨x1, e1, w1⟩ := G_signpostref06_Addr_rd _ g1
  have e : cs = cs.drop 0 := rfl
  rw [drop_part cs 0 20 e0, drop_part cs 20 2 e1, List.drop_of_length_le (by rw [hl]; decide)] at e
  exact ⟨⟨x0, x1⟩, e.trans (by simp [el_G_signpostref08_Contact, el_G_signpostref06_Addr]), w1⟩
end Go.Proofs.Ytaaahjcldomnbaa
