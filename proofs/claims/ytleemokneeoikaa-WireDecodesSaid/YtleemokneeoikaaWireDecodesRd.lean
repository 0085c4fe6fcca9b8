/-
  What is handed in, opened. No condition.
-/
import Derived.Test.YtleemokneeoikaaWireDecodesFct
import Derived.Test.YtleemokneeoikaaBOpen
namespace Go.Proofs.Ytleemokneeoikaa
open Go Go.RowKit
set_option linter.unusedVariables false
set_option linter.unusedSimpArgs false
set_option linter.unnecessarySimpa false
open Go.ChangeShapes Go.WideShapes Go.ChangeAt
theorem G_api_Addr_rd {H : Type} {enc : TypeId × Value → H} {W : World} : ∀ cs, Rd enc Try.prog W 65 cs → ∃ x : G_api_Addr, cs = el_G_api_Addr.f x ∧ G_api_Addr_wf x := by
  intro cs h
  have hl := h.struct Try.underlying65 (n := 2) (by kernel_rfl)
  have g0 := h.field Try.underlying65 (i := 0) (t' := 22) (o := 0) (m := 1) rfl (by kernel_rfl)
  obtain ⟨x0, e0⟩ := g0.u32 Try.underlying22
  have g1 := h.field Try.underlying65 (i := 1) (t' := 63) (o := 1) (m := 1) rfl (by kernel_rfl)
  obtain ⟨x1, e1⟩ := g1.u16 Try.underlying63
  have e : cs = cs.drop 0 := rfl
  rw [drop_part cs 0 1 e0, drop_part cs 1 1 e1, List.drop_of_length_le (by rw [hl]; decide)] at e
  exact ⟨⟨x0, x1⟩, e.trans (by simp [el_G_api_Addr]), trivial⟩
theorem G_api_Contact_rd {H : Type} {enc : TypeId × Value → H} {W : World} : ∀ cs, Rd enc Try.prog W 67 cs → ∃ x : G_api_Contact, cs = el_G_api_Contact.f x ∧ G_api_Contact_wf x := by
  intro cs h
  have hl := h.struct Try.underlying67 (n := 22) (by kernel_rfl)
  have g0 := h.field Try.underlying67 (i := 0) (t' := 24) (o := 0) (m := 20) rfl (by kernel_rfl)
  obtain ⟨x0, e0⟩ := g0.arr Try.underlying24 Try.underlying5 (by kernel_rfl) (by kernel_rfl)
  have g1 := h.field Try.underlying67 (i := 1) (t' := 65) (o := 20) (m := 2) rfl (by kernel_rfl)
  obtain ⟨x1, e1, w1⟩ := G_api_Addr_rd _ g1
  have e : cs = cs.drop 0 := rfl
  rw [drop_part cs 0 20 e0, drop_part cs 20 2 e1, List.drop_of_length_le (by rw [hl]; decide)] at e
  exact ⟨⟨x0, x1⟩, e.trans (by simp [el_G_api_Contact, el_G_api_Addr]), w1⟩
theorem G_api_Instance_rd {H : Type} {enc : TypeId × Value → H} {W : World} : ∀ cs, Rd enc Try.prog W 70 cs → ∃ x : G_api_Instance, cs = el_G_api_Instance.f x ∧ G_api_Instance_wf x := by
  intro cs h
  have hl := h.struct Try.underlying70 (n := 28) (by kernel_rfl)
  have g0 := h.field Try.underlying70 (i := 0) (t' := 24) (o := 0) (m := 20) rfl (by kernel_rfl)
  obtain ⟨x0, e0⟩ := g0.arr Try.underlying24 Try.underlying5 (by kernel_rfl) (by kernel_rfl)
  have g1 := h.field Try.underlying70 (i := 1) (t' := 53) (o := 20) (m := 1) rfl (by kernel_rfl)
  obtain ⟨x1, e1⟩ := g1.u64 Try.underlying53
  have g2 := h.field Try.underlying70 (i := 2) (t' := 53) (o := 21) (m := 1) rfl (by kernel_rfl)
  obtain ⟨x2, e2⟩ := g2.u64 Try.underlying53
  have g3 := h.field Try.underlying70 (i := 3) (t' := 22) (o := 22) (m := 1) rfl (by kernel_rfl)
  obtain ⟨x3, e3⟩ := g3.u32 Try.underlying22
  have g4 := h.field Try.underlying70 (i := 4) (t' := 4) (o := 23) (m := 1) rfl (by kernel_rfl)
  obtain ⟨x4, e4⟩ := g4.bool Try.underlying4
  have g5 := h.field Try.underlying70 (i := 5) (t' := 63) (o := 24) (m := 1) rfl (by kernel_rfl)
  obtain ⟨x5, e5⟩ := g5.u16 Try.underlying63
  have g6 := h.field Try.underlying70 (i := 6) (t' := 63) (o := 25) (m := 1) rfl (by kernel_rfl)
  obtain ⟨x6, e6⟩ := g6.u16 Try.underlying63
  have g7 := h.field Try.underlying70 (i := 7) (t' := 63) (o := 26) (m := 1) rfl (by kernel_rfl)
  obtain ⟨x7, e7⟩ := g7.u16 Try.underlying63
  have g8 := h.field Try.underlying70 (i := 8) (t' := 9) (o := 27) (m := 1) rfl (by kernel_rfl)
  obtain ⟨x8, e8, w8⟩ := g8.str Try.underlying9
  have e : cs = cs.drop 0 := rfl
  rw [drop_part cs 0 20 e0, drop_part cs 20 1 e1, drop_part cs 21 1 e2, drop_part cs 22 1 e3, drop_part cs 23 1 e4, drop_part cs 24 1 e5, drop_part cs 25 1 e6, drop_part cs 26 1 e7, drop_part cs 27 1 e8, List.drop_of_length_le (by rw [hl]; decide)] at e
  exact ⟨⟨x0, x1, x2, x3, x4, x5, x6, x7, x8⟩, e.trans (by simp [el_G_api_Instance]), w8⟩
theorem G_wire_parts_rd {H : Type} {enc : TypeId × Value → H} {W : World} : ∀ cs, Rd enc Try.prog W 49 cs → ∃ x : G_wire_parts, cs = el_G_wire_parts.f x ∧ G_wire_parts_wf x := by
  intro cs h
  have hl := h.struct Try.underlying49 (n := 3) (by kernel_rfl)
  have g0 := h.field Try.underlying49 (i := 0) (t' := 4) (o := 0) (m := 1) rfl (by kernel_rfl)
  obtain ⟨x0, e0⟩ := g0.bool Try.underlying4
  have g1 := h.field Try.underlying49 (i := 1) (t' := 4) (o := 1) (m := 1) rfl (by kernel_rfl)
  obtain ⟨x1, e1⟩ := g1.bool Try.underlying4
  have g2 := h.field Try.underlying49 (i := 2) (t' := 4) (o := 2) (m := 1) rfl (by kernel_rfl)
  obtain ⟨x2, e2⟩ := g2.bool Try.underlying4
  have e : cs = cs.drop 0 := rfl
  rw [drop_part cs 0 1 e0, drop_part cs 1 1 e1, drop_part cs 2 1 e2, List.drop_of_length_le (by rw [hl]; decide)] at e
  exact ⟨⟨x0, x1, x2⟩, e.trans (by simp [el_G_wire_parts]), trivial⟩
theorem G_signpostref06_Addr_rd {H : Type} {enc : TypeId × Value → H} {W : World} : ∀ cs, Rd enc Try.prog W 93 cs → ∃ x : G_signpostref06_Addr, cs = el_G_signpostref06_Addr.f x ∧ G_signpostref06_Addr_wf x := by
  intro cs h
  have hl := h.struct Try.underlying93 (n := 2) (by kernel_rfl)
  have g0 := h.field Try.underlying93 (i := 0) (t' := 22) (o := 0) (m := 1) rfl (by kernel_rfl)
  obtain ⟨x0, e0⟩ := g0.u32 Try.underlying22
  have g1 := h.field Try.underlying93 (i := 1) (t' := 63) (o := 1) (m := 1) rfl (by kernel_rfl)
  obtain ⟨x1, e1⟩ := g1.u16 Try.underlying63
  have e : cs = cs.drop 0 := rfl
  rw [drop_part cs 0 1 e0, drop_part cs 1 1 e1, List.drop_of_length_le (by rw [hl]; decide)] at e
  exact ⟨⟨x0, x1⟩, e.trans (by simp [el_G_signpostref06_Addr]), trivial⟩
theorem G_signpostref08_Contact_rd {H : Type} {enc : TypeId × Value → H} {W : World} : ∀ cs, Rd enc Try.prog W 95 cs → ∃ x : G_signpostref08_Contact, cs = el_G_signpostref08_Contact.f x ∧ G_signpostref08_Contact_wf x := by
  intro cs h
  have hl := h.struct Try.underlying95 (n := 22) (by kernel_rfl)
  have g0 := h.field Try.underlying95 (i := 0) (t' := 92) (o := 0) (m := 20) rfl (by kernel_rfl)
  obtain ⟨x0, e0⟩ := g0.arr Try.underlying92 Try.underlying5 (by kernel_rfl) (by kernel_rfl)
  have g1 := h.field Try.underlying95 (i := 1) (t' := 93) (o := 20) (m := 2) rfl (by kernel_rfl)
  obtain ⟨x1, e1, w1⟩ := G_signpostref06_Addr_rd _ g1
  have e : cs = cs.drop 0 := rfl
  rw [drop_part cs 0 20 e0, drop_part cs 20 2 e1, List.drop_of_length_le (by rw [hl]; decide)] at e
  exact ⟨⟨x0, x1⟩, e.trans (by simp [el_G_signpostref08_Contact, el_G_signpostref06_Addr]), w1⟩
theorem G_anon_7_rd {H : Type} {enc : TypeId × Value → H} {W : World} : ∀ cs, Rd enc Try.prog W 7 cs → ∃ x : G_anon_7, cs = el_G_anon_7.f x ∧ G_anon_7_wf x := by
  intro cs h
  have hl := h.struct Try.underlying7 (n := 4) (by kernel_rfl)
  have g0 := h.field Try.underlying7 (i := 0) (t' := 2) (o := 0) (m := 1) rfl (by kernel_rfl)
  obtain ⟨x0, e0, w0⟩ := g0.i64 Try.underlying2
  have g1 := h.field Try.underlying7 (i := 1) (t' := 3) (o := 1) (m := 1) rfl (by kernel_rfl)
  obtain ⟨x1, e1, w1⟩ := g1.i64 Try.underlying3
  have g2 := h.field Try.underlying7 (i := 2) (t' := 4) (o := 2) (m := 1) rfl (by kernel_rfl)
  obtain ⟨x2, e2⟩ := g2.bool Try.underlying4
  have g3 := h.field Try.underlying7 (i := 3) (t' := 6) (o := 3) (m := 1) rfl (by kernel_rfl)
  obtain ⟨x3, e3⟩ := g3.u8 Try.underlying6
  have e : cs = cs.drop 0 := rfl
  rw [drop_part cs 0 1 e0, drop_part cs 1 1 e1, drop_part cs 2 1 e2, drop_part cs 3 1 e3, List.drop_of_length_le (by rw [hl]; decide)] at e
  exact ⟨⟨x0, x1, x2, x3⟩, e.trans (by simp [el_G_anon_7]), ⟨w0, w1⟩⟩
theorem G_runtime_boundsError_rd {H : Type} {enc : TypeId × Value → H} {W : World} : ∀ cs, Rd enc Try.prog W 8 cs → ∃ x : G_runtime_boundsError, cs = el_G_runtime_boundsError.f x ∧ G_runtime_boundsError_wf x := by
  intro cs h
  have hl := h.struct Try.underlying8 (n := 4) (by kernel_rfl)
  have g0 := h.field Try.underlying8 (i := 0) (t' := 2) (o := 0) (m := 1) rfl (by kernel_rfl)
  obtain ⟨x0, e0, w0⟩ := g0.i64 Try.underlying2
  have g1 := h.field Try.underlying8 (i := 1) (t' := 3) (o := 1) (m := 1) rfl (by kernel_rfl)
  obtain ⟨x1, e1, w1⟩ := g1.i64 Try.underlying3
  have g2 := h.field Try.underlying8 (i := 2) (t' := 4) (o := 2) (m := 1) rfl (by kernel_rfl)
  obtain ⟨x2, e2⟩ := g2.bool Try.underlying4
  have g3 := h.field Try.underlying8 (i := 3) (t' := 6) (o := 3) (m := 1) rfl (by kernel_rfl)
  obtain ⟨x3, e3⟩ := g3.u8 Try.underlying6
  have e : cs = cs.drop 0 := rfl
  rw [drop_part cs 0 1 e0, drop_part cs 1 1 e1, drop_part cs 2 1 e2, drop_part cs 3 1 e3, List.drop_of_length_le (by rw [hl]; decide)] at e
  exact ⟨⟨x0, x1, x2, x3⟩, e.trans (by simp [el_G_runtime_boundsError]), ⟨w0, w1⟩⟩
end Go.Proofs.Ytleemokneeoikaa
