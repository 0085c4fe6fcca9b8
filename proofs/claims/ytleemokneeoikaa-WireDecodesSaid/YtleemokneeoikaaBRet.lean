/-
  How a call ends whose results lie in cells, or are more than three. No condition.
-/
import Derived.Test.YtleemokneeoikaaBKit
namespace Go.Proofs.Ytleemokneeoikaa
open Go Go.RowKit
set_option linter.unusedVariables false
set_option linter.unusedSimpArgs false
section
variable {N : Nat} {P : Program} {L : Slots} {w : World} {fn : Func} {Φ : Value → World → Prop}
/-- A result that lies in a cell. -/
def InCell (P : Program) (w : World) (L : Slots) (a : Tmp) (t : TypeId) (v : Value) : Prop := ∃ ad, look L a = some (.pointer (some ad)) ∧ (loadVar t ad).run P w = .ok v w
theorem InCell.one {a : Tmp} {t : TypeId} {b o : Nat} {v : Value} (hl : look L a = some (.pointer (some ⟨b, o, none⟩))) (ht : aggB P t = some false) (hc : w.cell? ⟨b, o, none⟩ = some v) : InCell P w L a t v :=
  ⟨_, hl, by simp [loadVar, run_isAgg ht, hc]⟩
theorem InCell.many {a : Tmp} {t : TypeId} {b o n : Nat} {vs : List Value} (hl : look L a = some (.pointer (some ⟨b, o, none⟩))) (ht : aggB P t = some true) (hs : szOf P t = some n) (hn : vs.length = n) (hv : View w (some ⟨b, o, none⟩) vs) : InCell P w L a t (.agg vs.toArray) :=
  ⟨_, hl, run_loadVar_view ht hs hn hv⟩
theorem QA.ret_c {a0 : Tmp} {v0 : Value} {t0 : TypeId} (hr : fn.results = #[.cell a0 t0]) (h0 : InCell P w L a0 t0 v0) (h : Φ (v0) w) : QA (mks := []) N .ret L (bodyPost P fn (Ret Φ)) w := fun act ha => by
  refine bodyPost_ret (v := v0) ?_ ha.defers h
  obtain ⟨d0, e0, f0⟩ := h0
  have g0 := ha.slot a0 _ e0
  simp only [Array.getD_eq_getD_getElem?] at g0
  simp [results, hr, asAddr, g0, f0]
theorem QA.ret_ct {a0 : Tmp} {v0 : Value} {t0 : TypeId} {a1 : Tmp} {v1 : Value} (hr : fn.results = #[.cell a0 t0, .tmp a1]) (h0 : InCell P w L a0 t0 v0) (h1 : look L a1 = some v1) (h : Φ (.tuple #[v0, v1]) w) : QA (mks := []) N .ret L (bodyPost P fn (Ret Φ)) w := fun act ha => by
  refine bodyPost_ret (v := .tuple #[v0, v1]) ?_ ha.defers h
  obtain ⟨d0, e0, f0⟩ := h0
  have g0 := ha.slot a0 _ e0
  have g1 := ha.slot a1 _ h1
  simp only [Array.getD_eq_getD_getElem?] at g0 g1
  simp [results, hr, asAddr, g0, f0, g1]
end
end Go.Proofs.Ytleemokneeoikaa
