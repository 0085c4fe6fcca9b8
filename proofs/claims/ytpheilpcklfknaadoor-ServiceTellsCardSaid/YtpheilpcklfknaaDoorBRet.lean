/-
  How a call ends whose results lie in cells, or are more than three. No condition.
-/
import Derived.Test.YtpheilpcklfknaaDoorBKit
namespace Go.Proofs.YtpheilpcklfknaaDoor
open Go Go.RowKit
set_option linter.unusedVariables false
set_option linter.unusedSimpArgs false
section
variable {N : Nat} {P : Program} {L : Slots} {w : World} {fn : Func} {Φ : Value → World → Prop}
/-- A result that lies in a cell. -/
def InCell (P : Program) (w : World) (L : Slots) (a : Tmp) (t : TypeId) (v : Value) : Prop := ∃ ad, look L a = some (.pointer (some ad)) ∧ (loadVar t ad).run P w = .ok v w
theorem InCell.one {a : Tmp} {t : TypeId} {b o : Nat} {v : Value} (hl : look L a = some (.pointer (some ⟨b, o, none⟩))) (ht : aggB P t = some false) (hc : w.cell? ⟨b, o, none⟩ = some v) : InCell P w L a t v :=
  ⟨_, hl, by simp [loadVar, run_isAgg ht, hc]⟩
theorem InCell.many {a : Tmp} {t : TypeId} {b o n : Nat} {vs : List Value} (hl : look L a = some (.pointer (some ⟨b, o, none⟩))) (ht : aggB P t = some true) (hs : szOf P t = some n) (hn : vs.length = n) (hv : View w (some ⟨b, o, none⟩) vs) : InCell P w L a t (.agg vs.toArray) :=
  ⟨_, hl, run_loadVar_view ht hs hn hv⟩
theorem QA.ret_c {a0 : Tmp} {v0 : Value} {t0 : TypeId} (hr : fn.results = #[.cell a0 t0]) (h0 : InCell P w L a0 t0 v0) (h : Φ (v0) w) : QA (mks := []) N .ret L (bodyPost P fn (Ret Φ)) w := fun act ha => by
  refine bodyPost_ret (v := v0) ?_ ha.defers h
  obtain ⟨d0, e0, f0⟩ := h0
  have g0 := ha.slot a0 _ e0
  simp only [Array.getD_eq_getD_getElem?] at g0
  simp [results, hr, asAddr, g0, f0]
theorem QA.end_c {a0 : Tmp} {v0 : Value} {t0 : TypeId} (hr : fn.results = #[.cell a0 t0]) (h0 : InCell P w L a0 t0 v0) (h : Φ (v0) w) : QA (mks := []) N .normal L (bodyPost P fn (Ret Φ)) w := fun act ha => by
  refine bodyPost_end (v := v0) ?_ ha.defers h
  obtain ⟨d0, e0, f0⟩ := h0
  have g0 := ha.slot a0 _ e0
  simp only [Array.getD_eq_getD_getElem?] at g0
  simp [results, hr, asAddr, g0, f0]
theorem QA.ret_ct {a0 : Tmp} {v0 : Value} {t0 : TypeId} {a1 : Tmp} {v1 : Value} (hr : fn.results = #[.cell a0 t0, .tmp a1]) (h0 : InCell P w L a0 t0 v0) (h1 : look L a1 = some v1) (h : Φ (.tuple #[v0, v1]) w) : QA (mks := []) N .ret L (bodyPost P fn (Ret Φ)) w := fun act ha => by
  refine bodyPost_ret (v := .tuple #[v0, v1]) ?_ ha.defers h
  obtain ⟨d0, e0, f0⟩ := h0
  have g0 := ha.slot a0 _ e0
  have g1 := ha.slot a1 _ h1
  simp only [Array.getD_eq_getD_getElem?] at g0 g1
  simp [results, hr, asAddr, g0, f0, g1]
theorem QA.end_ct {a0 : Tmp} {v0 : Value} {t0 : TypeId} {a1 : Tmp} {v1 : Value} (hr : fn.results = #[.cell a0 t0, .tmp a1]) (h0 : InCell P w L a0 t0 v0) (h1 : look L a1 = some v1) (h : Φ (.tuple #[v0, v1]) w) : QA (mks := []) N .normal L (bodyPost P fn (Ret Φ)) w := fun act ha => by
  refine bodyPost_end (v := .tuple #[v0, v1]) ?_ ha.defers h
  obtain ⟨d0, e0, f0⟩ := h0
  have g0 := ha.slot a0 _ e0
  have g1 := ha.slot a1 _ h1
  simp only [Array.getD_eq_getD_getElem?] at g0 g1
  simp [results, hr, asAddr, g0, f0, g1]
theorem QA.ret_tc {a0 : Tmp} {v0 : Value} {a1 : Tmp} {v1 : Value} {t1 : TypeId} (hr : fn.results = #[.tmp a0, .cell a1 t1]) (h0 : look L a0 = some v0) (h1 : InCell P w L a1 t1 v1) (h : Φ (.tuple #[v0, v1]) w) : QA (mks := []) N .ret L (bodyPost P fn (Ret Φ)) w := fun act ha => by
  refine bodyPost_ret (v := .tuple #[v0, v1]) ?_ ha.defers h
  have g0 := ha.slot a0 _ h0
  obtain ⟨d1, e1, f1⟩ := h1
  have g1 := ha.slot a1 _ e1
  simp only [Array.getD_eq_getD_getElem?] at g0 g1
  simp [results, hr, asAddr, g0, g1, f1]
theorem QA.end_tc {a0 : Tmp} {v0 : Value} {a1 : Tmp} {v1 : Value} {t1 : TypeId} (hr : fn.results = #[.tmp a0, .cell a1 t1]) (h0 : look L a0 = some v0) (h1 : InCell P w L a1 t1 v1) (h : Φ (.tuple #[v0, v1]) w) : QA (mks := []) N .normal L (bodyPost P fn (Ret Φ)) w := fun act ha => by
  refine bodyPost_end (v := .tuple #[v0, v1]) ?_ ha.defers h
  have g0 := ha.slot a0 _ h0
  obtain ⟨d1, e1, f1⟩ := h1
  have g1 := ha.slot a1 _ e1
  simp only [Array.getD_eq_getD_getElem?] at g0 g1
  simp [results, hr, asAddr, g0, g1, f1]
theorem QA.ret_cc {a0 : Tmp} {v0 : Value} {t0 : TypeId} {a1 : Tmp} {v1 : Value} {t1 : TypeId} (hr : fn.results = #[.cell a0 t0, .cell a1 t1]) (h0 : InCell P w L a0 t0 v0) (h1 : InCell P w L a1 t1 v1) (h : Φ (.tuple #[v0, v1]) w) : QA (mks := []) N .ret L (bodyPost P fn (Ret Φ)) w := fun act ha => by
  refine bodyPost_ret (v := .tuple #[v0, v1]) ?_ ha.defers h
  obtain ⟨d0, e0, f0⟩ := h0
  have g0 := ha.slot a0 _ e0
  obtain ⟨d1, e1, f1⟩ := h1
  have g1 := ha.slot a1 _ e1
  simp only [Array.getD_eq_getD_getElem?] at g0 g1
  simp [results, hr, asAddr, g0, f0, g1, f1]
theorem QA.end_cc {a0 : Tmp} {v0 : Value} {t0 : TypeId} {a1 : Tmp} {v1 : Value} {t1 : TypeId} (hr : fn.results = #[.cell a0 t0, .cell a1 t1]) (h0 : InCell P w L a0 t0 v0) (h1 : InCell P w L a1 t1 v1) (h : Φ (.tuple #[v0, v1]) w) : QA (mks := []) N .normal L (bodyPost P fn (Ret Φ)) w := fun act ha => by
  refine bodyPost_end (v := .tuple #[v0, v1]) ?_ ha.defers h
  obtain ⟨d0, e0, f0⟩ := h0
  have g0 := ha.slot a0 _ e0
  obtain ⟨d1, e1, f1⟩ := h1
  have g1 := ha.slot a1 _ e1
  simp only [Array.getD_eq_getD_getElem?] at g0 g1
  simp [results, hr, asAddr, g0, f0, g1, f1]
theorem QA.ret_ctt {a0 : Tmp} {v0 : Value} {t0 : TypeId} {a1 : Tmp} {v1 : Value} {a2 : Tmp} {v2 : Value} (hr : fn.results = #[.cell a0 t0, .tmp a1, .tmp a2]) (h0 : InCell P w L a0 t0 v0) (h1 : look L a1 = some v1) (h2 : look L a2 = some v2) (h : Φ (.tuple #[v0, v1, v2]) w) : QA (mks := []) N .ret L (bodyPost P fn (Ret Φ)) w := fun act ha => by
  refine bodyPost_ret (v := .tuple #[v0, v1, v2]) ?_ ha.defers h
  obtain ⟨d0, e0, f0⟩ := h0
  have g0 := ha.slot a0 _ e0
  have g1 := ha.slot a1 _ h1
  have g2 := ha.slot a2 _ h2
  simp only [Array.getD_eq_getD_getElem?] at g0 g1 g2
  simp [results, hr, asAddr, g0, f0, g1, g2]
theorem QA.end_ctt {a0 : Tmp} {v0 : Value} {t0 : TypeId} {a1 : Tmp} {v1 : Value} {a2 : Tmp} {v2 : Value} (hr : fn.results = #[.cell a0 t0, .tmp a1, .tmp a2]) (h0 : InCell P w L a0 t0 v0) (h1 : look L a1 = some v1) (h2 : look L a2 = some v2) (h : Φ (.tuple #[v0, v1, v2]) w) : QA (mks := []) N .normal L (bodyPost P fn (Ret Φ)) w := fun act ha => by
  refine bodyPost_end (v := .tuple #[v0, v1, v2]) ?_ ha.defers h
  obtain ⟨d0, e0, f0⟩ := h0
  have g0 := ha.slot a0 _ e0
  have g1 := ha.slot a1 _ h1
  have g2 := ha.slot a2 _ h2
  simp only [Array.getD_eq_getD_getElem?] at g0 g1 g2
  simp [results, hr, asAddr, g0, f0, g1, g2]
theorem QA.ret_tct {a0 : Tmp} {v0 : Value} {a1 : Tmp} {v1 : Value} {t1 : TypeId} {a2 : Tmp} {v2 : Value} (hr : fn.results = #[.tmp a0, .cell a1 t1, .tmp a2]) (h0 : look L a0 = some v0) (h1 : InCell P w L a1 t1 v1) (h2 : look L a2 = some v2) (h : Φ (.tuple #[v0, v1, v2]) w) : QA (mks := []) N .ret L (bodyPost P fn (Ret Φ)) w := fun act ha => by
  refine bodyPost_ret (v := .tuple #[v0, v1, v2]) ?_ ha.defers h
  have g0 := ha.slot a0 _ h0
  obtain ⟨d1, e1, f1⟩ := h1
  have g1 := ha.slot a1 _ e1
  have g2 := ha.slot a2 _ h2
  simp only [Array.getD_eq_getD_getElem?] at g0 g1 g2
  simp [results, hr, asAddr, g0, g1, f1, g2]
theorem QA.end_tct {a0 : Tmp} {v0 : Value} {a1 : Tmp} {v1 : Value} {t1 : TypeId} {a2 : Tmp} {v2 : Value} (hr : fn.results = #[.tmp a0, .cell a1 t1, .tmp a2]) (h0 : look L a0 = some v0) (h1 : InCell P w L a1 t1 v1) (h2 : look L a2 = some v2) (h : Φ (.tuple #[v0, v1, v2]) w) : QA (mks := []) N .normal L (bodyPost P fn (Ret Φ)) w := fun act ha => by
  refine bodyPost_end (v := .tuple #[v0, v1, v2]) ?_ ha.defers h
  have g0 := ha.slot a0 _ h0
  obtain ⟨d1, e1, f1⟩ := h1
  have g1 := ha.slot a1 _ e1
  have g2 := ha.slot a2 _ h2
  simp only [Array.getD_eq_getD_getElem?] at g0 g1 g2
  simp [results, hr, asAddr, g0, g1, f1, g2]
theorem QA.ret_cct {a0 : Tmp} {v0 : Value} {t0 : TypeId} {a1 : Tmp} {v1 : Value} {t1 : TypeId} {a2 : Tmp} {v2 : Value} (hr : fn.results = #[.cell a0 t0, .cell a1 t1, .tmp a2]) (h0 : InCell P w L a0 t0 v0) (h1 : InCell P w L a1 t1 v1) (h2 : look L a2 = some v2) (h : Φ (.tuple #[v0, v1, v2]) w) : QA (mks := []) N .ret L (bodyPost P fn (Ret Φ)) w := fun act ha => by
  refine bodyPost_ret (v := .tuple #[v0, v1, v2]) ?_ ha.defers h
  obtain ⟨d0, e0, f0⟩ := h0
  have g0 := ha.slot a0 _ e0
  obtain ⟨d1, e1, f1⟩ := h1
  have g1 := ha.slot a1 _ e1
  have g2 := ha.slot a2 _ h2
  simp only [Array.getD_eq_getD_getElem?] at g0 g1 g2
  simp [results, hr, asAddr, g0, f0, g1, f1, g2]
theorem QA.end_cct {a0 : Tmp} {v0 : Value} {t0 : TypeId} {a1 : Tmp} {v1 : Value} {t1 : TypeId} {a2 : Tmp} {v2 : Value} (hr : fn.results = #[.cell a0 t0, .cell a1 t1, .tmp a2]) (h0 : InCell P w L a0 t0 v0) (h1 : InCell P w L a1 t1 v1) (h2 : look L a2 = some v2) (h : Φ (.tuple #[v0, v1, v2]) w) : QA (mks := []) N .normal L (bodyPost P fn (Ret Φ)) w := fun act ha => by
  refine bodyPost_end (v := .tuple #[v0, v1, v2]) ?_ ha.defers h
  obtain ⟨d0, e0, f0⟩ := h0
  have g0 := ha.slot a0 _ e0
  obtain ⟨d1, e1, f1⟩ := h1
  have g1 := ha.slot a1 _ e1
  have g2 := ha.slot a2 _ h2
  simp only [Array.getD_eq_getD_getElem?] at g0 g1 g2
  simp [results, hr, asAddr, g0, f0, g1, f1, g2]
theorem QA.ret_cctt {a0 : Tmp} {v0 : Value} {t0 : TypeId} {a1 : Tmp} {v1 : Value} {t1 : TypeId} {a2 : Tmp} {v2 : Value} {a3 : Tmp} {v3 : Value} (hr : fn.results = #[.cell a0 t0, .cell a1 t1, .tmp a2, .tmp a3]) (h0 : InCell P w L a0 t0 v0) (h1 : InCell P w L a1 t1 v1) (h2 : look L a2 = some v2) (h3 : look L a3 = some v3) (h : Φ (.tuple #[v0, v1, v2, v3]) w) : QA (mks := []) N .ret L (bodyPost P fn (Ret Φ)) w := fun act ha => by
  refine bodyPost_ret (v := .tuple #[v0, v1, v2, v3]) ?_ ha.defers h
  obtain ⟨d0, e0, f0⟩ := h0
  have g0 := ha.slot a0 _ e0
  obtain ⟨d1, e1, f1⟩ := h1
  have g1 := ha.slot a1 _ e1
  have g2 := ha.slot a2 _ h2
  have g3 := ha.slot a3 _ h3
  simp only [Array.getD_eq_getD_getElem?] at g0 g1 g2 g3
  simp [results, hr, asAddr, g0, f0, g1, f1, g2, g3]
theorem QA.end_cctt {a0 : Tmp} {v0 : Value} {t0 : TypeId} {a1 : Tmp} {v1 : Value} {t1 : TypeId} {a2 : Tmp} {v2 : Value} {a3 : Tmp} {v3 : Value} (hr : fn.results = #[.cell a0 t0, .cell a1 t1, .tmp a2, .tmp a3]) (h0 : InCell P w L a0 t0 v0) (h1 : InCell P w L a1 t1 v1) (h2 : look L a2 = some v2) (h3 : look L a3 = some v3) (h : Φ (.tuple #[v0, v1, v2, v3]) w) : QA (mks := []) N .normal L (bodyPost P fn (Ret Φ)) w := fun act ha => by
  refine bodyPost_end (v := .tuple #[v0, v1, v2, v3]) ?_ ha.defers h
  obtain ⟨d0, e0, f0⟩ := h0
  have g0 := ha.slot a0 _ e0
  obtain ⟨d1, e1, f1⟩ := h1
  have g1 := ha.slot a1 _ e1
  have g2 := ha.slot a2 _ h2
  have g3 := ha.slot a3 _ h3
  simp only [Array.getD_eq_getD_getElem?] at g0 g1 g2 g3
  simp [results, hr, asAddr, g0, f0, g1, f1, g2, g3]
theorem QA.ret_ttc {a0 : Tmp} {v0 : Value} {a1 : Tmp} {v1 : Value} {a2 : Tmp} {v2 : Value} {t2 : TypeId} (hr : fn.results = #[.tmp a0, .tmp a1, .cell a2 t2]) (h0 : look L a0 = some v0) (h1 : look L a1 = some v1) (h2 : InCell P w L a2 t2 v2) (h : Φ (.tuple #[v0, v1, v2]) w) : QA (mks := []) N .ret L (bodyPost P fn (Ret Φ)) w := fun act ha => by
  refine bodyPost_ret (v := .tuple #[v0, v1, v2]) ?_ ha.defers h
  have g0 := ha.slot a0 _ h0
  have g1 := ha.slot a1 _ h1
  obtain ⟨d2, e2, f2⟩ := h2
  have g2 := ha.slot a2 _ e2
  simp only [Array.getD_eq_getD_getElem?] at g0 g1 g2
  simp [results, hr, asAddr, g0, g1, g2, f2]
theorem QA.end_ttc {a0 : Tmp} {v0 : Value} {a1 : Tmp} {v1 : Value} {a2 : Tmp} {v2 : Value} {t2 : TypeId} (hr : fn.results = #[.tmp a0, .tmp a1, .cell a2 t2]) (h0 : look L a0 = some v0) (h1 : look L a1 = some v1) (h2 : InCell P w L a2 t2 v2) (h : Φ (.tuple #[v0, v1, v2]) w) : QA (mks := []) N .normal L (bodyPost P fn (Ret Φ)) w := fun act ha => by
  refine bodyPost_end (v := .tuple #[v0, v1, v2]) ?_ ha.defers h
  have g0 := ha.slot a0 _ h0
  have g1 := ha.slot a1 _ h1
  obtain ⟨d2, e2, f2⟩ := h2
  have g2 := ha.slot a2 _ e2
  simp only [Array.getD_eq_getD_getElem?] at g0 g1 g2
  simp [results, hr, asAddr, g0, g1, g2, f2]
theorem QA.ret_cttt {a0 : Tmp} {v0 : Value} {t0 : TypeId} {a1 : Tmp} {v1 : Value} {a2 : Tmp} {v2 : Value} {a3 : Tmp} {v3 : Value} (hr : fn.results = #[.cell a0 t0, .tmp a1, .tmp a2, .tmp a3]) (h0 : InCell P w L a0 t0 v0) (h1 : look L a1 = some v1) (h2 : look L a2 = some v2) (h3 : look L a3 = some v3) (h : Φ (.tuple #[v0, v1, v2, v3]) w) : QA (mks := []) N .ret L (bodyPost P fn (Ret Φ)) w := fun act ha => by
  refine bodyPost_ret (v := .tuple #[v0, v1, v2, v3]) ?_ ha.defers h
  obtain ⟨d0, e0, f0⟩ := h0
  have g0 := ha.slot a0 _ e0
  have g1 := ha.slot a1 _ h1
  have g2 := ha.slot a2 _ h2
  have g3 := ha.slot a3 _ h3
  simp only [Array.getD_eq_getD_getElem?] at g0 g1 g2 g3
  simp [results, hr, asAddr, g0, f0, g1, g2, g3]
theorem QA.end_cttt {a0 : Tmp} {v0 : Value} {t0 : TypeId} {a1 : Tmp} {v1 : Value} {a2 : Tmp} {v2 : Value} {a3 : Tmp} {v3 : Value} (hr : fn.results = #[.cell a0 t0, .tmp a1, .tmp a2, .tmp a3]) (h0 : InCell P w L a0 t0 v0) (h1 : look L a1 = some v1) (h2 : look L a2 = some v2) (h3 : look L a3 = some v3) (h : Φ (.tuple #[v0, v1, v2, v3]) w) : QA (mks := []) N .normal L (bodyPost P fn (Ret Φ)) w := fun act ha => by
  refine bodyPost_end (v := .tuple #[v0, v1, v2, v3]) ?_ ha.defers h
  obtain ⟨d0, e0, f0⟩ := h0
  have g0 := ha.slot a0 _ e0
  have g1 := ha.slot a1 _ h1
  have g2 := ha.slot a2 _ h2
  have g3 := ha.slot a3 _ h3
  simp only [Array.getD_eq_getD_getElem?] at g0 g1 g2 g3
  simp [results, hr, asAddr, g0, f0, g1, g2, g3]
theorem QA.ret_tttt {a0 : Tmp} {v0 : Value} {a1 : Tmp} {v1 : Value} {a2 : Tmp} {v2 : Value} {a3 : Tmp} {v3 : Value} (hr : fn.results = #[.tmp a0, .tmp a1, .tmp a2, .tmp a3]) (h0 : look L a0 = some v0) (h1 : look L a1 = some v1) (h2 : look L a2 = some v2) (h3 : look L a3 = some v3) (h : Φ (.tuple #[v0, v1, v2, v3]) w) : QA (mks := []) N .ret L (bodyPost P fn (Ret Φ)) w := fun act ha => by
  refine bodyPost_ret (v := .tuple #[v0, v1, v2, v3]) ?_ ha.defers h
  have g0 := ha.slot a0 _ h0
  have g1 := ha.slot a1 _ h1
  have g2 := ha.slot a2 _ h2
  have g3 := ha.slot a3 _ h3
  simp only [Array.getD_eq_getD_getElem?] at g0 g1 g2 g3
  simp [results, hr, asAddr, g0, g1, g2, g3]
theorem QA.end_tttt {a0 : Tmp} {v0 : Value} {a1 : Tmp} {v1 : Value} {a2 : Tmp} {v2 : Value} {a3 : Tmp} {v3 : Value} (hr : fn.results = #[.tmp a0, .tmp a1, .tmp a2, .tmp a3]) (h0 : look L a0 = some v0) (h1 : look L a1 = some v1) (h2 : look L a2 = some v2) (h3 : look L a3 = some v3) (h : Φ (.tuple #[v0, v1, v2, v3]) w) : QA (mks := []) N .normal L (bodyPost P fn (Ret Φ)) w := fun act ha => by
  refine bodyPost_end (v := .tuple #[v0, v1, v2, v3]) ?_ ha.defers h
  have g0 := ha.slot a0 _ h0
  have g1 := ha.slot a1 _ h1
  have g2 := ha.slot a2 _ h2
  have g3 := ha.slot a3 _ h3
  simp only [Array.getD_eq_getD_getElem?] at g0 g1 g2 g3
  simp [results, hr, asAddr, g0, g1, g2, g3]
theorem QA.ret_tcc {a0 : Tmp} {v0 : Value} {a1 : Tmp} {v1 : Value} {t1 : TypeId} {a2 : Tmp} {v2 : Value} {t2 : TypeId} (hr : fn.results = #[.tmp a0, .cell a1 t1, .cell a2 t2]) (h0 : look L a0 = some v0) (h1 : InCell P w L a1 t1 v1) (h2 : InCell P w L a2 t2 v2) (h : Φ (.tuple #[v0, v1, v2]) w) : QA (mks := []) N .ret L (bodyPost P fn (Ret Φ)) w := fun act ha => by
  refine bodyPost_ret (v := .tuple #[v0, v1, v2]) ?_ ha.defers h
  have g0 := ha.slot a0 _ h0
  obtain ⟨d1, e1, f1⟩ := h1
  have g1 := ha.slot a1 _ e1
  obtain ⟨d2, e2, f2⟩ := h2
  have g2 := ha.slot a2 _ e2
  simp only [Array.getD_eq_getD_getElem?] at g0 g1 g2
  simp [results, hr, asAddr, g0, g1, f1, g2, f2]
theorem QA.end_tcc {a0 : Tmp} {v0 : Value} {a1 : Tmp} {v1 : Value} {t1 : TypeId} {a2 : Tmp} {v2 : Value} {t2 : TypeId} (hr : fn.results = #[.tmp a0, .cell a1 t1, .cell a2 t2]) (h0 : look L a0 = some v0) (h1 : InCell P w L a1 t1 v1) (h2 : InCell P w L a2 t2 v2) (h : Φ (.tuple #[v0, v1, v2]) w) : QA (mks := []) N .normal L (bodyPost P fn (Ret Φ)) w := fun act ha => by
  refine bodyPost_end (v := .tuple #[v0, v1, v2]) ?_ ha.defers h
  have g0 := ha.slot a0 _ h0
  obtain ⟨d1, e1, f1⟩ := h1
  have g1 := ha.slot a1 _ e1
  obtain ⟨d2, e2, f2⟩ := h2
  have g2 := ha.slot a2 _ e2
  simp only [Array.getD_eq_getD_getElem?] at g0 g1 g2
  simp [results, hr, asAddr, g0, g1, f1, g2, f2]
theorem QA.ret_ccc {a0 : Tmp} {v0 : Value} {t0 : TypeId} {a1 : Tmp} {v1 : Value} {t1 : TypeId} {a2 : Tmp} {v2 : Value} {t2 : TypeId} (hr : fn.results = #[.cell a0 t0, .cell a1 t1, .cell a2 t2]) (h0 : InCell P w L a0 t0 v0) (h1 : InCell P w L a1 t1 v1) (h2 : InCell P w L a2 t2 v2) (h : Φ (.tuple #[v0, v1, v2]) w) : QA (mks := []) N .ret L (bodyPost P fn (Ret Φ)) w := fun act ha => by
  refine bodyPost_ret (v := .tuple #[v0, v1, v2]) ?_ ha.defers h
  obtain ⟨d0, e0, f0⟩ := h0
  have g0 := ha.slot a0 _ e0
  obtain ⟨d1, e1, f1⟩ := h1
  have g1 := ha.slot a1 _ e1
  obtain ⟨d2, e2, f2⟩ := h2
  have g2 := ha.slot a2 _ e2
  simp only [Array.getD_eq_getD_getElem?] at g0 g1 g2
  simp [results, hr, asAddr, g0, f0, g1, f1, g2, f2]
theorem QA.end_ccc {a0 : Tmp} {v0 : Value} {t0 : TypeId} {a1 : Tmp} {v1 : Value} {t1 : TypeId} {a2 : Tmp} {v2 : Value} {t2 : TypeId} (hr : fn.results = #[.cell a0 t0, .cell a1 t1, .cell a2 t2]) (h0 : InCell P w L a0 t0 v0) (h1 : InCell P w L a1 t1 v1) (h2 : InCell P w L a2 t2 v2) (h : Φ (.tuple #[v0, v1, v2]) w) : QA (mks := []) N .normal L (bodyPost P fn (Ret Φ)) w := fun act ha => by
  refine bodyPost_end (v := .tuple #[v0, v1, v2]) ?_ ha.defers h
  obtain ⟨d0, e0, f0⟩ := h0
  have g0 := ha.slot a0 _ e0
  obtain ⟨d1, e1, f1⟩ := h1
  have g1 := ha.slot a1 _ e1
  obtain ⟨d2, e2, f2⟩ := h2
  have g2 := ha.slot a2 _ e2
  simp only [Array.getD_eq_getD_getElem?] at g0 g1 g2
  simp [results, hr, asAddr, g0, f0, g1, f1, g2, f2]
end
end Go.Proofs.YtpheilpcklfknaaDoor
