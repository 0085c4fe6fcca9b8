/-
  Worlds as lists of resources that lie apart: what a resource owns, what stays, what may turn. No condition.
-/
import Derived.Test.YtpheilpcklfknaaDoorBCore
namespace Go.Proofs.YtpheilpcklfknaaDoor
open Go Go.RowKit
set_option linter.unusedVariables false
set_option linter.unusedSimpArgs false

structure Res where
  own : World → (Nat → Prop) → Prop
  keep : ∀ {w w' : World} {S : Nat → Prop}, own w S → w.heap.size ≤ w'.heap.size → (∀ b, S b → w'.heap[b]? = w.heap[b]?) → own w' S

def SatIn (w : World) : (Nat → Prop) → List Res → Prop
  | _, [] => True
  | S, r :: l => ∃ T : Nat → Prop, (∀ b, T b → S b ∧ b < w.heap.size) ∧ r.own w T ∧ SatIn w (fun b => S b ∧ ¬ T b) l

/-- w' is as w but for the blocks in T, and for new ones. -/
structure Ch (w w' : World) (T : Nat → Prop) : Prop where
  os : w'.os = w.os
  tape : w'.tape = w.tape
  output : w'.output = w.output
  size : w.heap.size ≤ w'.heap.size
  block : ∀ b, b < w.heap.size → ¬ T b → w'.heap[b]? = w.heap[b]?

theorem Ch.refl (w : World) (T : Nat → Prop) : Ch w w T := ⟨rfl, rfl, rfl, Nat.le_refl _, fun _ _ _ => rfl⟩
theorem Ch.trans {a b c : World} {T : Nat → Prop} (h : Ch a b T) (k : Ch b c T) : Ch a c T :=
  ⟨k.os.trans h.os, k.tape.trans h.tape, k.output.trans h.output, Nat.le_trans h.size k.size, fun i hi ht => (k.block i (Nat.lt_of_lt_of_le hi h.size) ht).trans (h.block i hi ht)⟩
theorem Ch.drew (w : World) (T : Nat → Prop) : Ch w w.drew T := ⟨rfl, rfl, rfl, Nat.le_refl _, fun _ _ _ => rfl⟩
theorem Ch.alloc (w : World) (o : Obj) (T : Nat → Prop) : Ch w (w.alloc o) T := ⟨rfl, rfl, rfl, by simp, fun b hb _ => Below.heap_alloc w o b hb⟩
theorem Ch.mono {w w' : World} {T T' : Nat → Prop} (h : Ch w w' T) (ht : ∀ b, T b → T' b) : Ch w w' T' :=
  ⟨h.os, h.tape, h.output, h.size, fun b hb hn => h.block b hb (fun x => hn (ht b x))⟩

theorem SatIn.move {w w' : World} : ∀ {l : List Res} {S S' : Nat → Prop}, SatIn w S l → w.heap.size ≤ w'.heap.size →
    (∀ b, b < w.heap.size → S b → w'.heap[b]? = w.heap[b]?) → (∀ b, b < w.heap.size → S b → S' b) → SatIn w' S' l
  | [], _, _, _, _, _, _ => trivial
  | r :: l, S, S', ⟨T, hT, ho, hl⟩, hs, hk, hm =>
    ⟨T, fun b hb => ⟨hm b (hT b hb).2 (hT b hb).1, Nat.lt_of_lt_of_le (hT b hb).2 hs⟩, r.keep ho hs (fun b hb => hk b (hT b hb).2 (hT b hb).1),
     SatIn.move hl hs (fun b hb h => hk b hb h.1) (fun b hb h => ⟨hm b hb h.1, h.2⟩)⟩
theorem SatIn.mono {w : World} {l : List Res} {S S' : Nat → Prop} (h : SatIn w S l) (hm : ∀ b, b < w.heap.size → S b → S' b) : SatIn w S' l :=
  h.move (Nat.le_refl _) (fun _ _ _ => rfl) hm
theorem SatIn.append {w : World} : ∀ {rs l : List Res} {A B S : Nat → Prop}, SatIn w A rs → SatIn w B l →
    (∀ b, b < w.heap.size → A b → S b) → (∀ b, b < w.heap.size → B b → S b) → (∀ b, b < w.heap.size → A b → B b → False) → SatIn w S (rs ++ l)
  | [], l, A, B, S, _, h2, _, hB, _ => h2.mono hB
  | r :: rs, l, A, B, S, ⟨T, hT, ho, hr⟩, h2, hA, hB, hd =>
    ⟨T, fun b hb => ⟨hA b (hT b hb).2 (hT b hb).1, (hT b hb).2⟩, ho,
     SatIn.append hr h2 (fun b hb h => ⟨hA b hb h.1, h.2⟩) (fun b hb h => ⟨hB b hb h, fun ht => hd b hb (hT b ht).1 h⟩) (fun b hb h h' => hd b hb h.1 h')⟩
theorem SatIn.split {w : World} : ∀ {rs l : List Res} {S : Nat → Prop}, SatIn w S (rs ++ l) → ∃ A : Nat → Prop, (∀ b, A b → S b ∧ b < w.heap.size) ∧ SatIn w A rs ∧ SatIn w (fun b => S b ∧ ¬ A b) l
  | [], l, S, h => ⟨fun _ => False, fun _ h => h.elim, trivial, h.mono (fun b _ h => ⟨h, fun x => x⟩)⟩
  | r :: rs, l, S, ⟨T, hT, ho, hr⟩ => by
    obtain ⟨A, hA, h1, h2⟩ := SatIn.split (rs := rs) (l := l) hr
    refine ⟨fun b => T b ∨ A b, fun b h => h.elim (fun h => hT b h) (fun h => ⟨(hA b h).1.1, (hA b h).2⟩), ⟨T, fun b h => ⟨.inl h, (hT b h).2⟩, ho, ?_⟩, ?_⟩
    · exact h1.mono (fun b _ h => ⟨.inr h, (hA b h).1.2⟩)
    · exact h2.mono (fun b _ h => ⟨h.1.1, fun x => x.elim (fun x => h.1.2 x) (fun x => h.2 x)⟩)
theorem SatIn.swap {w : World} {a b : Res} {l : List Res} {S : Nat → Prop} : SatIn w S (a :: b :: l) → SatIn w S (b :: a :: l) := by
  rintro ⟨T, hT, hoa, U, hU, hob, hl⟩
  exact ⟨U, fun x h => ⟨(hU x h).1.1, (hU x h).2⟩, hob, T, fun x h => ⟨⟨(hT x h).1, fun hu => (hU x hu).1.2 h⟩, (hT x h).2⟩, hoa,
    hl.mono (fun x _ h => ⟨⟨h.1.1, h.2⟩, h.1.2⟩)⟩
theorem SatIn.tail {w : World} {a : Res} {l : List Res} {S : Nat → Prop} : SatIn w S (a :: l) → SatIn w S l := by
  rintro ⟨T, hT, hoa, hl⟩
  exact hl.mono (fun x _ h => h.1)
def front : Nat → List Res → List Res
  | 0, l => l
  | _ + 1, [] => []
  | n + 1, a :: l => match front n l with
    | [] => [a]
    | r :: l' => r :: a :: l'
theorem SatIn.front {w : World} : ∀ (n : Nat) {l : List Res} {S : Nat → Prop}, SatIn w S l → SatIn w S (front n l)
  | 0, _, _, h => h
  | _ + 1, [], _, _ => trivial
  | n + 1, a :: l, S, ⟨T, hT, ho, hl⟩ => by
    have h := SatIn.front n hl
    simp only [Go.Proofs.YtpheilpcklfknaaDoor.front]
    cases hf : Go.Proofs.YtpheilpcklfknaaDoor.front n l with
    | nil => exact ⟨T, hT, ho, trivial⟩
    | cons r l' => rw [hf] at h; exact SatIn.swap ⟨T, hT, ho, h⟩


/-- Where a walk begins: a world, and the blocks that nobody touches from there on. -/
structure Base where
  w : World
  O : Nat → Prop
  lt : ∀ b, O b → b < w.heap.size
/-- The base's blocks are as they were. -/
structure Bel (W : Base) (w : World) : Prop where
  os : w.os = W.w.os
  tape : w.tape = W.w.tape
  output : w.output = W.w.output
  size : W.w.heap.size ≤ w.heap.size
  block : ∀ b, W.O b → w.heap[b]? = W.w.heap[b]?
theorem Bel.refl (W : Base) : Bel W W.w := ⟨rfl, rfl, rfl, Nat.le_refl _, fun _ _ => rfl⟩
/-- The world w, which began as W: what nobody may touch is as it was; of the rest the list owns so much, each apart. -/
structure Sat (W : Base) (w : World) (l : List Res) : Prop where
  below : Bel W w
  own : SatIn w (fun b => ¬ W.O b) l
theorem Sat.front {W : Base} {w : World} {l : List Res} (n : Nat) (h : Sat W w l) : Sat W w (front n l) := ⟨h.below, h.own.front n⟩
theorem Sat.tail {W : Base} {w : World} {a : Res} {l : List Res} (h : Sat W w (a :: l)) : Sat W w l := ⟨h.below, h.own.tail⟩
theorem Sat.drop {W : Base} {w : World} : ∀ (n : Nat) {l : List Res}, Sat W w l → Sat W w (l.drop n)
  | 0, _, h => h
  | _ + 1, [], h => h
  | n + 1, _ :: _, h => Sat.drop n h.tail
/-- All that is there when a statement's call begins stays. -/
def Base.old (W : World) : Base := ⟨W, fun b => b < W.heap.size, fun _ h => h⟩
theorem Sat.begin (W : World) : Sat (Base.old W) W [] := ⟨Bel.refl _, trivial⟩
theorem Sat.old_below {W w : World} {l : List Res} (h : Sat (Base.old W) w l) : Below W.heap.size W w := ⟨h.below.os, h.below.tape, h.below.output, h.below.size, h.below.block⟩
theorem bel_of_ch {W : Base} {w w' : World} {T : Nat → Prop} (h : Bel W w) (hc : Ch w w' T) (hT : ∀ b, T b → ¬ W.O b) : Bel W w' :=
  ⟨hc.os.trans h.os, hc.tape.trans h.tape, hc.output.trans h.output, Nat.le_trans h.size hc.size, fun k hk => (hc.block k (Nat.lt_of_lt_of_le (W.lt k hk) h.size) (fun ht => hT k ht hk)).trans (h.block k hk)⟩
theorem Bel.new {W : Base} {w : World} (h : Bel W w) {b : Nat} (hb : w.heap.size ≤ b) : ¬ W.O b := fun ho => Nat.lt_irrefl _ (Nat.lt_of_lt_of_le (W.lt b ho) (Nat.le_trans h.size hb))
/-- One resource is turned into others; new blocks may come. -/
theorem Sat.turnT {W : Base} {w w' : World} {T : Nat → Prop} {rs l : List Res} (hb : Bel W w) (hT : ∀ b, T b → ¬ W.O b ∧ b < w.heap.size) (hl : SatIn w (fun b => ¬ W.O b ∧ ¬ T b) l)
    (hc : Ch w w' T) (hs : SatIn w' (fun b => T b ∨ w.heap.size ≤ b) rs) : Sat W w' (rs ++ l) := by
  refine ⟨bel_of_ch hb hc (fun b ht => (hT b ht).1), ?_⟩
  refine SatIn.append (B := fun b => (¬ W.O b ∧ ¬ T b) ∧ b < w.heap.size) hs (hl.move hc.size (fun b hlt h => hc.block b hlt h.2) (fun b hlt h => ⟨h, hlt⟩)) ?_ ?_ ?_
  · intro b hlt h
    exact h.elim (fun h => (hT b h).1) (fun h => hb.new h)
  · intro b hlt h; exact h.1.1
  · intro b hlt h h'
    exact h.elim (fun h => h'.1.2 h) (fun h => Nat.lt_irrefl _ (Nat.lt_of_lt_of_le h'.2 h))
theorem Sat.turn {W : Base} {w w' : World} {r : Res} {rs l : List Res} (h : Sat W w (r :: l))
    (hw : ∀ T : Nat → Prop, r.own w T → (∀ b, T b → ¬ W.O b ∧ b < w.heap.size) → Ch w w' T ∧ SatIn w' (fun b => T b ∨ w.heap.size ≤ b) rs) : Sat W w' (rs ++ l) := by
  obtain ⟨hb, T, hT, ho, hl⟩ := h
  obtain ⟨hc, hs⟩ := hw T ho hT
  exact Sat.turnT hb hT hl hc hs
/-- Nothing is turned; new blocks may come. -/
theorem Sat.more {W : Base} {w w' : World} {rs l : List Res} (h : Sat W w l) (hc : Ch w w' (fun _ => False)) (hs : SatIn w' (fun b => w.heap.size ≤ b) rs) : Sat W w' (rs ++ l) := by
  obtain ⟨hb, hl⟩ := h
  refine ⟨bel_of_ch hb hc (fun b ht => ht.elim), ?_⟩
  refine SatIn.append (B := fun b => ¬ W.O b ∧ b < w.heap.size) hs (hl.move hc.size (fun b hlt h => hc.block b hlt (fun x => x)) (fun b hlt h => ⟨h, hlt⟩)) ?_ ?_ ?_
  · intro b hlt h; exact hb.new h
  · intro b hlt h; exact h.1
  · intro b hlt h h'; exact Nat.lt_irrefl _ (Nat.lt_of_lt_of_le h'.2 h)
theorem Sat.same {W : Base} {w w' : World} {l : List Res} (h : Sat W w l) (hc : Ch w w' (fun _ => False)) : Sat W w' l := Sat.more (rs := []) h hc trivial
theorem Sat.drew {W : Base} {w : World} {l : List Res} (h : Sat W w l) : Sat W w.drew l := h.same (Ch.drew w _)

/-! ### a call: what it is handed is set apart -/
/-- The base of a call: all but what it is handed. -/
def Base.but (w : World) (A : Nat → Prop) : Base := ⟨w, fun b => b < w.heap.size ∧ ¬ A b, fun _ h => h.1⟩
/-- What stays with the caller. -/
structure Rest (V : Base) (l : List Res) : Prop where
  own : SatIn V.w V.O l
/-- Behind the call: what it hands back joins what stayed. -/
def Back (W V : Base) (l : List Res) : Prop := ∀ {w' : World} {post : List Res}, Sat V w' post → Sat W w' (post ++ l)
/-- A view that the caller's base grants, the call's base grants. -/
structure Sees (W V : Base) (w : World) : Prop where
  eq : V.w = w
  bel : Bel W w
  sub : ∀ b, W.O b → V.O b
theorem Sat.call {W : Base} {w : World} {pre l : List Res} (h : Sat W w (pre ++ l)) : ∃ V : Base, V.w = w ∧ Sat V w pre ∧ Rest V l ∧ Sees W V w ∧ Back W V l := by
  obtain ⟨hb, hl⟩ := h
  obtain ⟨A, hA, h1, h2⟩ := hl.split
  have hO : ∀ b, b < w.heap.size → A b → ¬ (Base.but w A).O b := fun b _ ha h => h.2 ha
  refine ⟨Base.but w A, rfl, ⟨Bel.refl _, h1.mono hO⟩, ⟨h2.mono fun b hlt h => ⟨hlt, h.2⟩⟩, ⟨rfl, hb, fun b hW => ⟨Nat.lt_of_lt_of_le (W.lt b hW) hb.size, fun ha => (hA b ha).1 hW⟩⟩, ?_⟩
  intro w' post hp
  have hsz : w.heap.size ≤ w'.heap.size := hp.below.size
  have hblk : ∀ b, b < w.heap.size → ¬ A b → w'.heap[b]? = w.heap[b]? := fun b hlt hn => hp.below.block b ⟨hlt, hn⟩
  refine ⟨⟨hp.below.os.trans hb.os, hp.below.tape.trans hb.tape, hp.below.output.trans hb.output, Nat.le_trans hb.size hsz, fun b hW => (hblk b (Nat.lt_of_lt_of_le (W.lt b hW) hb.size) (fun ha => (hA b ha).1 hW)).trans (hb.block b hW)⟩, ?_⟩
  refine SatIn.append (B := fun b => (¬ W.O b ∧ ¬ A b) ∧ b < w.heap.size) hp.own (h2.move hsz (fun b hlt h => hblk b hlt h.2) (fun b hlt h => ⟨h, hlt⟩)) ?_ ?_ ?_
  · intro b hlt h hW
    exact h ⟨Nat.lt_of_lt_of_le (W.lt b hW) hb.size, fun ha => (hA b ha).1 hW⟩
  · intro b hlt h; exact h.1.1
  · intro b hlt h h'; exact h ⟨h'.2, h'.1.2⟩

/-! ### the one at a place comes first -/
theorem Sat.f1 {W : Base} {w : World} {a0 r : Res} {l : List Res} (h : Sat W w (a0 :: r :: l)) : Sat W w (r :: a0 :: l) := h.front 1
theorem Sat.f2 {W : Base} {w : World} {a0 a1 r : Res} {l : List Res} (h : Sat W w (a0 :: a1 :: r :: l)) : Sat W w (r :: a0 :: a1 :: l) := h.front 2
theorem Sat.f3 {W : Base} {w : World} {a0 a1 a2 r : Res} {l : List Res} (h : Sat W w (a0 :: a1 :: a2 :: r :: l)) : Sat W w (r :: a0 :: a1 :: a2 :: l) := h.front 3
theorem Sat.f4 {W : Base} {w : World} {a0 a1 a2 a3 r : Res} {l : List Res} (h : Sat W w (a0 :: a1 :: a2 :: a3 :: r :: l)) : Sat W w (r :: a0 :: a1 :: a2 :: a3 :: l) := h.front 4
theorem Sat.f5 {W : Base} {w : World} {a0 a1 a2 a3 a4 r : Res} {l : List Res} (h : Sat W w (a0 :: a1 :: a2 :: a3 :: a4 :: r :: l)) : Sat W w (r :: a0 :: a1 :: a2 :: a3 :: a4 :: l) := h.front 5
theorem Sat.f6 {W : Base} {w : World} {a0 a1 a2 a3 a4 a5 r : Res} {l : List Res} (h : Sat W w (a0 :: a1 :: a2 :: a3 :: a4 :: a5 :: r :: l)) : Sat W w (r :: a0 :: a1 :: a2 :: a3 :: a4 :: a5 :: l) := h.front 6
theorem Sat.f7 {W : Base} {w : World} {a0 a1 a2 a3 a4 a5 a6 r : Res} {l : List Res} (h : Sat W w (a0 :: a1 :: a2 :: a3 :: a4 :: a5 :: a6 :: r :: l)) : Sat W w (r :: a0 :: a1 :: a2 :: a3 :: a4 :: a5 :: a6 :: l) := h.front 7
theorem Sat.f8 {W : Base} {w : World} {a0 a1 a2 a3 a4 a5 a6 a7 r : Res} {l : List Res} (h : Sat W w (a0 :: a1 :: a2 :: a3 :: a4 :: a5 :: a6 :: a7 :: r :: l)) : Sat W w (r :: a0 :: a1 :: a2 :: a3 :: a4 :: a5 :: a6 :: a7 :: l) := h.front 8
theorem Sat.f9 {W : Base} {w : World} {a0 a1 a2 a3 a4 a5 a6 a7 a8 r : Res} {l : List Res} (h : Sat W w (a0 :: a1 :: a2 :: a3 :: a4 :: a5 :: a6 :: a7 :: a8 :: r :: l)) : Sat W w (r :: a0 :: a1 :: a2 :: a3 :: a4 :: a5 :: a6 :: a7 :: a8 :: l) := h.front 9
theorem Sat.f10 {W : Base} {w : World} {a0 a1 a2 a3 a4 a5 a6 a7 a8 a9 r : Res} {l : List Res} (h : Sat W w (a0 :: a1 :: a2 :: a3 :: a4 :: a5 :: a6 :: a7 :: a8 :: a9 :: r :: l)) : Sat W w (r :: a0 :: a1 :: a2 :: a3 :: a4 :: a5 :: a6 :: a7 :: a8 :: a9 :: l) := h.front 10
theorem Sat.f11 {W : Base} {w : World} {a0 a1 a2 a3 a4 a5 a6 a7 a8 a9 a10 r : Res} {l : List Res} (h : Sat W w (a0 :: a1 :: a2 :: a3 :: a4 :: a5 :: a6 :: a7 :: a8 :: a9 :: a10 :: r :: l)) : Sat W w (r :: a0 :: a1 :: a2 :: a3 :: a4 :: a5 :: a6 :: a7 :: a8 :: a9 :: a10 :: l) := h.front 11
theorem Sat.f12 {W : Base} {w : World} {a0 a1 a2 a3 a4 a5 a6 a7 a8 a9 a10 a11 r : Res} {l : List Res} (h : Sat W w (a0 :: a1 :: a2 :: a3 :: a4 :: a5 :: a6 :: a7 :: a8 :: a9 :: a10 :: a11 :: r :: l)) : Sat W w (r :: a0 :: a1 :: a2 :: a3 :: a4 :: a5 :: a6 :: a7 :: a8 :: a9 :: a10 :: a11 :: l) := h.front 12
/-! ### ways to put resources together -/
def Res.ex {γ : Type} (f : γ → Res) : Res := ⟨fun w S => ∃ g, (f g).own w S, fun ⟨g, h⟩ hs hk => ⟨g, (f g).keep h hs hk⟩⟩
def Res.pre (p : Prop) (r : Res) : Res := ⟨fun w S => p ∧ r.own w S, fun ⟨g, h⟩ hs hk => ⟨g, r.keep h hs hk⟩⟩
def Res.sep (l : List Res) : Res := ⟨fun w S => SatIn w S l, fun h hs hk => h.move hs (fun b _ hb => hk b hb) (fun _ _ hb => hb)⟩
theorem Sat.ex_open {W : Base} {w : World} {γ : Type} {f : γ → Res} {l : List Res} (h : Sat W w (Res.ex f :: l)) : ∃ g, Sat W w (f g :: l) := by
  obtain ⟨hb, T, hT, ⟨g, ho⟩, hl⟩ := h; exact ⟨g, hb, T, hT, ho, hl⟩
theorem Sat.ex_shut {W : Base} {w : World} {γ : Type} {f : γ → Res} {l : List Res} (g : γ) (h : Sat W w (f g :: l)) : Sat W w (Res.ex f :: l) := by
  obtain ⟨hb, T, hT, ho, hl⟩ := h; exact ⟨hb, T, hT, ⟨g, ho⟩, hl⟩
theorem Sat.pre_open {W : Base} {w : World} {p : Prop} {r : Res} {l : List Res} (h : Sat W w (Res.pre p r :: l)) : p ∧ Sat W w (r :: l) := by
  obtain ⟨hb, T, hT, ⟨g, ho⟩, hl⟩ := h; exact ⟨g, hb, T, hT, ho, hl⟩
theorem Sat.pre_shut {W : Base} {w : World} {p : Prop} {r : Res} {l : List Res} (g : p) (h : Sat W w (r :: l)) : Sat W w (Res.pre p r :: l) := by
  obtain ⟨hb, T, hT, ho, hl⟩ := h; exact ⟨hb, T, hT, ⟨g, ho⟩, hl⟩
theorem Sat.sep_open {W : Base} {w : World} {rs l : List Res} (h : Sat W w (Res.sep rs :: l)) : Sat W w (rs ++ l) := by
  obtain ⟨hb, T, hT, ho, hl⟩ := h
  exact ⟨hb, SatIn.append ho hl (fun b _ h => (hT b h).1) (fun b _ h => h.1) (fun b _ h h' => h'.2 h)⟩
theorem Sat.sep_shut {W : Base} {w : World} {rs l : List Res} (h : Sat W w (rs ++ l)) : Sat W w (Res.sep rs :: l) := by
  obtain ⟨hb, hl⟩ := h
  obtain ⟨A, hA, h1, h2⟩ := hl.split
  exact ⟨hb, A, hA, h1, h2⟩

/-! ### a block -/
def Blk (w : World) (b : Nat) (cs : List Value) (e : TypeId) : Prop := ∃ fz : Nat × Nat, w.heap[b]? = some (.cells cs.toArray e fz) ∧ (fz.1 < fz.2 → cs.length ≤ fz.1)
theorem Blk.lt {w : World} {b : Nat} {cs : List Value} {e : TypeId} (h : Blk w b cs e) : b < w.heap.size := by
  obtain ⟨fz, h, _⟩ := h; exact (Array.getElem?_eq_some_iff.1 h).1
theorem Blk.cell {w : World} {b : Nat} {cs : List Value} {e : TypeId} (h : Blk w b cs e) {j : Nat} {v : Value} (hj : cs[j]? = some v) : w.cell? ⟨b, j, none⟩ = some v := by
  obtain ⟨fz, h, _⟩ := h; simp [World.cell?, h, hj]
theorem Blk.frozen {w : World} {b : Nat} {cs : List Value} {e : TypeId} (h : Blk w b cs e) {j : Nat} (hj : j < cs.length) : w.frozen? ⟨b, j, none⟩ = false := by
  obtain ⟨fz, h, hf⟩ := h
  simp only [World.frozen?, h, Bool.and_eq_false_iff, decide_eq_false_iff_not]
  by_cases hlt : fz.1 < fz.2
  · have := hf hlt; exact .inl (by omega)
  · by_cases h1 : fz.1 ≤ j
    · exact .inr (by omega)
    · exact .inl h1
theorem Blk.keep {w w' : World} {b : Nat} {cs : List Value} {e : TypeId} (h : Blk w b cs e) (hk : w'.heap[b]? = w.heap[b]?) : Blk w' b cs e := by
  obtain ⟨fz, h, hf⟩ := h; exact ⟨fz, by rw [hk]; exact h, hf⟩
theorem Blk.new (w : World) (cs : List Value) (e : TypeId) : Blk (w.alloc (.cells cs.toArray e)) w.heap.size cs e := ⟨(0, 0), heap_alloc_new w _, by simp⟩
theorem Blk.set {w : World} {b : Nat} {cs : List Value} {e : TypeId} (h : Blk w b cs e) (j : Nat) (v : Value) : Blk (w.setCell ⟨b, j, none⟩ v) b (cs.set j v) e := by
  obtain ⟨fz, h, hf⟩ := h
  exact ⟨fz, by simp [World.setCell, Array.getElem?_modify, h], by simpa using hf⟩
theorem ch_setCell (w : World) (a : Addr) (v : Value) : Ch w (w.setCell a v) (fun b => b = a.block) :=
  ⟨rfl, rfl, rfl, by simp, fun b _ hn => heap_setCell_other w a b v hn⟩
def blk (b : Nat) (cs : List Value) (e : TypeId) : Res := ⟨fun w S => S b ∧ Blk w b cs e, fun ⟨h1, h2⟩ _ hk => ⟨h1, h2.keep (hk _ h1)⟩⟩
theorem Sat.isBlk {W : Base} {w : World} {b : Nat} {cs : List Value} {e : TypeId} {l : List Res} (h : Sat W w (blk b cs e :: l)) : Blk w b cs e := by
  obtain ⟨_, T, _, ho, _⟩ := h; exact ho.2
theorem Sat.blk_old {W : Base} {w : World} {b : Nat} {cs : List Value} {e : TypeId} {l : List Res} (h : Sat W w (blk b cs e :: l)) : ¬ W.O b := by
  obtain ⟨_, T, hT, ho, _⟩ := h; exact (hT b ho.1).1
theorem Sat.blk_set {W : Base} {w w' : World} {b : Nat} {cs cs' : List Value} {e : TypeId} {l : List Res} (h : Sat W w (blk b cs e :: l)) (hc : Ch w w' (fun k => k = b)) (hb : Blk w' b cs' e) :
    Sat W w' (blk b cs' e :: l) :=
  Sat.turn (rs := [blk b cs' e]) h (fun T ho hT => ⟨hc.mono (fun k hk => by subst hk; exact ho.1), T, fun k hk => ⟨.inl hk, Nat.lt_of_lt_of_le (hT k hk).2 hc.size⟩, ⟨ho.1, hb⟩, trivial⟩)
theorem Sat.blk_new {W : Base} {w : World} {l : List Res} (h : Sat W w l) (cs : List Value) (e : TypeId) : Sat W (w.alloc (.cells cs.toArray e)) (blk w.heap.size cs e :: l) :=
  Sat.more (rs := [blk w.heap.size cs e]) h (Ch.alloc w _ _) ⟨fun k => k = w.heap.size, fun k hk => by subst hk; simp, ⟨rfl, Blk.new w cs e⟩, trivial⟩

/-! ### what can be read -/
/-- From the address on the cells hold this. -/
def View (w : World) (a : Option Addr) (xs : List Value) : Prop := ∀ j v, xs[j]? = some v → ∃ b o, a = some ⟨b, o, none⟩ ∧ w.cell? ⟨b, o + j, none⟩ = some v
theorem View.nil (w : World) (a : Option Addr) : View w a [] := fun _ _ h => by cases h
theorem View.at_ {w : World} {b o : Nat} {xs : List Value} (h : View w (some ⟨b, o, none⟩) xs) {j : Nat} {v : Value} (hj : xs[j]? = some v) : w.cell? ⟨b, o + j, none⟩ = some v := by
  obtain ⟨b', o', e, h1⟩ := h j v hj; cases e; exact h1
theorem View.at0 {w : World} {b : Nat} {xs : List Value} (h : View w (some ⟨b, 0, none⟩) xs) {j : Nat} {v : Value} (hj : xs[j]? = some v) : w.cell? ⟨b, j, none⟩ = some v := by
  have := h.at_ hj; rwa [Nat.zero_add] at this
theorem View.add {w : World} {a : Addr} {xs : List Value} (h : View w (some a) xs) : ∀ j v, xs[j]? = some v → w.cell? (a.add j) = some v := by
  intro j v hj
  obtain ⟨b, o, e, h1⟩ := h j v hj
  cases e
  have : (⟨b, o, none⟩ : Addr).add j = ⟨b, o + j, none⟩ := by unfold Addr.add; split <;> simp_all
  rw [this]; exact h1

/-- What can be read as long as the base stands. -/
def V (W : Base) (a : Option Addr) (xs : List Value) : Prop := ∀ j v, xs[j]? = some v → ∃ b o, a = some ⟨b, o, none⟩ ∧ W.O b ∧ W.w.cell? ⟨b, o + j, none⟩ = some v
theorem V.nil (W : Base) (a : Option Addr) : V W a [] := fun _ _ h => by cases h
theorem V.at_ {W : Base} {w : World} {a : Option Addr} {xs : List Value} {l : List Res} (h : V W a xs) (hs : Sat W w l) : View w a xs := by
  intro j v hj
  obtain ⟨b, o, e, hO, h⟩ := h j v hj
  refine ⟨b, o, e, ?_⟩
  rw [World.cell?_of_block (w := W.w) (hs.below.block b hO)]; exact h
theorem V.old {W : World} {a : Option Addr} {xs : List Value} (h : View W a xs) : V (Base.old W) a xs := by
  intro j v hj
  obtain ⟨b, o, e, h⟩ := h j v hj
  exact ⟨b, o, e, World.block_lt_of_cell? W _ h, h⟩
theorem Sees.v {W U : Base} {w : World} (h : Sees W U w) {a : Option Addr} {xs : List Value} (hv : V W a xs) : V U a xs := by
  intro j v hj
  obtain ⟨b, o, e, hO, h1⟩ := hv j v hj
  refine ⟨b, o, e, h.sub b hO, ?_⟩
  rw [h.eq, World.cell?_of_block (w := W.w) (h.bel.block b hO)]; exact h1
/-- All is seen: nothing is handed over. -/
theorem Sat.all {W : Base} {w : World} {l : List Res} (h : Sat W w l) : Sat (Base.old w) w [] := Sat.begin w
theorem View.drop {w : World} {b o : Nat} {xs : List Value} (h : View w (some ⟨b, o, none⟩) xs) (n : Nat) : View w (some ⟨b, o + n, none⟩) (xs.drop n) := by
  intro j v hj
  rw [List.getElem?_drop] at hj
  exact ⟨b, o + n, rfl, by have := h.at_ hj; rw [Nat.add_assoc]; exact this⟩
theorem View.take {w : World} {a : Option Addr} {xs : List Value} (h : View w a xs) (n : Nat) : View w a (xs.take n) := by
  intro j v hj
  rw [List.getElem?_take] at hj
  split at hj
  · exact h j v hj
  · cases hj
theorem Blk.view {w : World} {b : Nat} {cs : List Value} {e : TypeId} (h : Blk w b cs e) (o : Nat) : View w (some ⟨b, o, none⟩) (cs.drop o) := by
  intro j v hj
  rw [List.getElem?_drop] at hj
  exact ⟨b, o, rfl, h.cell hj⟩
end Go.Proofs.YtpheilpcklfknaaDoor
