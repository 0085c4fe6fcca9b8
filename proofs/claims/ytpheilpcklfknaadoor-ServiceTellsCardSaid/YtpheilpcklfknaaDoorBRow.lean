/-
  The rules of a walk over rows of one kind: places, loads, stores, cuts, appends, copies, new rows; calls. No condition.
-/
import Derived.Test.YtpheilpcklfknaaDoorBCopy
import Derived.Test.YtpheilpcklfknaaDoorBKit
namespace Go.Proofs.YtpheilpcklfknaaDoor
open Go Go.RowKit
set_option linter.unusedVariables false
set_option linter.unusedSimpArgs false
/-- The list, its members taken one by one, each from what is left. -/
def pickL : List Nat → List Res → List Res
  | [], _ => []
  | i :: is, l => match front i l with
    | [] => []
    | r :: l' => r :: pickL is l'
theorem SatIn.pick {w : World} : ∀ (is : List Nat) {l : List Res} {S : Nat → Prop}, SatIn w S l → SatIn w S (pickL is l)
  | [], _, _, _ => trivial
  | i :: is, l, S, h => by
    have h1 := SatIn.front i h
    unfold pickL
    cases hf : Go.Proofs.YtpheilpcklfknaaDoor.front i l with
    | nil => trivial
    | cons r l' =>
      rw [hf] at h1
      obtain ⟨T, hT, ho, hl⟩ := h1
      exact ⟨T, hT, ho, SatIn.pick is hl⟩
theorem Sat.pick {W : Base} {w : World} (is : List Nat) {l : List Res} (h : Sat W w l) : Sat W w (pickL is l) := ⟨h.below, h.own.pick is⟩
def SubL (L : Slots) : Slots → Prop
  | [] => True
  | (t, v) :: l => look L t = some v ∧ SubL L l
theorem Sub.of {L : Slots} : ∀ {A : Slots}, SubL L A → Sub A L
  | [], _ => Sub.nil L
  | (t, v) :: l, h => Sub.cons h.1 (Sub.of h.2)
instance {n : Nat} : DecidableEq (Fin n → UInt8) := fun f g => decidable_of_iff (List.ofFn f = List.ofFn g) ofFn_inj'
theorem View.of_bytes {w : World} {a : Option Addr} {l : List UInt8} (h : View w a (bytesV l)) : View w a (elU8.row l) := by rw [elU8_row]; exact h
theorem V.of_bytes {W : Base} {a : Option Addr} {l : List UInt8} (h : V W a (bytesV l)) : V W a (elU8.row l) := by rw [elU8_row]; exact h
theorem View.to_bytes {w : World} {a : Option Addr} {l : List UInt8} (h : View w a (elU8.row l)) : View w a (bytesV l) := by rw [← elU8_row]; exact h
def elArr (n : Nat) : El (Fin n → UInt8) := ⟨fun f => bytesV (List.ofFn f), n, fun f => by simp [bytesV_length], fun f => bytesV_one _⟩
theorem sp_ret2 {α β : Type} {a c : α} {b d : β} (h : some (a, b) = some (c, d)) : a = c ∧ b = d := by simpa using h
theorem sp_ret3 {α β γ : Type} {a c : α} {b d : β} {e f : γ} (h : some (a, b, e) = some (c, d, f)) : a = c ∧ b = d ∧ e = f := by simpa using h
theorem sp_ret4 {α β γ δ : Type} {a c : α} {b d : β} {e f : γ} {g i : δ} (h : some (a, b, e, g) = some (c, d, f, i)) : a = c ∧ b = d ∧ e = f ∧ g = i := by simpa using h
theorem sp_ret5 {α β γ δ ε : Type} {a c : α} {b d : β} {e f : γ} {g i : δ} {j k : ε} (h : some (a, b, e, g, j) = some (c, d, f, i, k)) : a = c ∧ b = d ∧ e = f ∧ g = i ∧ j = k := by simpa using h
theorem sp_ret1 {α : Type} {a b : α} (h : some a = some b) : a = b := Option.some.inj h
section
variable {N : Nat} {P : Program} {L : Slots} {Q : Post} {W : Base} {w : World} {ops : Array Oper} {rest : List Oper} {o : Oper} {d : Nat} {R : List Res}
variable {x y z : Operand} {v u : Value} {dst : Option Tmp} {ty : TypeId} {pos : String} {af : Array Edge} {gd : Option (Nat × Bool)} {t : TypeId}
variable {α : Type} {E : El α} {l l2 : List α} {a a2 : Option Addr} {n c c2 m : Nat}
/-- What a slice's rule wants of its type. -/
def SlT (P : Program) (t : TypeId) (s : Nat) : Prop := P.underlying t = some (.slice (P.elem t)) ∧ szOf P (P.elem t) = some s
theorem yl_ix {k : IntKind} {i : Int} (ht : SlT P t E.s) (hx : ev L x = some (.slice a n c)) (hy : ev L y = some (.int k i)) (hv : View w a (E.row l)) (hp : 0 < E.s) (hn : n = l.length) (h : 0 ≤ i ∧ i < l.length) :
    Yl N P w ⟨dst, .indexAddr t x y, ty, pos, af, gd⟩ L (.pointer (some (elA a (i.toNat * E.s)))) := by
  subst hn
  have hl : 0 < (E.row l).length := by
    rw [E.row_length]; exact Nat.mul_pos (by omega) hp
  obtain ⟨b, o, rfl⟩ := hv.open hl
  exact yl_indexAddr ht.1 ht.2 hx hy h rfl
theorem View.isA {i : Int} (hv : View w a (E.row l)) (hp : 0 < E.s) (h : 0 ≤ i ∧ i < l.length) : a = some (elA a 0) := by
  have hl : 0 < (E.row l).length := by
    rw [E.row_length]; exact Nat.mul_pos (by omega) hp
  obtain ⟨b, o, rfl⟩ := hv.open hl
  rfl
theorem yl_ixP {k : IntKind} {i : Int} {s : Nat} (ht : SlT P t s) (hx : ev L x = some (.slice a n c)) (hy : ev L y = some (.int k i)) (ha : a = some (elA a 0)) (hn : n = l.length) (h : 0 ≤ i ∧ i < l.length) :
    Yl N P w ⟨dst, .indexAddr t x y, ty, pos, af, gd⟩ L (.pointer (some (elA a (i.toNat * s)))) := by
  subst hn
  have hx' : ev L x = some (.slice (some ⟨blkOf a, offOf a + 0, none⟩) l.length c) := by rw [hx]; congr 2
  exact yl_indexAddr ht.1 ht.2 hx' hy h (by show offOf a + 0 + _ = _; rw [Nat.add_zero])
theorem yl_ldE {i : Nat} {r : α} (ht : aggB P t = some true) (hs : szOf P t = some E.s) (hx : ev L x = some (.pointer (some (elA a (i * E.s))))) (hv : View w a (E.row l)) (hr : l[i]? = some r) :
    Yl N P w ⟨dst, .load t x, ty, pos, af, gd⟩ L (.agg (E.f r).toArray) := yl_loadN ht hs (E.len r) hx (View.elem hv hr)
theorem yl_ld1 {i : Nat} {r : α} (ht : aggB P t = some false) (hx : ev L x = some (.pointer (some (elA a (i * E.s))))) (hv : View w a (E.row l)) (hr : l[i]? = some r) (hf : E.f r = [v]) :
    Yl N P w ⟨dst, .load t x, ty, pos, af, gd⟩ L v := yl_load ht hx (by have := (View.elem hv hr).at_ (j := 0) (v := v) (by rw [hf]; rfl); exact this)
theorem yl_ldF {i o : Nat} {r : α} (ht : aggB P t = some false) (hx : ev L x = some (.pointer (some (elA a (i * E.s + o))))) (hv : View w a (E.row l)) (hr : l[i]? = some r) (hf : (E.f r)[o]? = some v) :
    Yl N P w ⟨dst, .load t x, ty, pos, af, gd⟩ L v := yl_load ht hx (by have := (View.elem hv hr).at_ hf; rw [Nat.add_assoc] at this; exact this)
theorem yl_ldG {i o n : Nat} {vs : List Value} {r : α} (ht : aggB P t = some true) (hs : szOf P t = some n) (hx : ev L x = some (.pointer (some (elA a (i * E.s + o))))) (hv : View w a (E.row l)) (hr : l[i]? = some r) (hl : vs.length = n) (hf : ((E.f r).drop o).take n = vs) :
    Yl N P w ⟨dst, .load t x, ty, pos, af, gd⟩ L (.agg vs.toArray) := yl_loadN ht hs hl hx (by
  have := ((View.elem hv hr).drop o).take n
  rw [hf, Nat.add_assoc] at this; exact this)
theorem yl_ldF0 {i : Nat} {r : α} (ht : aggB P t = some false) (hx : ev L x = some (.pointer (some (elA a (i * E.s))))) (hv : View w a (E.row l)) (hr : l[i]? = some r) (hf : (E.f r)[0]? = some v) :
    Yl N P w ⟨dst, .load t x, ty, pos, af, gd⟩ L v := yl_ldF (o := 0) ht hx hv hr hf
theorem yl_ldG0 {i n : Nat} {vs : List Value} {r : α} (ht : aggB P t = some true) (hs : szOf P t = some n) (hx : ev L x = some (.pointer (some (elA a (i * E.s))))) (hv : View w a (E.row l)) (hr : l[i]? = some r) (hl : vs.length = n) (hf : (E.f r).take n = vs) :
    Yl N P w ⟨dst, .load t x, ty, pos, af, gd⟩ L (.agg vs.toArray) := yl_ldG (o := 0) ht hs hx hv hr hl hf
theorem yl_fieldEl {s f off k : Nat} (hF : fieldOff P s f = some off) (hx : ev L x = some (.pointer (some (elA a k)))) : Yl N P w ⟨dst, .fieldAddr s x f, ty, pos, af, gd⟩ L (.pointer (some (elA a (k + off)))) := by
  rw [← elA_add]; exact yl_fieldAddr hF hx
theorem View.pre {l' : List α} (hv : View w a (E.row l)) (h : l' = l.take l'.length) : View w a (E.row l') := by rw [h]; exact hv.rtake _
theorem V.pre {l' : List α} (hv : V W a (E.row l)) (h : l' = l.take l'.length) : V W a (E.row l') := by rw [h]; exact hv.rtake _
/-! #### cuts -/
theorem yl_slH {k : IntKind} {j : Int} (ht : SlT P t E.s) (hx : ev L x = some (.slice a n c)) (hz : ev L z = some (.int k j)) (hn : n = l.length) (h : 0 ≤ j ∧ j ≤ l.length) (hc : l.length ≤ c) :
    Yl N P w ⟨dst, .slice t x none (some z) none, ty, pos, af, gd⟩ L (.slice a (l.take j.toNat).length c) := by
  have := yl_slice_h (N := N) (w := w) (dst := dst) (ty := ty) (pos := pos) (af := af) (gd := gd) (h := j.toNat) ht.1 (by rw [ht.2]; rfl) hx hz (by omega) (by omega)
  rw [List.length_take, Nat.min_eq_left (by omega)]; exact this
theorem yl_slL {k : IntKind} {j : Int} {a' : Option Addr} (ht : SlT P t E.s) (hx : ev L x = some (.slice a n c)) (hz : ev L z = some (.int k j)) (hn : n = l.length) (h : 0 ≤ j ∧ j ≤ l.length) (hp : Cut a' a c j.toNat E.s) :
    Yl N P w ⟨dst, .slice t x (some z) none none, ty, pos, af, gd⟩ L (.slice a' (l.drop j.toNat).length (c - j.toNat)) := by
  subst hn
  have := yl_slice_l (N := N) (w := w) (dst := dst) (ty := ty) (pos := pos) (af := af) (gd := gd) (l := j.toNat) ht.1 ht.2 hx hz (by omega) (by omega) hp
  rw [List.length_drop]; exact this
theorem yl_slLH {k k' : IntKind} {j i : Int} {a' : Option Addr} (ht : SlT P t E.s) (hx : ev L x = some (.slice a n c)) (hz : ev L z = some (.int k j)) (hy : ev L y = some (.int k' i)) (hn : n = l.length) (h : (0 ≤ j ∧ j ≤ i) ∧ i ≤ l.length) (hc : l.length ≤ c) (hp : Cut a' a c j.toNat E.s) :
    Yl N P w ⟨dst, .slice t x (some z) (some y) none, ty, pos, af, gd⟩ L (.slice a' ((l.take i.toNat).drop j.toNat).length (c - j.toNat)) := by
  subst hn
  have := yl_slice_lh (N := N) (w := w) (dst := dst) (ty := ty) (pos := pos) (af := af) (gd := gd) (l := j.toNat) (h := i.toNat) ht.1 ht.2 hx hz hy (by omega) (by omega) (by omega) (by omega) hp
  rw [List.length_drop, List.length_take, Nat.min_eq_left (by omega)]; exact this
theorem yl_slLHM {k k' k'' : IntKind} {j i q : Int} {a' : Option Addr} {u' : Operand} (ht : SlT P t E.s) (hx : ev L x = some (.slice a n c)) (hz : ev L z = some (.int k j)) (hy : ev L y = some (.int k' i)) (hu : ev L u' = some (.int k'' q)) (hn : n = l.length) (h : ((0 ≤ j ∧ j ≤ i) ∧ i ≤ q) ∧ i ≤ l.length ∧ q ≤ c) (hp : Cut a' a q.toNat j.toNat E.s) :
    Yl N P w ⟨dst, .slice t x (some z) (some y) (some u'), ty, pos, af, gd⟩ L (.slice a' ((l.take i.toNat).drop j.toNat).length (q.toNat - j.toNat)) := by
  subst hn
  have := yl_slice_lhm (N := N) (w := w) (dst := dst) (ty := ty) (pos := pos) (af := af) (gd := gd) (l := j.toNat) (h := i.toNat) (m := q.toNat) ht.1 ht.2 hx hz hy hu (by omega) (by omega) (by omega) (by omega) (by omega) (by omega) hp
  rw [List.length_drop, List.length_take, Nat.min_eq_left (by omega)]; exact this
theorem yl_lenE {e : TypeId} (ht : P.underlying t = some (.slice e)) (hx : ev L x = some (.slice a n c)) :
    Yl N P w ⟨dst, .call { callee := .builtin .len, args := #[x], argTypes := #[t] }, ty, pos, af, gd⟩ L (.int .i64 (n : Int)) := yl_len ht hx
/-! #### texts -/
theorem yl_slenE {s : List UInt8} (ht : P.underlying t = some .string) (hx : ev L x = some (.string (str s))) :
    Yl N P w ⟨dst, .call { callee := .builtin .len, args := #[x], argTypes := #[t] }, ty, pos, af, gd⟩ L (.int .i64 (s.length : Int)) := by
  have := yl_slen (N := N) (w := w) (dst := dst) (ty := ty) (pos := pos) (af := af) (gd := gd) ht hx
  rwa [str_size] at this
theorem str_list (s : List UInt8) : (str s).data.toList = s := rfl
theorem yl_ixS {k : IntKind} {j : Int} {s : List UInt8} {b : UInt8} (ht : P.underlying t = some .string) (hx : ev L x = some (.string (str s))) (hy : ev L y = some (.int k j)) (h : at? s j = some b) :
    Yl N P w ⟨dst, .index t x y, ty, pos, af, gd⟩ L (v8 b) := by
  obtain ⟨h0, h1⟩ := at?_some h
  exact yl_index_str ht hx hy (m := j.toNat) (by omega) h1
theorem toList_str (s : List UInt8) : (str s).toList = s := by
  rw [ByteArray.toList_eq]; rfl
theorem yl_eqS {s s' : List UInt8} {yt : TypeId} (hx : ev L x = some (.string (str s))) (hy : ev L y = some (.string (str s'))) : Yl N P w ⟨dst, .binOp .eql t x y yt, ty, pos, af, gd⟩ L (.bool (decide (s = s'))) :=
  yl_scmp hx hy (by simp only [scmp, toList_str, Option.some.injEq]; rw [Bool.eq_iff_iff]; simp)
theorem yl_neS {s s' : List UInt8} {yt : TypeId} (hx : ev L x = some (.string (str s))) (hy : ev L y = some (.string (str s'))) : Yl N P w ⟨dst, .binOp .neq t x y yt, ty, pos, af, gd⟩ L (.bool (!decide (s = s'))) :=
  yl_scmp hx hy (by simp only [scmp, toList_str, Option.some.injEq]; rw [Bool.eq_iff_iff]; simp)
/-- Whether a text stands ahead of another one. -/
def ltS (s s' : List UInt8) : Bool := Op.bytesLess s s'
theorem yl_ltS {s s' : List UInt8} {yt : TypeId} (hx : ev L x = some (.string (str s))) (hy : ev L y = some (.string (str s'))) : Yl N P w ⟨dst, .binOp .lss t x y yt, ty, pos, af, gd⟩ L (.bool (ltS s s')) :=
  yl_scmp hx hy (by simp only [scmp, toList_str]; rfl)
theorem yl_leS {s s' : List UInt8} {yt : TypeId} (hx : ev L x = some (.string (str s))) (hy : ev L y = some (.string (str s'))) : Yl N P w ⟨dst, .binOp .leq t x y yt, ty, pos, af, gd⟩ L (.bool (ltS s s' || decide (s = s'))) :=
  yl_scmp hx hy (by simp only [scmp, toList_str, ltS, Option.some.injEq]; congr 1; rw [Bool.eq_iff_iff]; simp)
theorem yl_gtS {s s' : List UInt8} {yt : TypeId} (hx : ev L x = some (.string (str s))) (hy : ev L y = some (.string (str s'))) : Yl N P w ⟨dst, .binOp .gtr t x y yt, ty, pos, af, gd⟩ L (.bool (!(ltS s s' || decide (s = s')))) :=
  yl_scmp hx hy (by simp only [scmp, toList_str, ltS, Option.some.injEq]; congr 2; rw [Bool.eq_iff_iff]; simp)
theorem yl_geS {s s' : List UInt8} {yt : TypeId} (hx : ev L x = some (.string (str s))) (hy : ev L y = some (.string (str s'))) : Yl N P w ⟨dst, .binOp .geq t x y yt, ty, pos, af, gd⟩ L (.bool (!ltS s s')) :=
  yl_scmp hx hy (by simp only [scmp, toList_str]; rfl)
theorem str_append (s s' : List UInt8) : str s ++ str s' = str (s ++ s') := by
  apply ByteArray.ext
  simp [str]
theorem yl_catS {s s' : List UInt8} {yt : TypeId} (hx : ev L x = some (.string (str s))) (hy : ev L y = some (.string (str s'))) (h : s.length + s'.length ≤ 9223372036854775807) : Yl N P w ⟨dst, .binOp .add t x y yt, ty, pos, af, gd⟩ L (.string (str (s ++ s'))) := by
  rw [← str_append]; exact yl_concat hx hy (by rw [str_size, str_size]; exact h)
theorem yl_strE {l : List UInt8} {e dt : TypeId} (ht : P.underlying t = some (.slice e)) (he : P.underlying e = some (.int .u8)) (hd : P.underlying dt = some .string)
    (hx : ev L x = some (.slice a n c)) (hn : n = l.length) (hv : View w a (elU8.row l)) :
    Yl N P w ⟨dst, .convert t dt x, ty, pos, af, gd⟩ L (.string (str l)) :=
  yl_string ht he hd hx hn (by rw [← elU8_row]; exact hv) (fun e => by subst e; exact hv.row_nil (by decide))
/-! #### calls -/
theorem does_fn {F : FuncId} {fs cs : Array Value} {vs args : List Value} {fo : Operand} {as : Array Operand} {ats : Array TypeId} {l : List Res} {Φ : Base → Value → World → Prop} (k : Nat)
    (hf : ev L fo = some (.func (.func F) fs cs)) (ha : evs L as.toList = some vs) (hargs : fs.toList ++ vs ++ cs.toList = args)
    (hc : Enters P F) (h : Sat W w l) (hs : ∀ U, U.w = w → Sat U w (l.take k) → Rest U (l.drop k) → Sees W U w → Calls P F args.toArray w (Ret (Φ U))) :
    Does N P w ⟨dst, .call { callee := .value fo, args := as, argTypes := ats }, ty, pos, af, gd⟩ L (fun v w' => ∃ U, Back W U (l.drop k) ∧ Φ U v w') := by
  rw [← List.take_append_drop k l] at h
  obtain ⟨U, h1, h2, h3, h4, h5⟩ := h.call
  refine (does_call hf ha hargs hc (hs U h1 h2 h3 h4)).mono ?_
  intro v w' hv
  exact ⟨U, h5, hv⟩
/-! #### rows that are new, or turned -/
theorem does_lit {parts : Array (Nat × Operand)} {len : Nat} {vs cs : List Value} {e : TypeId} (h : Sat W w R) (hp : evs L (parts.toList.map (·.2)) = some vs)
    (hb : rowOf P t len ((parts.toList.map (·.1)).zip vs) = some (e, cs.toArray)) (hx : E.row l = cs) (hl : l.length = len) (hm : len ≤ maxLen) :
    Does N P w ⟨dst, .buildSlice t len parts, ty, pos, af, gd⟩ L (fun v w' => ∃ a, v = .slice a l.length l.length ∧ Sat W w' (ow E a l.length e l :: R)) := by
  subst hl
  refine (does_buildSlice h hp hb).mono ?_
  rintro v w' ⟨b, rfl, hs⟩
  exact ⟨_, rfl, Sat.own_of_blk hs hx hm⟩
theorem does_app {e : TypeId} {bytes : Nat} (ht : P.underlying t = some (.slice e)) (hi : elI P e = some (E.s, bytes, E.s)) (h : Sat W w (ow E a c e l :: R)) (hx : ev L x = some (.slice a n c)) (hy : ev L y = some (.slice a2 m c2))
    (hn : n = l.length) (hm : m = l2.length) (hp : 0 < E.s) (hv : View w a2 (E.row l2)) (hb : (l.length + l2.length) * bytes ≤ 140737488355328) (hb0 : 0 < bytes) :
    Does N P w ⟨dst, .call { callee := .builtin .append, args := #[x, y], argTypes := #[t, t] }, ty, pos, af, gd⟩ L
      (fun v w' => ∃ a' c', v = .slice a' (l ++ l2).length c' ∧ Sat W w' (ow E a' c' e (l ++ l2) :: R)) := by
  subst hn hm
  have hle : l.length + l2.length ≤ maxLen := by
    have : (l.length + l2.length) * 1 ≤ (l.length + l2.length) * bytes := Nat.mul_le_mul_left _ hb0
    simp only [maxLen]; omega
  refine (does_append ht hi (n := l.length) h hx hy hv (E.row_length l2) (E.row_one l2) hle hb (fun e => by subst e; rw [hv.row_nil hp]; rfl) List.length_append.symm).mono ?_
  rintro v w' ⟨a', c', rfl, _, hs⟩
  refine ⟨a', c', rfl, ?_⟩
  unfold ow
  rw [E.row_append]; exact hs
theorem does_stE {i : Nat} {r : α} {e : TypeId} (h : Sat W w (ow E a c e l :: R)) (hs : szOf P t = some E.s) (hx : ev L x = some (.pointer (some (elA a (i * E.s))))) (hy : ev L y = some v) (hp : 0 < E.s) (hc : v.cells.toList = E.f r) (hi : i < l.length) :
    Does N P w ⟨dst, .store t x y, ty, pos, af, gd⟩ L (fun _ w' => Sat W w' (ow E a c e (l.set i r) :: R)) := by
  refine (does_storeArr h hs hx hy hc (E.len r) hp (E.one r) ?_).mono ?_
  · rw [E.row_length]
    have := Nat.mul_le_mul_right E.s (Nat.succ_le_of_lt hi)
    rw [Nat.succ_mul] at this; exact this
  · intro _ w' hs
    unfold ow
    rw [List.length_set, ← E.row_set r hi]; exact hs
/-- A store into a part of a row's element. -/
theorem does_stF {i o k : Nat} {r r' : α} {vs : List Value} {e : TypeId} (h : Sat W w (ow E a c e l :: R)) (hs : szOf P t = some k) (hx : ev L x = some (.pointer (some (elA a (i * E.s + o))))) (hy : ev L y = some v) (hp : 0 < k) (hc : v.cells.toList = vs) (hn : vs.length = k)
    (h1 : ∀ v ∈ vs, v.oneCell' = true) (hr : l[i]? = some r) (hk : o + k ≤ E.s) (hf : setN (E.f r) o vs = E.f r') :
    Does N P w ⟨dst, .store t x y, ty, pos, af, gd⟩ L (fun _ w' => Sat W w' (ow E a c e (l.set i r') :: R)) := by
  have hi := (List.getElem?_eq_some_iff.1 hr).1
  have hm := Nat.mul_le_mul_right E.s (Nat.succ_le_of_lt hi)
  rw [Nat.succ_mul] at hm
  refine (does_storeArr h hs hx hy hc hn hp h1 ?_).mono ?_
  · rw [E.row_length]; omega
  · intro _ w' hs
    unfold ow
    rw [List.length_set, ← E.row_set r' hi, ← hf]
    have e : setN (E.row l) (i * E.s + o) vs = setN (E.row l) (i * E.s) (setN (E.f r) o vs) := by
      apply List.ext_getElem?
      intro j
      rw [setN_get, setN_get, setN_length, E.len, E.row_length]
      by_cases h1 : i * E.s ≤ j ∧ j < i * E.s + E.s ∧ j < l.length * E.s
      · rw [if_pos h1, setN_get, E.len]
        by_cases h2 : i * E.s + o ≤ j ∧ j < i * E.s + o + vs.length ∧ j < l.length * E.s
        · rw [if_pos h2, if_pos (by omega)]; congr 1; omega
        · rw [if_neg h2, if_neg (by omega)]
          have h3 : j - i * E.s < (E.f r).length := by rw [E.len]; omega
          have h4 := E.row_get hr _ _ (List.getElem?_eq_getElem h3)
          rw [List.getElem?_eq_getElem h3, ← h4]; congr 1; omega
      · rw [if_neg h1, if_neg (by omega)]
    rw [← e]; exact hs
theorem does_stF0 {i k : Nat} {r r' : α} {vs : List Value} {e : TypeId} (h : Sat W w (ow E a c e l :: R)) (hs : szOf P t = some k) (hx : ev L x = some (.pointer (some (elA a (i * E.s))))) (hy : ev L y = some v) (hp : 0 < k) (hc : v.cells.toList = vs) (hn : vs.length = k)
    (h1 : ∀ v ∈ vs, v.oneCell' = true) (hr : l[i]? = some r) (hk : k ≤ E.s) (hf : setN (E.f r) 0 vs = E.f r') :
    Does N P w ⟨dst, .store t x y, ty, pos, af, gd⟩ L (fun _ w' => Sat W w' (ow E a c e (l.set i r') :: R)) := does_stF (o := 0) h hs hx hy hp hc hn h1 hr (by omega) hf
theorem E_rep_cells {z : Value} {r : α} (hz : z.cells.toList = E.f r) (m : Nat) : ((Array.range (m * E.s)).map fun j => z.cells[j % z.cells.size]!) = (E.row (List.replicate m r)).toArray := by
  apply Array.ext'
  have hs : z.cells.size = E.s := by rw [← E.len r, ← hz]; simp
  apply List.ext_getElem?
  intro j
  rw [Array.toList_map, Array.toList_range, List.getElem?_map]
  by_cases hj : j < m * E.s
  · rw [List.getElem?_range hj, Option.map_some]
    have hE : 0 < E.s := by
      rcases Nat.eq_zero_or_pos E.s with h | h
      · rw [h, Nat.mul_zero] at hj; omega
      · exact h
    have h1 : j / E.s < m := by rw [Nat.div_lt_iff_lt_mul hE]; exact hj
    have h2 : j % E.s < z.cells.size := by rw [hs]; exact Nat.mod_lt _ hE
    have h3 : (List.replicate m r)[j / E.s]? = some r := by rw [List.getElem?_replicate, if_pos h1]
    have h4 : (E.f r)[j % E.s]? = some z.cells[j % E.s] := by
      rw [← hz, Array.getElem?_toList, Array.getElem?_eq_getElem h2]
    have h5 := E.row_get h3 _ _ h4
    have h6 : j / E.s * E.s + j % E.s = j := by rw [Nat.mul_comm]; exact Nat.div_add_mod _ _
    rw [h6] at h5
    rw [h5, hs, getElem!_pos z.cells _ h2]
  · rw [List.getElem?_eq_none (by simpa using hj), List.getElem?_eq_none (by rw [E.row_length, List.length_replicate]; omega)]; rfl
theorem does_mk {e : TypeId} {bytes : Nat} {zz : Value} {r : α} {k k' : IntKind} {i j : Int} (h : Sat W w R) (ht : P.underlying t = some (.slice e)) (hi : elI P e = some (E.s, bytes, E.s)) (hz : zeroOf P e = some zz) (hz1 : zz.cells.toList = E.f r)
    (hx : ev L x = some (.int k i)) (hy : ev L y = some (.int k' j)) (h0 : (0 ≤ i ∧ i ≤ j) ∧ j * bytes ≤ 140737488355328) (hb0 : 0 < bytes) :
    Does N P w ⟨dst, .makeSlice t x y, ty, pos, af, gd⟩ L (fun v w' => ∃ a, v = .slice a (List.replicate i.toNat r).length j.toNat ∧ Sat W w' (ow E a j.toNat e (List.replicate i.toNat r) :: R)) := fun A ha K Q hK => by
  obtain ⟨⟨hi0, hij⟩, hbig⟩ := h0
  obtain ⟨n, rfl⟩ : ∃ n : Nat, i = n := ⟨i.toNat, by omega⟩
  obtain ⟨m, rfl⟩ : ∃ m : Nat, j = m := ⟨j.toNat, by omega⟩
  have hnm : n ≤ m := by omega
  unfold elI at hi
  cases hinfo : P.info? e with
  | none => simp [hinfo] at hi
  | some i =>
  have hzi : i.zero = some zz := by simpa [zeroOf, hinfo] using hz
  simp only [hinfo, hzi, Option.bind_some, Option.map_some, Option.some.injEq, Prod.mk.injEq] at hi
  obtain ⟨hs, hby, hzs⟩ := hi
  subst hby
  have hbig' : m * i.bytes ≤ 140737488355328 := by
    have : ((m * i.bytes : Nat) : Int) = (m : Int) * (i.bytes : Int) := Int.natCast_mul _ _
    omega
  have hm : m ≤ maxLen := by
    have : m * 1 ≤ m * i.bytes := Nat.mul_le_mul_left _ hb0
    simp only [maxLen]; omega
  have hm' : ((m : Nat) : Int) ≤ 9223372036854775807 := by simp only [maxLen] at hm; omega
  have hlt : ¬ ((281474976710656 : Int) < (i.bytes : Int) * (m : Int)) := by
    have : ((m * i.bytes : Nat) : Int) ≤ 281474976710656 := by omega
    rw [Int.natCast_mul, Int.mul_comm] at this; omega
  have hw1 : IntKind.i64.wrap (n : Int) = n := IntWalk.i64_in _ (by omega)
  have hw2 : IntKind.i64.wrap (m : Int) = m := IntWalk.i64_in _ (by omega)
  have h0 : ¬ ((m : Int) < 0) := by omega
  have h0' : ¬ ((n : Int) < 0) := by omega
  have hnm' : ¬ ((m : Int) < (n : Int)) := by omega
  have hcells := E_rep_cells hz1 m
  have hcells0 : m * E.s = 0 → ∀ zs : Array Value, ((Array.range (m * E.s)).map fun j => zs[j % zs.size]!) = (E.row (List.replicate m r)).toArray := by
    intro h zs
    have h2 : E.row (List.replicate m r) = [] := List.eq_nil_of_length_eq_zero (by rw [E.row_length, List.length_replicate, h])
    rw [h, h2]; simp
  have hrun : (execOp A.eval ⟨dst, .makeSlice t x y, ty, pos, af, gd⟩).run P w = .ok (.value (.slice (some ⟨w.heap.size, 0, none⟩) n m)) (w.alloc (.cells (E.row (List.replicate m r)).toArray e)) := by
    have hlt48 : ¬ ((2 : Int) ^ 48 < (i.bytes : Int) * (m : Int)) := hlt
    have hf : (decide ((m : Int) < 0) || decide ((i.bytes : Int) * (m : Int) > 2 ^ 48) || decide ((n : Int) < 0) || decide ((n : Int) > (m : Int))) = false := by
      rw [decide_eq_false h0, decide_eq_false h0', decide_eq_false hlt48, decide_eq_false hnm']
      rfl
    simp only [execOp, ha.eval hx, ha.eval hy, Instr.makeSlice, Sem.run_bind, run_underlying ht, Result.andThen_ok, asInt, asIntOf, Sem.run_pure, typeInfo, run_program, hinfo, hw1, hw2, hf, Bool.false_eq_true, ↓reduceIte, run_askRoom, sizeOf, hs, Int.toNat_natCast]
    by_cases hm0 : m * E.s = 0
    · rw [if_pos hm0]
      simp only [Sem.run_bind, Sem.run_pure, Sem.run_pure', Result.andThen_ok, newRow, run_newObj, World.alloc_eq, hcells0 hm0]
    · rw [if_neg hm0]
      simp only [Sem.run_bind, run_zero hz, Sem.run_pure, Sem.run_pure', Result.andThen_ok, newRow, run_newObj, World.alloc_eq, hcells]
  unfold Oper.wp
  rw [hrun]
  have hlen : (List.replicate (n : Int).toNat r).length = n := by rw [List.length_replicate]; omega
  have hnn : (n : Int).toNat = n := by omega
  have hmm : (m : Int).toNat = m := by omega
  refine hK _ _ ⟨some ⟨w.heap.size, 0, none⟩, by rw [hlen, hmm], ?_⟩
  rw [hnn, hmm]
  unfold ow
  refine Sat.arr_of_blk (h.blk_new (E.row (List.replicate m r)) e) (by rw [E.row_length]) (by rw [List.length_replicate]; exact hnm) hm (E.row_one _) (by rw [E.row_length, List.length_replicate]; exact Nat.le_refl _) ?_
  rw [E.row_length, List.length_replicate, ← E.row_take, List.take_replicate, Nat.min_eq_left hnm]
end
end Go.Proofs.YtpheilpcklfknaaDoor
