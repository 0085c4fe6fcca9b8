/-
  What the functions that the statement ContactBack reaches compute, as plain laws; and the statement about them. No condition.
-/
import Derived.Test.YtaaahjcldomnbaaContactBackMod
import Derived.Test.YtaaahjcldomnbaaBPure
namespace Go.Proofs.Ytaaahjcldomnbaa
open Go Go.RowKit
set_option linter.unusedVariables false
set_option linter.unusedSimpArgs false
/-! ### octet -/
theorem octet_may (w : Int) : M_octet_may w = some (decide (1 ≤ w ∧ w ≤ 8)) := by
  unfold M_octet_may
  by_cases h : 1 ≤ w <;> simp [h]
/-- The number that stands at a place. -/
def getS (b : List UInt8) (a w : Int) : UInt64 × Bool := if (1 ≤ w ∧ w ≤ 8) ∧ 0 ≤ a ∧ a + w ≤ b.length then (num ((b.drop a.toNat).take w.toNat), true) else (0, false)
theorem octet_get {b : List UInt8} {a w : Int} (hb : b.length ≤ 4611686018427387904) : M_octet_Get_v b a w = some (getS b a w) := by
  have hk : ∀ t, M_octet_Get_v_k1 a b w t = if t = true then some (0, false) else if (0 ≤ a ∧ 0 ≤ w) ∧ a + w ≤ b.length then some (num ((b.drop a.toNat).take w.toNat), true) else M_octet_Get_v_k1 a b w t := by
    intro t
    by_cases ht : t = true
    · subst ht; rfl
    · rw [if_neg ht]
      by_cases h : (0 ≤ a ∧ 0 ≤ w) ∧ a + w ≤ b.length
      · rw [if_pos h]
        unfold M_octet_Get_v_k1
        have e : (b.take (a + w).toNat).drop a.toNat = (b.drop a.toNat).take w.toNat := by
          rw [List.drop_take]; congr 1; omega
        rw [if_neg ht, if_pos (ok_small (by omega)), if_pos (by omega), loop_fold0 ((b.drop a.toNat).take w.toNat) (fun n x => n * 256 + x.toUInt64) (by simp; omega)]
        · rfl
        · intro s t
          unfold M_octet_Get_v_b2
          rw [e]
          simp only [shl_or]
      · rw [if_neg h]
  unfold M_octet_Get_v
  rw [octet_may, Option.bind_some]
  unfold getS
  by_cases h1 : 1 ≤ w ∧ w ≤ 8
  · rw [if_pos (decide_eq_true h1)]
    by_cases h2 : a < 0
    · rw [if_pos h2, hk, if_pos rfl, if_neg (by omega)]
    · rw [if_neg h2]
      by_cases h3 : (b.length : Int) < a
      · rw [if_pos h3, hk, if_pos rfl, if_neg (by omega)]
      · rw [if_neg h3, if_pos (ok_small (by omega)), hk]
        by_cases h4 : (b.length : Int) - a < w
        · rw [if_pos (decide_eq_true h4), if_neg (by omega)]
        · rw [if_neg (by simpa using h4), if_pos (by omega), if_pos (by omega)]
  · rw [if_neg (by simpa using h1), hk, if_pos rfl, if_neg (by simp [h1])]
/-! ### octet.Reader -/
/-- What a reader of these bytes tells next, and what is left. -/
def takeS (r : List UInt8) (bad : Bool) (n : Int) : List UInt8 × List UInt8 × Bool := if bad = true ∨ n < 0 ∨ (r.length : Int) < n then ([], [], true) else (r.take n.toNat, r.drop n.toNat, bad)
def numS (r : List UInt8) (bad : Bool) (w : Int) : UInt64 × List UInt8 × Bool := if bad = true ∨ ¬ (1 ≤ w ∧ w ≤ 8) ∨ (r.length : Int) < w then (0, [], true) else (num (r.take w.toNat), r.drop w.toNat, bad)
theorem octet_cut (r : List UInt8) (o bad : Bool) (n : Int) : M_octet_rest_cut_po r o bad n = some (if bad = true ∨ n < 0 ∨ (r.length : Int) < n then .inl () else .inr ()) := by
  have h1 : M_octet_rest_cut_po_k1 r bad n o true = some (.inl ()) := rfl
  unfold M_octet_rest_cut_po
  by_cases hb : bad = true
  · rw [if_pos hb, h1, if_pos (.inl hb)]
  · rw [if_neg hb]
    by_cases hn : n < 0
    · rw [if_pos hn, h1, if_pos (.inr (.inl hn))]
    · rw [if_neg hn]
      by_cases hl : (r.length : Int) < n
      · rw [decide_eq_true hl, h1, if_pos (.inr (.inr hl))]
      · rw [decide_eq_false hl, if_neg (by simp [hb, hn, hl])]
        unfold M_octet_rest_cut_po_k1
        rw [if_neg (by decide), if_pos (by omega), if_pos (by omega)]
theorem octet_take {r : List UInt8} {bad : Bool} {n : Int} (hr : r.length ≤ 140737488355328) : M_octet_Reader_Take_po r true bad n = some (takeS r bad n) := by
  unfold M_octet_Reader_Take_po M_octet_Reader_none_po takeS
  rw [Option.bind_some, if_pos rfl, octet_cut, Option.bind_some]
  by_cases h : bad = true ∨ n < 0 ∨ (r.length : Int) < n
  · simp only [if_pos h]
  · simp only [if_neg h]
    rw [if_pos (by rw [List.length_take]; omega)]; rfl
theorem takeS_len (r : List UInt8) (bad : Bool) (n : Int) : (takeS r bad n).2.1.length ≤ r.length := by
  unfold takeS; split <;> simp
theorem numS_len (r : List UInt8) (bad : Bool) (n : Int) : (numS r bad n).2.1.length ≤ r.length := by
  unfold numS; split <;> simp
theorem takeS_suffix (r : List UInt8) (bad : Bool) (n : Int) : (takeS r bad n).2.1 <:+ r := by
  unfold takeS; split
  · exact List.nil_suffix
  · exact List.drop_suffix _ _
theorem numS_suffix (r : List UInt8) (bad : Bool) (n : Int) : (numS r bad n).2.1 <:+ r := by
  unfold numS; split
  · exact List.nil_suffix
  · exact List.drop_suffix _ _
theorem octet_num {r : List UInt8} {bad : Bool} {w : Int} (hr : r.length ≤ 140737488355328) : M_octet_Reader_Num_po r true bad w = some (numS r bad w) := by
  unfold M_octet_Reader_Num_po M_octet_Reader_none_po numS
  rw [Option.bind_some, if_pos rfl, octet_may, Option.bind_some]
  by_cases h1 : 1 ≤ w ∧ w ≤ 8
  · rw [if_pos (decide_eq_true h1), octet_cut, Option.bind_some]
    by_cases h : bad = true ∨ w < 0 ∨ (r.length : Int) < w
    · simp only [if_pos h]
      rw [if_pos (by rcases h with h | h | h; · exact .inl h
                     · omega
                     · exact .inr (.inr h))]
    · simp only [if_neg h]
      rw [octet_get (by rw [List.length_take]; omega), Option.bind_some, if_neg (by simp only [not_or] at h ⊢; exact ⟨h.1, fun hh => hh h1, h.2.2⟩)]
      unfold getS
      rw [if_pos ⟨h1, by omega, by rw [List.length_take]; omega⟩]
      simp [List.take_take]
  · rw [if_neg (by simpa using h1), if_pos (.inr (.inl h1))]
    rfl
/-! ### addresses, contacts -/
theorem addr_good (a : G_api_Addr) : M_addr_Good a = some (decide (a.Host ≠ 0 ∧ a.Port ≠ 0)) := by
  unfold M_addr_Good
  by_cases h : a.Host = 0
  · simp [h]
  · rw [if_neg h]
    by_cases h2 : a.Port = 0
    · simp [h2]
    · rw [if_neg h2]
      have : ¬ a = ⟨0, 0⟩ := fun e => h (by rw [e])
      simp [h, h2, this]
theorem ref06_good (a : G_signpostref06_Addr) : M_signpostref06_Good a = some (decide (a.Host ≠ 0 ∧ a.Port ≠ 0)) := by
  unfold M_signpostref06_Good
  by_cases h : a.Host = 0
  · simp [h]
  · rw [if_neg h]
    simp [h]
/-- The host and the port that six bytes tell. -/
def hostS (b : List UInt8) : UInt32 := (num (b.take 4)).toUInt32
def portS (b : List UInt8) : UInt16 := (num ((b.drop 4).take 2)).toUInt16
theorem addr_read (b : List UInt8) : M_addr_Read_v b = some (if b.length = 6 ∧ hostS b ≠ 0 ∧ portS b ≠ 0 then (⟨hostS b, portS b⟩, 0) else (⟨0, 0⟩, 10)) := by
  unfold M_addr_Read_v
  by_cases h : b.length = 6
  · have e1 : numS b false 4 = (num (b.take 4), b.drop 4, false) := by
      unfold numS; rw [if_neg (by simp; omega)]; rfl
    have e2 : numS (b.drop 4) false 2 = (num ((b.drop 4).take 2), (b.drop 4).drop 2, false) := by
      unfold numS; rw [if_neg (by simp; omega)]; rfl
    rw [if_pos (by omega)]
    unfold M_octet_Open_v
    rw [if_pos (by omega), Option.bind_some, List.nil_append, octet_num (by omega), Option.bind_some, e1]
    simp only
    rw [octet_num (by rw [List.length_drop]; omega), Option.bind_some, e2]
    simp only
    rw [addr_good, Option.bind_some]
    simp only [decide_eq_true_eq]
    rw [show (num (b.take 4)).toUInt32 = hostS b from rfl, show (num ((b.drop 4).take 2)).toUInt16 = portS b from rfl]
    by_cases hg : hostS b ≠ 0 ∧ portS b ≠ 0
    · rw [if_pos hg, if_pos ⟨h, hg⟩]
    · rw [if_neg hg, if_neg (fun hh => hg hh.2)]
  · rw [if_neg (by omega), if_neg (fun hh => h hh.1)]
/-- A contact, whoever's. -/
structure CT where
  id : Fin 20 → UInt8
  host : UInt32
  port : UInt16
def CT.p (c : CT) : G_api_Contact := ⟨c.id, ⟨c.host, c.port⟩⟩
def CT.r (c : CT) : G_signpostref08_Contact := ⟨c.id, ⟨c.host, c.port⟩⟩
def idS (b : List UInt8) : Fin 20 → UInt8 := copyA (fun _ => 0) b
def contS (b : List UInt8) : Option CT := if b.length = 26 ∧ hostS (b.drop 20) ≠ 0 ∧ portS (b.drop 20) ≠ 0 then some ⟨idS b, hostS (b.drop 20), portS (b.drop 20)⟩ else none
theorem contact_read (b : List UInt8) : M_contact_Read_v b = some (match contS b with | some c => (c.p, 0) | none => (⟨fun _ => 0, ⟨0, 0⟩⟩, 10)) := by
  unfold M_contact_Read_v contS
  by_cases h : b.length = 26
  · rw [if_pos (by omega), if_pos (by omega), addr_read, Option.bind_some]
    by_cases hg : hostS (b.drop 20) ≠ 0 ∧ portS (b.drop 20) ≠ 0
    · rw [if_pos ⟨by rw [List.length_drop]; omega, hg⟩, if_pos ⟨h, hg⟩]
      simp only [if_pos]
      rw [if_neg (fun e => hg.1 (congrArg (fun c => c.Addr.Host) e))]
      rfl
    · rw [if_neg (fun hh => hg hh.2), if_neg (fun hh => hg hh.2)]
      simp
  · rw [if_neg (by omega), if_neg (fun hh => h hh.1)]
theorem copyA_take {n : Nat} (f : Fin n → UInt8) (l : List UInt8) : copyA f (l.take n) = copyA f l := by
  funext i
  unfold copyA
  rw [List.getElem?_take, if_pos i.isLt]
/-! ### lists of contacts -/
/-- The place of the first contact of an ID, from a place on; or -1. -/
def findF (id : Fin 20 → UInt8) : Int → List CT → Int
  | _, [] => -1
  | k, c :: l => if c.id = id then k else findF id (k + 1) l
theorem find_loopP {l : List CT} {id : Fin 20 → UInt8} (hl : l.length ≤ 4611686018427387904) : ∀ (d k : Nat), l.length = k + d →
    loopO (fun z_ => M_slices_IndexFunc_Contact_v_contact_Find_1p_b1 id (l.map CT.p) z_) (k : Int) = some (if findF id k (l.drop k) = -1 then .inl () else .inr (findF id k (l.drop k))) := by
  intro d
  induction d with
  | zero =>
    intro k h
    rw [loopO_end (r := .inl ()) (by unfold M_slices_IndexFunc_Contact_v_contact_Find_1p_b1; rw [if_neg (by rw [List.length_map]; omega)]), List.drop_of_length_le (by omega)]; rfl
  | succ d ih =>
    intro k h
    have hk : k < l.length := by omega
    have hx : at? (l.map CT.p) (k : Int) = some (l[k].p) := by rw [at?_in (by rw [List.length_map]; exact hk)]; simp
    rw [List.drop_eq_getElem_cons hk]
    unfold findF
    by_cases hc : l[k].id = id
    · rw [if_pos hc, if_neg (by omega)]
      exact loopO_end (by
        unfold M_slices_IndexFunc_Contact_v_contact_Find_1p_b1 M_contact_Find_1_p
        rw [if_pos (by rw [List.length_map]; omega), hx, Option.bind_some, Option.bind_some, if_pos (show l[k].p.ID = id from hc)])
    · rw [if_neg hc, loopO_next (s' := ((k + 1 : Nat) : Int)) (by
        unfold M_slices_IndexFunc_Contact_v_contact_Find_1p_b1 M_contact_Find_1_p
        rw [if_pos (by rw [List.length_map]; omega), hx, Option.bind_some, Option.bind_some, if_neg (show ¬ l[k].p.ID = id from hc), if_pos (ok_small (by omega))]; rfl), ih (k + 1) (by omega)]
      rfl
theorem find_loopR {l : List CT} {id : Fin 20 → UInt8} (hl : l.length ≤ 4611686018427387904) : ∀ (d k : Nat), l.length = k + d →
    loopO (fun z_ => M_signpostref08_Find_v_b1 id (l.map CT.r) z_) (k : Int) = some (if findF id k (l.drop k) = -1 then .inl () else .inr (findF id k (l.drop k))) := by
  intro d
  induction d with
  | zero =>
    intro k h
    rw [loopO_end (r := .inl ()) (by unfold M_signpostref08_Find_v_b1; rw [if_neg (by rw [List.length_map]; omega)]), List.drop_of_length_le (by omega)]; rfl
  | succ d ih =>
    intro k h
    have hk : k < l.length := by omega
    have hx : at? (l.map CT.r) (k : Int) = some (l[k].r) := by rw [at?_in (by rw [List.length_map]; exact hk)]; simp
    rw [List.drop_eq_getElem_cons hk]
    unfold findF
    by_cases hc : l[k].id = id
    · rw [if_pos hc, if_neg (by omega)]
      exact loopO_end (by
        unfold M_signpostref08_Find_v_b1
        rw [if_pos (by rw [List.length_map]; omega), hx, Option.bind_some, if_pos (show l[k].r.ID = id from hc)])
    · rw [if_neg hc, loopO_next (s' := ((k + 1 : Nat) : Int)) (by
        unfold M_signpostref08_Find_v_b1
        rw [if_pos (by rw [List.length_map]; omega), hx, Option.bind_some, if_neg (show ¬ l[k].r.ID = id from hc), if_pos (ok_small (by omega))]; rfl), ih (k + 1) (by omega)]
      rfl
def findS (l : List CT) (id : Fin 20 → UInt8) : Int := findF id 0 l
theorem contact_find {l : List CT} {id : Fin 20 → UInt8} (hl : l.length ≤ 4611686018427387904) : M_contact_Find_v (l.map CT.p) id = some (findS l id) := by
  unfold M_contact_Find_v M_slices_IndexFunc_Contact_v_contact_Find_1p
  have := find_loopP (id := id) hl l.length 0 (by omega)
  rw [show ((0 : Nat) : Int) = 0 from rfl] at this
  rw [this, Option.bind_some]
  unfold findS
  rw [List.drop_zero]
  by_cases h : findF id 0 l = -1
  · rw [if_pos h, h]; rfl
  · rw [if_neg h]; rfl
theorem ref08_find {l : List CT} {id : Fin 20 → UInt8} (hl : l.length ≤ 4611686018427387904) : M_signpostref08_Find_v (l.map CT.r) id = some (findS l id) := by
  unfold M_signpostref08_Find_v
  have := find_loopR (id := id) hl l.length 0 (by omega)
  rw [show ((0 : Nat) : Int) = 0 from rfl] at this
  rw [this, Option.bind_some]
  unfold findS
  rw [List.drop_zero]
  by_cases h : findF id 0 l = -1
  · rw [if_pos h, h]
  · rw [if_neg h]
/-- Whether the contacts of a list, from a place on, are good, and first of their IDs. -/
def goodF (l : List CT) : Int → List CT → Bool
  | _, [] => true
  | k, c :: r => decide (c.host ≠ 0 ∧ c.port ≠ 0) && decide (findS l c.id = k) && goodF l (k + 1) r
theorem good_loopP {l : List CT} (hl : l.length ≤ 4611686018427387904) : ∀ (d k : Nat), l.length = k + d →
    loopO (fun z_ => M_contact_good_v_b1 (l.map CT.p) z_) (k : Int) = some (if goodF l k (l.drop k) = true then .inl () else .inr false) := by
  intro d
  induction d with
  | zero =>
    intro k h
    rw [loopO_end (r := .inl ()) (by unfold M_contact_good_v_b1; rw [if_neg (by rw [List.length_map]; omega)]), List.drop_of_length_le (by omega)]; rfl
  | succ d ih =>
    intro k h
    have hk : k < l.length := by omega
    have hx : at? (l.map CT.p) (k : Int) = some (l[k].p) := by rw [at?_in (by rw [List.length_map]; exact hk)]; simp
    have hb : M_contact_good_v_b1 (l.map CT.p) (k : Int) = if l[k].host ≠ 0 ∧ l[k].port ≠ 0 then if findS l l[k].id = k then some (.inl ((k : Int) + 1)) else some (.inr (.inr false)) else some (.inr (.inr false)) := by
      unfold M_contact_good_v_b1 M_contact_Good
      rw [if_pos (by rw [List.length_map]; omega), hx, Option.bind_some, addr_good, Option.bind_some, Option.bind_some]
      simp only [decide_eq_true_eq]
      have e : (l[k].p.Addr.Host ≠ 0 ∧ l[k].p.Addr.Port ≠ 0) ↔ (l[k].host ≠ 0 ∧ l[k].port ≠ 0) := Iff.rfl
      by_cases hg : l[k].host ≠ 0 ∧ l[k].port ≠ 0
      · rw [if_pos (e.2 hg), if_pos hg, show l[k].p.ID = l[k].id from rfl, contact_find hl, Option.bind_some, if_pos (ok_small (by omega))]
      · rw [if_neg (fun hh => hg (e.1 hh)), if_neg hg]
    rw [List.drop_eq_getElem_cons hk]
    unfold goodF
    by_cases hg : l[k].host ≠ 0 ∧ l[k].port ≠ 0
    · by_cases hf : findS l l[k].id = k
      · rw [loopO_next (s' := ((k + 1 : Nat) : Int)) (by show M_contact_good_v_b1 (l.map CT.p) (k : Int) = _; rw [hb, if_pos hg, if_pos hf]; rfl), ih (k + 1) (by omega), decide_eq_true hg, decide_eq_true hf]
        simp
      · rw [loopO_end (r := .inr false) (by show M_contact_good_v_b1 (l.map CT.p) (k : Int) = _; rw [hb, if_pos hg, if_neg hf]), decide_eq_false hf]
        simp
    · rw [loopO_end (r := .inr false) (by show M_contact_good_v_b1 (l.map CT.p) (k : Int) = _; rw [hb, if_neg hg]), decide_eq_false hg]
      simp
def goodS (l : List CT) : Bool := goodF l 0 l && decide ((l.length : Int) ≤ 64)
theorem contact_good {l : List CT} (hl : l.length ≤ 4611686018427387904) : M_contact_good_v (l.map CT.p) = some (goodS l) := by
  unfold M_contact_good_v goodS
  have := good_loopP hl l.length 0 (by omega)
  rw [show ((0 : Nat) : Int) = 0 from rfl] at this
  rw [this, Option.bind_some, List.drop_zero]
  cases h : goodF l 0 l <;> simp
theorem good_loopR {l : List CT} (hl : l.length ≤ 4611686018427387904) : ∀ (d k : Nat), l.length = k + d →
    loopO (fun z_ => M_signpostref08_GoodList_v_b1 (l.map CT.r) z_) (k : Int) = some (if goodF l k (l.drop k) = true then .inl () else .inr false) := by
  intro d
  induction d with
  | zero =>
    intro k h
    rw [loopO_end (r := .inl ()) (by unfold M_signpostref08_GoodList_v_b1; rw [if_neg (by rw [List.length_map]; omega)]), List.drop_of_length_le (by omega)]; rfl
  | succ d ih =>
    intro k h
    have hk : k < l.length := by omega
    have hx : at? (l.map CT.r) (k : Int) = some (l[k].r) := by rw [at?_in (by rw [List.length_map]; exact hk)]; simp
    have hb : M_signpostref08_GoodList_v_b1 (l.map CT.r) (k : Int) = if l[k].host ≠ 0 ∧ l[k].port ≠ 0 then if findS l l[k].id = k then some (.inl ((k : Int) + 1)) else some (.inr (.inr false)) else some (.inr (.inr false)) := by
      unfold M_signpostref08_GoodList_v_b1 M_signpostref08_Good
      rw [if_pos (by rw [List.length_map]; omega), hx, Option.bind_some, ref06_good, Option.bind_some, Option.bind_some]
      simp only [decide_eq_true_eq]
      have e : (l[k].r.Addr.Host ≠ 0 ∧ l[k].r.Addr.Port ≠ 0) ↔ (l[k].host ≠ 0 ∧ l[k].port ≠ 0) := Iff.rfl
      by_cases hg : l[k].host ≠ 0 ∧ l[k].port ≠ 0
      · rw [if_pos (e.2 hg), if_pos hg, show l[k].r.ID = l[k].id from rfl, ref08_find hl, Option.bind_some, if_pos (ok_small (by omega))]
      · rw [if_neg (fun hh => hg (e.1 hh)), if_neg hg]
    rw [List.drop_eq_getElem_cons hk]
    unfold goodF
    by_cases hg : l[k].host ≠ 0 ∧ l[k].port ≠ 0
    · by_cases hf : findS l l[k].id = k
      · rw [loopO_next (s' := ((k + 1 : Nat) : Int)) (by show M_signpostref08_GoodList_v_b1 (l.map CT.r) (k : Int) = _; rw [hb, if_pos hg, if_pos hf]; rfl), ih (k + 1) (by omega), decide_eq_true hg, decide_eq_true hf]
        simp
      · rw [loopO_end (r := .inr false) (by show M_signpostref08_GoodList_v_b1 (l.map CT.r) (k : Int) = _; rw [hb, if_pos hg, if_neg hf]), decide_eq_false hf]
        simp
    · rw [loopO_end (r := .inr false) (by show M_signpostref08_GoodList_v_b1 (l.map CT.r) (k : Int) = _; rw [hb, if_neg hg]), decide_eq_false hg]
      simp
theorem ref08_good {l : List CT} (hl : l.length ≤ 4611686018427387904) : M_signpostref08_GoodList_v (l.map CT.r) = some (goodS l) := by
  unfold M_signpostref08_GoodList_v goodS
  have := good_loopR hl l.length 0 (by omega)
  rw [show ((0 : Nat) : Int) = 0 from rfl] at this
  rw [this, Option.bind_some, List.drop_zero]
  cases h : goodF l 0 l <;> simp
/-! ### reading lists -/
/-- So many contacts, read one by one behind these: whether all were there, and what is left. -/
def readF : Nat → List CT → List UInt8 → Bool → Option (List CT × List UInt8 × Bool)
  | 0, out, r, bad => some (out, r, bad)
  | n + 1, out, r, bad => match contS (takeS r bad 26).1 with
    | some c => readF n (out ++ [c]) (takeS r bad 26).2.1 (takeS r bad 26).2.2
    | none => none
theorem takeS_bad (r : List UInt8) (bad : Bool) : takeS r bad (-1) = ([], [], true) := by unfold takeS; rw [if_pos (.inr (.inl (by decide)))]
theorem readF_bound : ∀ (n : Nat) (out : List CT) (r : List UInt8) (bad : Bool) {o : List CT × List UInt8 × Bool}, readF n out r bad = some o → o.1.length = out.length + n ∧ o.2.1 <:+ r
  | 0, out, r, bad, o, h => by simp only [readF, Option.some.injEq] at h; subst h; exact ⟨rfl, List.suffix_refl _⟩
  | n + 1, out, r, bad, o, h => by
    unfold readF at h
    split at h
    · rename_i c hc
      obtain ⟨h1, h2⟩ := readF_bound n _ _ _ h
      exact ⟨by rw [h1, List.length_append]; simp; omega, h2.trans (takeS_suffix _ _ _)⟩
    · cases h
theorem readP_loop {m : Nat} (hm : m ≤ 255) : ∀ (d k : Nat) (out : List CT) (r : List UInt8) (bad : Bool), m = k + d → out.length = k → r.length ≤ 140737488355328 →
    loopO (fun z_ => M_contact_ReadList_po_b1 true (UInt64.ofNat m) z_.1 z_.2.1 z_.2.2.1 z_.2.2.2) (out.map CT.p, r, bad, UInt64.ofNat k) =
      some (match readF d out r bad with | some o => .inl (o.1.map CT.p, o.2.1, o.2.2) | none => .inr ([], [], true)) := by
  have hlt : ∀ k, k ≤ 255 → (UInt64.ofNat k).toNat = k := fun k hk => by rw [UInt64.toNat_ofNat']; omega
  intro d
  induction d with
  | zero =>
    intro k out r bad h ho hr
    exact loopO_end (by
      simp only [M_contact_ReadList_po_b1]
      rw [if_neg (by rw [UInt64.lt_iff_toNat_lt, hlt _ (by omega), hlt _ hm]; omega)]; rfl)
  | succ d ih =>
    intro k out r bad h ho hr
    have hlen := takeS_len r bad 26
    rcases ht : takeS r bad 26 with ⟨x, r', b'⟩
    rw [ht] at hlen; simp only at hlen
    have hc := contact_read x
    have hb : M_contact_ReadList_po_b1 true (UInt64.ofNat m) (out.map CT.p) r bad (UInt64.ofNat k) =
        match contS x with | some c => some (.inl ((out ++ [c]).map CT.p, r', b', UInt64.ofNat (k + 1))) | none => some (.inr (.inr ([], [], true))) := by
      unfold M_contact_ReadList_po_b1
      rw [if_pos (by rw [UInt64.lt_iff_toNat_lt, hlt _ (by omega), hlt _ hm]; omega), octet_take hr, Option.bind_some, ht]
      simp only
      rw [hc, Option.bind_some]
      cases hh : contS x with
      | none =>
        simp only
        rw [if_neg (by decide), octet_take (by omega), Option.bind_some, takeS_bad]
      | some c =>
        simp only
        rw [if_pos trivial, if_pos (by rw [List.length_map]; omega)]
        have e : UInt64.ofNat k + 1 = UInt64.ofNat (k + 1) := by
          apply UInt64.toNat_inj.1
          rw [UInt64.toNat_add, hlt _ (by omega), hlt _ (by omega)]
          show (k + 1) % 2 ^ 64 = k + 1
          omega
        rw [e, List.map_append]; rfl
    unfold readF
    rw [ht]
    simp only
    cases hh : contS x with
    | none =>
      rw [hh] at hb
      exact loopO_end (by exact hb)
    | some c =>
      rw [hh] at hb
      rw [loopO_next (s' := ((out ++ [c]).map CT.p, r', b', UInt64.ofNat (k + 1))) (by exact hb)]
      exact ih (k + 1) _ _ _ (by omega) (by rw [List.length_append, ho]; rfl) (by omega)
/-- The list that is read; what is left. -/
def listS (r : List UInt8) (bad : Bool) : List CT × List UInt8 × Bool :=
  match readF (numS r bad 1).1.toNat [] (numS r bad 1).2.1 (numS r bad 1).2.2 with
  | some o => if goodS o.1 = true then o else ([], [], true)
  | none => ([], [], true)
theorem num1 (r : List UInt8) (bad : Bool) : ∃ m : Nat, m ≤ 255 ∧ (numS r bad 1).1 = UInt64.ofNat m := by
  unfold numS
  split
  · exact ⟨0, by omega, rfl⟩
  · match r with
    | [] => exact ⟨0, by omega, rfl⟩
    | x :: r =>
      refine ⟨x.toNat, by have := x.toNat_lt; omega, ?_⟩
      apply UInt64.toNat_inj.1
      have := x.toNat_lt
      simp [num]
theorem contact_readList {r : List UInt8} {bad : Bool} (hr : r.length ≤ 140737488355328) : M_contact_ReadList_po r true bad = some ((listS r bad).1.map CT.p, (listS r bad).2.1, (listS r bad).2.2) := by
  obtain ⟨m, hm, e⟩ := num1 r bad
  have hl := numS_len r bad 1
  have hlt : (UInt64.ofNat m).toNat = m := by rw [UInt64.toNat_ofNat']; omega
  unfold M_contact_ReadList_po listS
  rw [octet_num hr, Option.bind_some]
  simp only
  rw [e, hlt]
  have := readP_loop hm m 0 [] (numS r bad 1).2.1 (numS r bad 1).2.2 (by omega) rfl (by omega)
  rw [show UInt64.ofNat 0 = 0 from rfl, List.map_nil] at this
  rw [this, Option.bind_some]
  cases hh : readF m [] (numS r bad 1).2.1 (numS r bad 1).2.2 with
  | none => rfl
  | some o =>
    obtain ⟨h1, h2⟩ := readF_bound _ _ _ _ hh
    simp only
    rw [contact_good (by rw [h1]; simp; omega), Option.bind_some]
    cases hg : goodS o.1 with
    | true => rfl
    | false =>
      simp only [Bool.false_eq_true, if_false]
      rw [octet_take (by have := h2.length_le; omega), Option.bind_some, takeS_bad]; rfl
/-! ### numbers put -/
/-- The bytes of a number, so many, the most significant first. -/
def putF (n : UInt64) : Nat → List UInt8
  | 0 => []
  | d + 1 => (shr64 n (8 * d)).toUInt8 :: putF n d
theorem putF_len (n : UInt64) : ∀ d, (putF n d).length = d
  | 0 => rfl
  | d + 1 => by rw [putF, List.length_cons, putF_len n d]
theorem put_loop {n : UInt64} {w : Nat} (hw : w ≤ 8) : ∀ (d k : Nat) (out : List UInt8), w = k + d → out.length + d ≤ 140737488355328 →
    loopO (fun z_ => M_octet_Put_v_b1 n (w : Int) z_.1 z_.2) (out, (k : Int)) = some (out ++ putF n d) := by
  intro d
  induction d with
  | zero =>
    intro k out h ho
    rw [loopO_end (r := out) (by unfold M_octet_Put_v_b1; rw [if_neg (by omega)]), putF, List.append_nil]
  | succ d ih =>
    intro k out h ho
    have e : (UInt64.ofInt (8 * (((w : Int) - 1) - (k : Int)))).toNat = 8 * d := by
      rw [show (8 * (((w : Int) - 1) - (k : Int)) : Int) = ((8 * d : Nat) : Int) by omega]
      rw [show UInt64.ofInt ((8 * d : Nat) : Int) = UInt64.ofNat (8 * d) by
        apply UInt64.toNat_inj.1
        simp [UInt64.ofInt, UInt64.toNat_ofNat']; omega, UInt64.toNat_ofNat']
      omega
    rw [loopO_next (s' := (out ++ [(shr64 n (8 * d)).toUInt8], ((k + 1 : Nat) : Int))) (by
      show M_octet_Put_v_b1 n (w : Int) out (k : Int) = _
      unfold M_octet_Put_v_b1
      rw [if_pos (by omega), if_pos (ok_small (by omega)), if_pos (ok_small (by omega)), if_pos (ok_small (by omega)), if_pos (by omega), if_pos (ok_small (by omega)), e]; rfl),
      ih (k + 1) _ (by omega) (by rw [List.length_append, List.length_singleton]; omega), putF, List.append_assoc]
    rfl
theorem octet_put {b : List UInt8} {n : UInt64} {w : Int} (hb : b.length ≤ 140737488355320) : M_octet_Put_v b n w = some (if 1 ≤ w ∧ w ≤ 8 then b ++ putF n w.toNat else b) := by
  unfold M_octet_Put_v
  rw [if_pos (by omega), octet_may, Option.bind_some]
  by_cases h : 1 ≤ w ∧ w ≤ 8
  · have hl := put_loop (n := n) (w := w.toNat) (by omega) w.toNat 0 b (by omega) (by omega)
    rw [show ((w.toNat : Nat) : Int) = w by omega, show ((0 : Nat) : Int) = 0 from rfl] at hl
    rw [if_pos (decide_eq_true h), if_pos h, List.nil_append, hl]
    rfl
  · rw [if_neg (by simpa using h), if_neg h]; rfl
theorem num_put (n : UInt64) : ∀ (d : Nat) (s : UInt64), ((putF n d).foldl (fun n x => n * 256 + x.toUInt64) s).toNat = (s.toNat * 256 ^ d + n.toNat % 256 ^ d) % 18446744073709551616
  | 0, s => by
    have := s.toNat_lt
    simp [putF, Nat.mod_one]
  | d + 1, s => by
    have hn := n.toNat_lt
    rw [putF, List.foldl_cons, num_put n d]
    have e0 : (256 : Nat) ^ d = 2 ^ (8 * d) := by rw [Nat.pow_mul]
    have e1 : ((shr64 n (8 * d)).toUInt8).toUInt64.toNat = n.toNat / 256 ^ d % 256 := by
      rw [e0]
      have : n.toNat / 2 ^ (8 * d) ≤ n.toNat := Nat.div_le_self _ _
      simp [shr64]
    rw [UInt64.toNat_add, UInt64.toNat_mul, e1, show (256 : UInt64).toNat = 256 from rfl]
    have e2 : n.toNat % 256 ^ (d + 1) = n.toNat % 256 ^ d + 256 ^ d * (n.toNat / 256 ^ d % 256) := by rw [Nat.pow_succ, Nat.mod_mul]
    rw [e2]
    have e3 : (s.toNat * 256 % 2 ^ 64 + n.toNat / 256 ^ d % 256) % 2 ^ 64 = (s.toNat * 256 + n.toNat / 256 ^ d % 256) % 18446744073709551616 := by omega
    rw [e3, Nat.add_mod, Nat.mul_mod, Nat.mod_mod, ← Nat.mul_mod, ← Nat.add_mod]
    congr 1
    rw [Nat.pow_succ, Nat.add_mul]
    generalize 256 ^ d = q
    generalize n.toNat / q % 256 = y
    generalize n.toNat % q = z
    rw [Nat.mul_comm q y, Nat.mul_comm q 256, ← Nat.mul_assoc]
    omega
/-! ### contacts to bytes -/
theorem num_put_toNat (n : UInt64) (d : Nat) : (num (putF n d)).toNat = n.toNat % 256 ^ d % 18446744073709551616 := by
  have := num_put n d 0
  rw [show (0 : UInt64).toNat = 0 from rfl, Nat.zero_mul, Nat.zero_add] at this
  exact this
theorem addr_bytes (a : G_api_Addr) : M_addr_Bytes a = some (putF a.Host.toUInt64 4 ++ putF a.Port.toUInt64 2) := by
  unfold M_addr_Bytes
  rw [octet_put (by simp), Option.bind_some, if_pos (by decide), octet_put (by rw [List.nil_append, putF_len]; decide), Option.bind_some, if_pos (by decide)]
  rfl
theorem contact_bytes (c : G_api_Contact) : M_contact_Bytes c = some (List.ofFn c.ID ++ (putF c.Addr.Host.toUInt64 4 ++ putF c.Addr.Port.toUInt64 2)) := by
  unfold M_contact_Bytes
  rw [addr_bytes, Option.bind_some]
  have e2 : (putF c.Addr.Host.toUInt64 4 ++ putF c.Addr.Port.toUInt64 2).length = 6 := by rw [List.length_append, putF_len, putF_len]
  generalize putF c.Addr.Host.toUInt64 4 ++ putF c.Addr.Port.toUInt64 2 = y at e2
  have e1 : (List.ofFn c.ID).length = 20 := List.length_ofFn
  generalize List.ofFn c.ID = x at e1
  unfold M_slices_Concat_byte_s2vo
  rw [e1, e2, if_pos (by decide), if_neg (by decide), if_pos (by decide), if_neg (by decide)]
  have eg : M_slices_Grow_byte_n ((0 + ((20 : Nat) : Int)) + ((6 : Nat) : Int)) = some [] := by
    unfold M_slices_Grow_byte_n
    rw [if_neg (by decide), if_pos (by decide), if_pos (by decide), if_pos (by decide), if_pos (by simp), if_pos (by simp)]
    rfl
  rw [eg, Option.bind_some, if_pos (by simp), if_pos (by simp [e1]), Option.bind_some]
  rfl
theorem contS_bytes (c : CT) : contS (List.ofFn c.id ++ (putF c.host.toUInt64 4 ++ putF c.port.toUInt64 2)) = if c.host ≠ 0 ∧ c.port ≠ 0 then some c else none := by
  have e1 : (List.ofFn c.id).length = 20 := List.length_ofFn
  have ed : (List.ofFn c.id ++ (putF c.host.toUInt64 4 ++ putF c.port.toUInt64 2)).drop 20 = putF c.host.toUInt64 4 ++ putF c.port.toUInt64 2 := by
    exact List.drop_left' e1
  have el4 : (putF c.host.toUInt64 4).length = 4 := putF_len _ _
  have eh : hostS (putF c.host.toUInt64 4 ++ putF c.port.toUInt64 2) = c.host := by
    unfold hostS
    rw [List.take_append_of_le_length (by omega), List.take_of_length_le (by omega)]
    apply UInt32.toNat_inj.1
    have := c.host.toNat_lt
    have h2 := num_put_toNat c.host.toUInt64 4
    rw [UInt32.toNat_toUInt64] at h2
    rw [UInt64.toNat_toUInt32, h2]
    omega
  have ep : portS (putF c.host.toUInt64 4 ++ putF c.port.toUInt64 2) = c.port := by
    unfold portS
    have : (putF c.host.toUInt64 4 ++ putF c.port.toUInt64 2).drop 4 = putF c.port.toUInt64 2 := by
      exact List.drop_left' el4
    rw [this, List.take_of_length_le (by rw [putF_len]; omega)]
    apply UInt16.toNat_inj.1
    have := c.port.toNat_lt
    have h2 := num_put_toNat c.port.toUInt64 2
    rw [UInt16.toNat_toUInt64] at h2
    rw [UInt64.toNat_toUInt16, h2]
    omega
  have ei : idS (List.ofFn c.id ++ (putF c.host.toUInt64 4 ++ putF c.port.toUInt64 2)) = c.id := by
    unfold idS copyA
    funext i
    have hi : i.val < (List.ofFn c.id).length := by rw [e1]; exact i.isLt
    rw [List.getElem?_append_left hi, List.getElem?_eq_getElem hi]
    show (List.ofFn c.id)[i.val] = c.id i
    rw [List.getElem_ofFn]
  unfold contS
  rw [ed, eh, ep, ei]
  have el : (List.ofFn c.id ++ (putF c.host.toUInt64 4 ++ putF c.port.toUInt64 2)).length = 26 := by
    rw [List.length_append, List.length_append, e1, putF_len, putF_len]
  by_cases h : c.host ≠ 0 ∧ c.port ≠ 0
  · rw [if_pos ⟨el, h⟩, if_pos h]
  · rw [if_neg (fun hh => h hh.2), if_neg h]
/-! ### the probe -/
theorem lives08 : M_signpostlaw08_lives = some true := by
  have e1 : M_contact_List_v ([] : List G_api_Contact) = some ([0], 0) := by
    unfold M_contact_List_v
    have := contact_good (l := []) (by simp)
    rw [List.map_nil] at this
    rw [this, Option.bind_some, show goodS [] = true from rfl, if_pos rfl, octet_put (by simp), Option.bind_some, if_pos (by decide),
      loopO_end (r := ([] ++ putF (UInt64.ofInt (([] : List G_api_Contact).length : Int)) 1 : List UInt8)) (by unfold M_contact_List_v_b1; rw [if_neg (by simp)]; rfl), Option.bind_some]
    rfl
  have e2 : M_contact_Find_v ([] : List G_api_Contact) (fun _ => 0) = some (-1) := contact_find (l := []) (by simp)
  have e3 := contS_bytes ⟨fun _ => 0, 1, 1⟩
  unfold M_signpostlaw08_lives
  rw [e1, Option.bind_some]
  simp only
  rw [contact_bytes, Option.bind_some, contact_read]
  simp only at e3 ⊢
  rw [e3, if_pos (by decide)]
  simp only [Option.bind_some, e2, CT.p]
  rfl
/-! ### lists compared -/
theorem same_loop {l : List CT} (hl : l.length ≤ 4611686018427387904) : ∀ (d k : Nat), l.length = k + d →
    loopO (fun z_ => M_signpostlaw08_Same_vv_b1 (l.map CT.p) (l.map CT.r) z_) (k : Int) = some (.inl ()) := by
  intro d
  induction d with
  | zero =>
    intro k h
    exact loopO_end (by unfold M_signpostlaw08_Same_vv_b1; rw [if_neg (by rw [List.length_map]; omega)])
  | succ d ih =>
    intro k h
    have hk : k < l.length := by omega
    have hx : at? (l.map CT.p) (k : Int) = some (l[k].p) := by rw [at?_in (by rw [List.length_map]; exact hk)]; simp
    have hy : at? (l.map CT.r) (k : Int) = some (l[k].r) := by rw [at?_in (by rw [List.length_map]; exact hk)]; simp
    rw [loopO_next (s' := ((k + 1 : Nat) : Int)) (by
      unfold M_signpostlaw08_Same_vv_b1 M_signpostlaw08_One
      rw [if_pos (by rw [List.length_map]; omega), hx, hy, Option.bind_some, Option.bind_some, Option.bind_some, if_pos (by rfl), if_pos (ok_small (by omega))]; rfl)]
    exact ih (k + 1) (by omega)
theorem same08 {l : List CT} (hl : l.length ≤ 4611686018427387904) : M_signpostlaw08_Same_vv (l.map CT.p) (l.map CT.r) = some true := by
  unfold M_signpostlaw08_Same_vv
  have := same_loop hl l.length 0 (by omega)
  rw [show ((0 : Nat) : Int) = 0 from rfl] at this
  rw [if_pos (by rw [List.length_map, List.length_map]), this, Option.bind_some]
theorem listS_len {r : List UInt8} {bad : Bool} : (listS r bad).1.length ≤ 255 := by
  obtain ⟨m, hm, e⟩ := num1 r bad
  have hlt : (UInt64.ofNat m).toNat = m := by rw [UInt64.toNat_ofNat']; omega
  unfold listS
  rw [e, hlt]
  cases hh : readF m [] (numS r bad 1).2.1 (numS r bad 1).2.2 with
  | none => simp
  | some o =>
    obtain ⟨h1, h2⟩ := readF_bound _ _ _ _ hh
    simp only
    split
    · rw [h1]; simp; omega
    · simp
theorem listS_suffix {r : List UInt8} {bad : Bool} : (listS r bad).2.1 <:+ r := by
  unfold listS
  cases hh : readF (numS r bad 1).1.toNat [] (numS r bad 1).2.1 (numS r bad 1).2.2 with
  | none => exact List.nil_suffix
  | some o =>
    obtain ⟨h1, h2⟩ := readF_bound _ _ _ _ hh
    simp only
    split
    · exact h2.trans (numS_suffix _ _ _)
    · exact List.nil_suffix
/-! ### what is read is what was put -/
/-- The number that bytes tell, without a limit. -/
def val : List UInt8 → Nat
  | [] => 0
  | x :: l => x.toNat * 256 ^ l.length + val l
theorem val_lt : ∀ l : List UInt8, val l < 256 ^ l.length
  | [] => by simp [val]
  | x :: l => by
    have h1 := val_lt l
    have h2 := x.toNat_lt
    have h3 : x.toNat * 256 ^ l.length ≤ 255 * 256 ^ l.length := Nat.mul_le_mul_right _ (by omega)
    rw [val, List.length_cons, Nat.pow_succ]
    omega
theorem fold_val : ∀ (l : List UInt8) (s : UInt64), (l.foldl (fun n x => n * 256 + x.toUInt64) s).toNat = (s.toNat * 256 ^ l.length + val l) % 18446744073709551616
  | [], s => by
    have := s.toNat_lt
    simp [val]
  | x :: l, s => by
    rw [List.foldl_cons, fold_val l]
    have e1 : x.toUInt64.toNat = x.toNat := by simp
    rw [UInt64.toNat_add, UInt64.toNat_mul, e1, show (256 : UInt64).toNat = 256 from rfl]
    have e3 : (s.toNat * 256 % 2 ^ 64 + x.toNat) % 2 ^ 64 = (s.toNat * 256 + x.toNat) % 18446744073709551616 := by omega
    rw [e3, Nat.add_mod, Nat.mul_mod, Nat.mod_mod, ← Nat.mul_mod, ← Nat.add_mod]
    congr 1
    rw [val, List.length_cons, Nat.pow_succ, Nat.add_mul, Nat.mul_comm (256 ^ l.length) 256, ← Nat.mul_assoc]
    omega
theorem num_val (l : List UInt8) (h : l.length ≤ 8) : (num l).toNat = val l := by
  have h1 := fold_val l 0
  have h2 := val_lt l
  have h3 : 256 ^ l.length ≤ 256 ^ 8 := Nat.pow_le_pow_right (by omega) h
  rw [show (0 : UInt64).toNat = 0 from rfl, Nat.zero_mul, Nat.zero_add, Nat.mod_eq_of_lt (by omega)] at h1
  exact h1
theorem put_val : ∀ (l : List UInt8) (n : UInt64) (q : Nat), l.length ≤ 8 → n.toNat = q * 256 ^ l.length + val l → putF n l.length = l
  | [], n, q, _, _ => rfl
  | x :: l, n, q, hl, e => by
    have h1 := val_lt l
    have h2 := x.toNat_lt
    have hn := n.toNat_lt
    have h3 : 0 < 256 ^ l.length := Nat.pow_pos (by omega)
    have e0 : (256 : Nat) ^ l.length = 2 ^ (8 * l.length) := by rw [Nat.pow_mul]
    have e' : n.toNat = (q * 256 + x.toNat) * 256 ^ l.length + val l := by
      rw [e, val, List.length_cons, Nat.pow_succ, Nat.add_mul, Nat.mul_comm (256 ^ l.length) 256, ← Nat.mul_assoc]; omega
    rw [List.length_cons, putF, put_val l n (q * 256 + x.toNat) (by rw [List.length_cons] at hl; omega) e']
    congr 1
    apply UInt8.toNat_inj.1
    have e1 : n.toNat / 256 ^ l.length = q * 256 + x.toNat := by
      rw [e', Nat.add_comm, Nat.add_mul_div_right _ _ h3, Nat.div_eq_of_lt h1]; omega
    have e2 : (shr64 n (8 * l.length)).toUInt8.toNat = n.toNat / 256 ^ l.length % 256 := by
      rw [e0]
      have : n.toNat / 2 ^ (8 * l.length) ≤ n.toNat := Nat.div_le_self _ _
      simp [shr64]
    rw [e2, e1]; omega
theorem put_num (l : List UInt8) (h : l.length ≤ 8) : putF (num l) l.length = l := put_val l (num l) 0 h (by rw [num_val l h]; omega)
/-- The bytes of a contact; of contacts. -/
def bytesC (c : CT) : List UInt8 := List.ofFn c.id ++ (putF c.host.toUInt64 4 ++ putF c.port.toUInt64 2)
def flatC : List CT → List UInt8
  | [] => []
  | c :: l => bytesC c ++ flatC l
theorem bytesC_len (c : CT) : (bytesC c).length = 26 := by
  unfold bytesC
  rw [List.length_append, List.length_append, List.length_ofFn, putF_len, putF_len]
theorem flatC_len : ∀ l : List CT, (flatC l).length = l.length * 26
  | [] => rfl
  | c :: l => by rw [flatC, List.length_append, bytesC_len, flatC_len l, List.length_cons]; omega
theorem flatC_append : ∀ l l' : List CT, flatC (l ++ l') = flatC l ++ flatC l'
  | [], l' => rfl
  | c :: l, l' => by rw [List.cons_append, flatC, flatC, flatC_append l l', List.append_assoc]
theorem contS_form {x : List UInt8} {c : CT} (h : contS x = some c) : x = bytesC c ∧ c.host ≠ 0 ∧ c.port ≠ 0 := by
  unfold contS at h
  split at h
  · rename_i hg
    obtain ⟨hl, h1, h2⟩ := hg
    cases h
    refine ⟨?_, h1, h2⟩
    have ei : List.ofFn (idS x) = x.take 20 := by
      apply List.ext_getElem
      · rw [List.length_ofFn, List.length_take]; omega
      · intro i hi hi'
        rw [List.length_ofFn] at hi
        rw [List.getElem_ofFn, List.getElem_take]
        unfold idS copyA
        rw [List.getElem?_eq_getElem (by show i < x.length; omega)]
        rfl
    have eh : putF (hostS (x.drop 20)).toUInt64 4 = (x.drop 20).take 4 := by
      have hl4 : ((x.drop 20).take 4).length = 4 := by rw [List.length_take, List.length_drop]; omega
      have e : (hostS (x.drop 20)).toUInt64 = num ((x.drop 20).take 4) := by
        unfold hostS
        apply UInt64.toNat_inj.1
        have h2 := val_lt ((x.drop 20).take 4)
        have h3 := num_val ((x.drop 20).take 4) (by omega)
        rw [hl4] at h2
        rw [UInt32.toNat_toUInt64, UInt64.toNat_toUInt32, h3]
        omega
      have h3 := put_num ((x.drop 20).take 4) (by omega)
      rw [hl4] at h3
      rw [e, h3]
    have ep : putF (portS (x.drop 20)).toUInt64 2 = ((x.drop 20).drop 4).take 2 := by
      have hl4 : (((x.drop 20).drop 4).take 2).length = 2 := by rw [List.length_take, List.length_drop, List.length_drop]; omega
      have e : (portS (x.drop 20)).toUInt64 = num (((x.drop 20).drop 4).take 2) := by
        unfold portS
        apply UInt64.toNat_inj.1
        have h2 := val_lt (((x.drop 20).drop 4).take 2)
        have h3 := num_val (((x.drop 20).drop 4).take 2) (by omega)
        rw [hl4] at h2
        rw [UInt16.toNat_toUInt64, UInt64.toNat_toUInt16, h3]
        omega
      have h3 := put_num (((x.drop 20).drop 4).take 2) (by omega)
      rw [hl4] at h3
      rw [e, h3]
    unfold bytesC
    simp only
    rw [ei, eh, ep, List.take_of_length_le (i := 2) (by rw [List.length_drop, List.length_drop]; omega), List.take_append_drop, List.take_append_drop]
  · cases h
theorem readF_form : ∀ (n : Nat) (out : List CT) (r : List UInt8) {o : List CT × List UInt8 × Bool}, readF n out r false = some o →
    o.2.2 = false ∧ ∃ l, o.1 = out ++ l ∧ l.length = n ∧ r = flatC l ++ o.2.1
  | 0, out, r, o, h => by simp only [readF, Option.some.injEq] at h; subst h; exact ⟨rfl, [], by simp, rfl, rfl⟩
  | n + 1, out, r, o, h => by
    unfold readF at h
    split at h
    · rename_i c hc
      obtain ⟨hx, -, -⟩ := contS_form hc
      unfold takeS at h hx
      split at h
      · rename_i hbad
        rw [if_pos hbad] at hx
        have := congrArg List.length hx
        rw [bytesC_len] at this
        cases this
      · rename_i hbad
        rw [if_neg hbad] at hx
        obtain ⟨h1, l, h2, h3, h4⟩ := readF_form n _ _ h
        refine ⟨h1, c :: l, by rw [h2, List.append_assoc]; rfl, by rw [List.length_cons, h3], ?_⟩
        simp only at h4 hx
        rw [flatC, List.append_assoc, ← h4, ← hx, List.take_append_drop]
    · cases h
theorem readF_back : ∀ (l out : List CT) (r : List UInt8), (∀ c ∈ l, c.host ≠ 0 ∧ c.port ≠ 0) → readF l.length out (flatC l ++ r) false = some (out ++ l, r, false)
  | [], out, r, _ => by simp [readF, flatC]
  | c :: l, out, r, h => by
    have hlen := bytesC_len c
    have e : takeS (flatC (c :: l) ++ r) false 26 = (bytesC c, flatC l ++ r, false) := by
      unfold takeS
      rw [flatC, List.append_assoc, if_neg (by rw [List.length_append, hlen]; simp; omega)]
      rw [show (26 : Int).toNat = (bytesC c).length by rw [hlen]; rfl, List.take_left, List.drop_left]
    have hc := contS_bytes c
    rw [if_pos (h c (List.mem_cons_self ..))] at hc
    rw [List.length_cons, readF, e]
    simp only
    rw [show contS (bytesC c) = some c from hc]
    simp only
    rw [readF_back l (out ++ [c]) r (fun x hx => h x (List.mem_cons_of_mem _ hx)), List.append_assoc]
    rfl
theorem goodF_mem (l : List CT) : ∀ (r : List CT) (k : Int), goodF l k r = true → ∀ c ∈ r, c.host ≠ 0 ∧ c.port ≠ 0
  | [], _, _, c, hc => by cases hc
  | x :: r, k, h, c, hc => by
    simp only [goodF, Bool.and_eq_true, decide_eq_true_eq] at h
    rcases List.mem_cons.1 hc with rfl | hc
    · exact h.1.1
    · exact goodF_mem l r (k + 1) h.2 c hc
theorem goodS_mem {l : List CT} (h : goodS l = true) : l.length ≤ 64 ∧ ∀ c ∈ l, c.host ≠ 0 ∧ c.port ≠ 0 := by
  unfold goodS at h
  rw [Bool.and_eq_true, decide_eq_true_eq] at h
  exact ⟨by omega, goodF_mem l l 0 h.1⟩
theorem num_one (x : UInt8) : num [x] = x.toUInt64 := by simp [num]
/-- What reading a list finds, when it does. -/
theorem listS_form {r : List UInt8} : ((listS r false).2.2 = true ∧ (listS r false).1 = []) ∨
    ((listS r false).2.2 = false ∧ goodS (listS r false).1 = true ∧ r = (UInt8.ofNat (listS r false).1.length :: flatC (listS r false).1) ++ (listS r false).2.1) := by
  unfold listS numS
  cases r with
  | nil =>
    rw [if_pos (by simp)]
    exact .inl ⟨rfl, rfl⟩
  | cons x r =>
    rw [if_neg (by simp; omega)]
    simp only [show (1 : Int).toNat = 1 from rfl, List.take_succ_cons, List.take_zero, List.drop_succ_cons, List.drop_zero, num_one]
    have ex : x.toUInt64.toNat = x.toNat := by simp
    rw [ex]
    cases hh : readF x.toNat [] r false with
    | none => exact .inl ⟨rfl, rfl⟩
    | some o =>
      obtain ⟨h1, l, h2, h3, h4⟩ := readF_form _ _ _ hh
      simp only
      by_cases hg : goodS o.1 = true
      · rw [if_pos hg]
        rw [List.nil_append] at h2
        refine .inr ⟨h1, hg, ?_⟩
        rw [h2, h3, List.cons_append, ← h4]
        simp
      · rw [if_neg hg]
        exact .inl ⟨rfl, rfl⟩
/-- A good list, put, is read back. -/
theorem listS_back {l : List CT} {r : List UInt8} (h : goodS l = true) : listS ((UInt8.ofNat l.length :: flatC l) ++ r) false = (l, r, false) := by
  obtain ⟨hl, hm⟩ := goodS_mem h
  unfold listS numS
  rw [List.cons_append, if_neg (by simp; omega)]
  simp only [show (1 : Int).toNat = 1 from rfl, List.take_succ_cons, List.take_zero, List.drop_succ_cons, List.drop_zero, num_one]
  have ex : (UInt8.ofNat l.length).toUInt64.toNat = l.length := by simp; omega
  rw [ex, readF_back l [] r hm]
  simp only [List.nil_append]
  rw [if_pos h]
/-! ### lists put -/
theorem contact_bytesC (c : CT) : M_contact_Bytes c.p = some (bytesC c) := contact_bytes c.p
theorem list_loop {l : List CT} (hl : l.length ≤ 4096) : ∀ (d k : Nat) (out : List UInt8), l.length = k + d → out.length ≤ 1 + k * 26 →
    loopO (fun z_ => M_contact_List_v_b1 (l.map CT.p) z_.1 z_.2) (out, (k : Int)) = some (out ++ flatC (l.drop k)) := by
  intro d
  induction d with
  | zero =>
    intro k out h ho
    rw [loopO_end (r := out) (by unfold M_contact_List_v_b1; rw [if_neg (by rw [List.length_map]; omega)]), List.drop_of_length_le (by omega), flatC, List.append_nil]
  | succ d ih =>
    intro k out h ho
    have hk : k < l.length := by omega
    have hx : at? (l.map CT.p) (k : Int) = some (l[k].p) := by rw [at?_in (by rw [List.length_map]; exact hk)]; simp
    have hlen := bytesC_len l[k]
    rw [loopO_next (s' := (out ++ bytesC l[k], ((k + 1 : Nat) : Int))) (by
      show M_contact_List_v_b1 (l.map CT.p) out (k : Int) = _
      unfold M_contact_List_v_b1
      rw [if_pos (by rw [List.length_map]; omega), hx, Option.bind_some, contact_bytesC, Option.bind_some]
      rw [if_pos (by omega), if_pos (ok_small (by omega))]; rfl),
      ih (k + 1) _ (by omega) (by rw [List.length_append]; omega), List.drop_eq_getElem_cons hk, flatC, List.append_assoc]
theorem contact_list {l : List CT} (hl : l.length ≤ 4096) : M_contact_List_v (l.map CT.p) = some (if goodS l = true then (UInt8.ofNat l.length :: flatC l, 0) else ([], 2)) := by
  unfold M_contact_List_v
  rw [contact_good (by omega), Option.bind_some]
  by_cases h : goodS l = true
  · obtain ⟨h64, -⟩ := goodS_mem h
    rw [if_pos h, if_pos h, octet_put (by simp), Option.bind_some, if_pos (by decide)]
    have e : putF (UInt64.ofInt (((l.map CT.p).length : Nat) : Int)) (1 : Int).toNat = [UInt8.ofNat l.length] := by
      rw [List.length_map]
      show [(shr64 (UInt64.ofInt ((l.length : Nat) : Int)) (8 * 0)).toUInt8] = _
      congr 1
      apply UInt8.toNat_inj.1
      simp [shr64, UInt64.ofInt, UInt64.toNat_ofNat']
      omega
    rw [List.nil_append, e]
    have := list_loop hl l.length 0 [UInt8.ofNat l.length] (by omega) (by simp)
    rw [show ((0 : Nat) : Int) = 0 from rfl] at this
    rw [this, Option.bind_some, List.drop_zero]
    rfl
  · rw [if_neg h, if_neg h]
theorem plain_loop {l : List CT} (hl : l.length ≤ 4096) : ∀ (d k : Nat) (out : List CT), l.length = k + d → out.length = k →
    loopO (fun z_ => M_signpostlaw08_Plain_v_b1 (l.map CT.p) z_.1 z_.2) (out.map CT.r, (k : Int)) = some ((out ++ l.drop k).map CT.r) := by
  intro d
  induction d with
  | zero =>
    intro k out h ho
    rw [loopO_end (r := out.map CT.r) (by unfold M_signpostlaw08_Plain_v_b1; rw [if_neg (by rw [List.length_map]; omega)]), List.drop_of_length_le (by omega), List.append_nil]
  | succ d ih =>
    intro k out h ho
    have hk : k < l.length := by omega
    have hx : at? (l.map CT.p) (k : Int) = some (l[k].p) := by rw [at?_in (by rw [List.length_map]; exact hk)]; simp
    rw [loopO_next (s' := ((out ++ [l[k]]).map CT.r, ((k + 1 : Nat) : Int))) (by
      show M_signpostlaw08_Plain_v_b1 (l.map CT.p) (out.map CT.r) (k : Int) = _
      unfold M_signpostlaw08_Plain_v_b1 M_signpostlaw08_One
      rw [if_pos (by rw [List.length_map]; omega), hx, Option.bind_some, Option.bind_some, if_pos (by rw [List.length_map]; omega), if_pos (ok_small (by omega)), List.map_append]; rfl),
      ih (k + 1) _ (by omega) (by rw [List.length_append, ho]; rfl), List.drop_eq_getElem_cons hk, List.append_assoc]
    rfl
theorem plain08 {l : List CT} (hl : l.length ≤ 4096) : M_signpostlaw08_Plain_v (l.map CT.p) = some (l.map CT.r) := by
  unfold M_signpostlaw08_Plain_v
  have := plain_loop hl l.length 0 [] (by omega) rfl
  rw [show ((0 : Nat) : Int) = 0 from rfl, List.map_nil, List.nil_append, List.drop_zero] at this
  rw [this, Option.bind_some]
theorem CT.lift (l : List G_api_Contact) : ∃ k : List CT, l = k.map CT.p := ⟨l.map fun c => ⟨c.ID, c.Addr.Host, c.Addr.Port⟩, by rw [List.map_map]; exact (List.map_id'' (fun _ => rfl) l).symm⟩
/-! ### the statement -/
theorem back_k2 {behind : List UInt8} (hb : behind.length ≤ 3000) : M_signpostlaw08_ContactBack_vvv_k2 behind false = some true := by
  unfold M_signpostlaw08_ContactBack_vvv_k2 M_octet_Open_v
  rw [if_neg (by decide), if_pos (by omega), Option.bind_some, List.nil_append, contact_readList (by omega), Option.bind_some]
  have hf := listS_form (r := behind)
  have hll := listS_len (r := behind) (bad := false)
  generalize listS behind false = o at hf hll
  obtain ⟨l, rest, bad⟩ := o
  simp only at hf hll ⊢
  unfold M_octet_Reader_Bad_po M_octet_Reader_Left_po M_octet_Reader_none_po M_octet_rest_left_po
  rw [Option.bind_some, if_pos rfl, Option.bind_some]
  rcases hf with ⟨h1, h2⟩ | ⟨h1, h2, h3⟩
  · subst h1 h2
    rw [if_pos rfl, if_pos (by simp), lives08]; rfl
  · subst h1
    have hlen := congrArg List.length h3
    rw [List.length_append] at hlen
    rw [if_neg (by decide), contact_list (by omega), Option.bind_some, if_pos h2]
    simp only
    generalize UInt8.ofNat l.length :: flatC l = y at h3 hlen
    rw [if_pos trivial, Option.bind_some, if_pos trivial, Option.bind_some, Option.bind_some, if_pos (ok_small (by omega)), if_pos (by omega), if_pos (by omega), if_pos (by rw [h3, List.take_left]), lives08]
    rfl
theorem pure_ContactBack (l : List G_api_Contact) (ahead : List UInt8) (behind : List UInt8) (hl_l : l.length * 28 ≤ 140737488351232) (wf_l : ∀ x ∈ l, G_api_Contact_wf x) (hl_ahead : ahead.length ≤ 140737488351232) (hl_behind : behind.length ≤ 140737488351232) : M_signpostlaw08_ContactBack_vvv l ahead behind = some true := by
  have hk1 : M_signpostlaw08_ContactBack_vvv_k1 ahead behind l true = some true := by
    unfold M_signpostlaw08_ContactBack_vvv_k1
    rw [if_pos rfl, lives08]; rfl
  unfold M_signpostlaw08_ContactBack_vvv
  by_cases h : (80 : Int) < l.length
  · rw [if_pos h, hk1]
  · rw [if_neg h, if_pos (ok_small (by omega))]
    by_cases h2 : (3000 : Int) < (ahead.length : Int) + (behind.length : Int)
    · rw [decide_eq_true h2, hk1]
    · rw [decide_eq_false h2]
      obtain ⟨k, rfl⟩ := CT.lift l
      rw [List.length_map] at h
      unfold M_signpostlaw08_ContactBack_vvv_k1
      rw [if_neg (by decide), contact_list (by omega), Option.bind_some]
      by_cases hg : goodS k = true
      · obtain ⟨h64, -⟩ := goodS_mem hg
        have hfl := flatC_len k
        rw [if_pos hg]
        simp only
        have hlen : (UInt8.ofNat k.length :: flatC k).length = k.length * 26 + 1 := by rw [List.length_cons, hfl]
        have hback := listS_back (r := behind) hg
        generalize UInt8.ofNat k.length :: flatC k = y at hlen hback
        unfold M_octet_Open_v
        rw [if_pos trivial, if_pos (by omega), List.nil_append, if_pos (by omega), if_pos (by rw [List.length_append]; omega), if_pos (by rw [List.length_append, List.length_append]; omega), Option.bind_some, List.nil_append, octet_take (by rw [List.length_append, List.length_append]; omega), Option.bind_some]
        have et : takeS (ahead ++ y ++ behind) false (ahead.length : Int) = (ahead, y ++ behind, false) := by
          unfold takeS
          rw [if_neg (by rw [List.length_append, List.length_append]; simp; omega), List.append_assoc, show ((ahead.length : Int)).toNat = ahead.length from rfl, List.take_left, List.drop_left]
        rw [et]
        simp only
        rw [contact_readList (by rw [List.length_append]; omega), Option.bind_some, hback]
        simp only
        rw [plain08 (by omega), Option.bind_some, same08 (by omega), Option.bind_some, if_pos rfl]
        unfold M_octet_Reader_Left_po M_octet_Reader_none_po M_octet_rest_left_po
        rw [Option.bind_some, if_pos rfl, Option.bind_some, Option.bind_some, decide_eq_true rfl]
        exact back_k2 (by omega)
      · rw [if_neg hg]
        simp only
        rw [if_neg (by decide), plain08 (by omega), Option.bind_some, ref08_good (by omega), Option.bind_some, if_neg hg, if_pos (by simp), lives08]
        rfl
end Go.Proofs.Ytaaahjcldomnbaa
