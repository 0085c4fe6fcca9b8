/-
  What the functions that the statement ContactReads reaches compute, as plain laws; and the statement about them. No condition.
-/
import Derived.Test.YtaaahjcldomnbaaContactReadsMod
import Derived.Test.YtaaahjcldomnbaaBPure
namespace Go.Proofs.Ytaaahjcldomnbaa
open Go Go.RowKit
set_option linter.unusedVariables false
set_option linter.unusedSimpArgs false
/-! ### octet -/
theorem octet_may (w : Int) : M_octet_may w = some (decide (1 ≤ w ∧ w ≤ 8)) := by
  unfold M_octet_may
  by_cases h : 1 ≤ w <;> simp [h]
/-- The number that stands at a place. -/
def getS (b : List UInt8) (a w : Int) : UInt64 × Bool := if (1 ≤ w ∧ w ≤ 8) ∧ 0 ≤ a ∧ a + w ≤ b.length then (num ((b.drop a.toNat).take w.toNat), true) else (0, false)
theorem octet_get {b : List UInt8} {a w : Int} (hb : b.length ≤ 4611686018427387904) : M_octet_Get_v b a w = some (getS b a w) := by
  have hk : ∀ t, M_octet_Get_v_k1 a b w t = if t = true then some (0, false) else if (0 ≤ a ∧ 0 ≤ w) ∧ a + w ≤ b.length then some (num ((b.drop a.toNat).take w.toNat), true) else M_octet_Get_v_k1 a b w t := by
    intro t
    by_cases ht : t = true
    · subst ht; rfl
    · rw [if_neg ht]
      by_cases h : (0 ≤ a ∧ 0 ≤ w) ∧ a + w ≤ b.length
      · rw [if_pos h]
        unfold M_octet_Get_v_k1
        have e : (b.take (a + w).toNat).drop a.toNat = (b.drop a.toNat).take w.toNat := by
          rw [List.drop_take]; congr 1; omega
        rw [if_neg ht, if_pos (ok_small (by omega)), if_pos (by omega), loop_fold0 ((b.drop a.toNat).take w.toNat) (fun n x => n * 256 + x.toUInt64) (by simp; omega)]
        · rfl
        · intro s t
          unfold M_octet_Get_v_b2
          rw [e]
          simp only [shl_or]
      · rw [if_neg h]
  unfold M_octet_Get_v
  rw [octet_may, Option.bind_some]
  unfold getS
  by_cases h1 : 1 ≤ w ∧ w ≤ 8
  · rw [if_pos (decide_eq_true h1)]
    by_cases h2 : a < 0
    · rw [if_pos h2, hk, if_pos rfl, if_neg (by omega)]
    · rw [if_neg h2]
      by_cases h3 : (b.length : Int) < a
      · rw [if_pos h3, hk, if_pos rfl, if_neg (by omega)]
      · rw [if_neg h3, if_pos (ok_small (by omega)), hk]
        by_cases h4 : (b.length : Int) - a < w
        · rw [if_pos (decide_eq_true h4), if_neg (by omega)]
        · rw [if_neg (by simpa using h4), if_pos (by omega), if_pos (by omega)]
  · rw [if_neg (by simpa using h1), hk, if_pos rfl, if_neg (by simp [h1])]
/-! ### signpostref01 -/
theorem ref01_loop {b : List UInt8} {a w : Nat} (hb : b.length ≤ 4611686018427387904) (h : a + w ≤ b.length) : ∀ (d k : Nat) (s : UInt64), w = k + d →
    loopO (fun z_ => M_signpostref01_Get_v_b2 (a : Int) b (w : Int) z_.1 z_.2) (s, (k : Int)) = some ((((b.drop a).take w).drop k).foldl (fun n x => n * 256 + x.toUInt64) s) := by
  intro d
  induction d with
  | zero =>
    intro k s hk
    rw [loopO_end (r := s) (by simp only [M_signpostref01_Get_v_b2]; rw [if_neg (by omega)]), List.drop_of_length_le (by simp; omega)]; rfl
  | succ d ih =>
    intro k s hk
    have hlen : ((b.drop a).take w).length = w := by rw [List.length_take, List.length_drop]; omega
    have hx : at? b ((a : Int) + (k : Int)) = some ((b.drop a).take w)[k] := by
      have := at?_in (l := b) (k := a + k) (by omega)
      rw [Int.natCast_add] at this
      rw [this]; simp
    rw [loopO_next (s' := (s * 256 + (((b.drop a).take w)[k]).toUInt64, ((k + 1 : Nat) : Int))) (by
      simp only [M_signpostref01_Get_v_b2]
      rw [if_pos (by omega), if_pos (ok_small (by omega)), hx, Option.bind_some, if_pos (ok_small (by omega))]; rfl), ih (k + 1) _ (by omega), List.drop_eq_getElem_cons (i := k) (by omega)]
    rfl
theorem ref01_get {b : List UInt8} {a w : Int} (hb : b.length ≤ 4611686018427387904) : M_signpostref01_Get_v b a w = some (getS b a w) := by
  have hk0 : M_signpostref01_Get_v_k1 a b w true = some (0, false) := rfl
  unfold M_signpostref01_Get_v getS
  by_cases h1 : w < 1
  · rw [if_pos h1, hk0, if_neg (by omega)]
  · rw [if_neg h1]
    by_cases h2 : 8 < w
    · rw [if_pos h2, hk0, if_neg (by omega)]
    · rw [if_neg h2]
      by_cases h3 : a < 0
      · rw [if_pos h3, hk0, if_neg (by omega)]
      · rw [if_neg h3]
        by_cases h4 : (b.length : Int) < a
        · rw [if_pos h4, hk0, if_neg (by omega)]
        · rw [if_neg h4, if_pos (ok_small (by omega))]
          by_cases h5 : (b.length : Int) - a < w
          · rw [decide_eq_true h5, hk0, if_neg (by omega)]
          · rw [decide_eq_false h5, if_pos (by omega)]
            obtain ⟨a', rfl⟩ : ∃ n : Nat, a = n := ⟨a.toNat, by omega⟩
            obtain ⟨w', rfl⟩ : ∃ n : Nat, w = n := ⟨w.toNat, by omega⟩
            unfold M_signpostref01_Get_v_k1
            rw [if_neg (by decide)]
            have := ref01_loop (a := a') (w := w') hb (by omega) w' 0 0 (by omega)
            rw [show ((0 : Nat) : Int) = 0 from rfl] at this
            rw [this]
            rfl
/-! ### octet.Reader -/
/-- What a reader of these bytes tells next, and what is left. -/
def takeS (r : List UInt8) (bad : Bool) (n : Int) : List UInt8 × List UInt8 × Bool := if bad = true ∨ n < 0 ∨ (r.length : Int) < n then ([], [], true) else (r.take n.toNat, r.drop n.toNat, bad)
def numS (r : List UInt8) (bad : Bool) (w : Int) : UInt64 × List UInt8 × Bool := if bad = true ∨ ¬ (1 ≤ w ∧ w ≤ 8) ∨ (r.length : Int) < w then (0, [], true) else (num (r.take w.toNat), r.drop w.toNat, bad)
theorem octet_cut (r : List UInt8) (o bad : Bool) (n : Int) : M_octet_rest_cut_po r o bad n = some (if bad = true ∨ n < 0 ∨ (r.length : Int) < n then .inl () else .inr ()) := by
  have h1 : M_octet_rest_cut_po_k1 r bad n o true = some (.inl ()) := rfl
  unfold M_octet_rest_cut_po
  by_cases hb : bad = true
  · rw [if_pos hb, h1, if_pos (.inl hb)]
  · rw [if_neg hb]
    by_cases hn : n < 0
    · rw [if_pos hn, h1, if_pos (.inr (.inl hn))]
    · rw [if_neg hn]
      by_cases hl : (r.length : Int) < n
      · rw [decide_eq_true hl, h1, if_pos (.inr (.inr hl))]
      · rw [decide_eq_false hl, if_neg (by simp [hb, hn, hl])]
        unfold M_octet_rest_cut_po_k1
        rw [if_neg (by decide), if_pos (by omega), if_pos (by omega)]
theorem octet_take {r : List UInt8} {bad : Bool} {n : Int} (hr : r.length ≤ 140737488355328) : M_octet_Reader_Take_po r true bad n = some (takeS r bad n) := by
  unfold M_octet_Reader_Take_po M_octet_Reader_none_po takeS
  rw [Option.bind_some, if_pos rfl, octet_cut, Option.bind_some]
  by_cases h : bad = true ∨ n < 0 ∨ (r.length : Int) < n
  · simp only [if_pos h]
  · simp only [if_neg h]
    rw [if_pos (by rw [List.length_take]; omega)]; rfl
theorem takeS_len (r : List UInt8) (bad : Bool) (n : Int) : (takeS r bad n).2.1.length ≤ r.length := by
  unfold takeS; split <;> simp
theorem numS_len (r : List UInt8) (bad : Bool) (n : Int) : (numS r bad n).2.1.length ≤ r.length := by
  unfold numS; split <;> simp
theorem takeS_suffix (r : List UInt8) (bad : Bool) (n : Int) : (takeS r bad n).2.1 <:+ r := by
  unfold takeS; split
  · exact List.nil_suffix
  · exact List.drop_suffix _ _
theorem numS_suffix (r : List UInt8) (bad : Bool) (n : Int) : (numS r bad n).2.1 <:+ r := by
  unfold numS; split
  · exact List.nil_suffix
  · exact List.drop_suffix _ _
theorem octet_num {r : List UInt8} {bad : Bool} {w : Int} (hr : r.length ≤ 140737488355328) : M_octet_Reader_Num_po r true bad w = some (numS r bad w) := by
  unfold M_octet_Reader_Num_po M_octet_Reader_none_po numS
  rw [Option.bind_some, if_pos rfl, octet_may, Option.bind_some]
  by_cases h1 : 1 ≤ w ∧ w ≤ 8
  · rw [if_pos (decide_eq_true h1), octet_cut, Option.bind_some]
    by_cases h : bad = true ∨ w < 0 ∨ (r.length : Int) < w
    · simp only [if_pos h]
      rw [if_pos (by rcases h with h | h | h; · exact .inl h
                     · omega
                     · exact .inr (.inr h))]
    · simp only [if_neg h]
      rw [octet_get (by rw [List.length_take]; omega), Option.bind_some, if_neg (by simp only [not_or] at h ⊢; exact ⟨h.1, fun hh => hh h1, h.2.2⟩)]
      unfold getS
      rw [if_pos ⟨h1, by omega, by rw [List.length_take]; omega⟩]
      simp [List.take_take]
  · rw [if_neg (by simpa using h1), if_pos (.inr (.inl h1))]
    rfl
/-- Where a reader of the reference stands, if this is left. -/
def refAt (B r : List UInt8) : Int := (B.length : Int) - r.length
theorem refAt_drop {B r : List UInt8} (h : r <:+ B) : B.drop (refAt B r).toNat = r ∧ 0 ≤ refAt B r ∧ refAt B r ≤ B.length := by
  obtain ⟨p, rfl⟩ := h
  unfold refAt
  rw [List.length_append]
  have : ((p.length + r.length : Nat) : Int) - r.length = p.length := by omega
  rw [this]
  refine ⟨?_, by omega, by omega⟩
  simp
theorem ref01_take {B r : List UInt8} {bad : Bool} {n : Int} (hB : B.length ≤ 140737488355328) (hr : r <:+ B) (hn : n ≤ 9223372036854775807) :
    M_signpostref01_Reader_Take_pv B (refAt B r) bad n = some ((takeS r bad n).1, refAt B (takeS r bad n).2.1, (takeS r bad n).2.2) := by
  obtain ⟨h1, h2, h3⟩ := refAt_drop hr
  have hk : ∀ A, M_signpostref01_Reader_Take_pv_k1 A B bad n true = some ([], (B.length : Int), true) := fun A => rfl
  have e0 : refAt B [] = B.length := by simp [refAt]
  have e1 : (B.length : Int) - refAt B r = r.length := by unfold refAt; omega
  unfold M_signpostref01_Reader_Take_pv takeS
  by_cases hb : bad = true
  · rw [if_pos hb, hk, if_pos (.inl hb), e0]
  · rw [if_neg hb]
    by_cases hn0 : n < 0
    · rw [if_pos hn0, hk, if_pos (.inr (.inl hn0)), e0]
    · rw [if_neg hn0, e1, if_pos (ok_small (by have := hr.length_le; omega))]
      by_cases hl : (r.length : Int) < n
      · rw [decide_eq_true hl, hk, if_pos (.inr (.inr hl)), e0]
      · rw [decide_eq_false hl, if_neg (by simp [hb, hn0, hl])]
        unfold M_signpostref01_Reader_Take_pv_k1
        have e2 : refAt B r + n - n = refAt B r := by omega
        have e3 : (B.take (refAt B r + n).toNat).drop (refAt B r).toNat = r.take n.toNat := by
          rw [List.drop_take, h1]; congr 1; omega
        have e4 : refAt B (r.drop n.toNat) = refAt B r + n := by
          unfold refAt; rw [List.length_drop]; omega
        rw [if_neg (by decide), if_pos (ok_small (by omega)), e2, if_pos (ok_small (by omega)), if_pos (by omega), e3, if_pos (by rw [List.length_take]; omega), e4]
        rfl
theorem ref01_num {B r : List UInt8} {bad : Bool} {w : Int} (hB : B.length ≤ 140737488355328) (hr : r <:+ B) :
    M_signpostref01_Reader_Num_pv B (refAt B r) bad w = some ((numS r bad w).1, refAt B (numS r bad w).2.1, (numS r bad w).2.2) := by
  obtain ⟨h1, h2, h3⟩ := refAt_drop hr
  have hk : ∀ A b u, M_signpostref01_Reader_Num_pv_k1 A B b u w true = some (0, (B.length : Int), true) := fun A b u => rfl
  have e0 : refAt B [] = B.length := by simp [refAt]
  have e1 : (B.length : Int) - refAt B r = r.length := by unfold refAt; omega
  unfold M_signpostref01_Reader_Num_pv numS
  rw [ref01_get (by omega), Option.bind_some]
  unfold getS
  by_cases hb : bad = true
  · simp only [if_pos hb, hk]
    rw [if_pos (.inl hb), e0]
  · by_cases hg : (1 ≤ w ∧ w ≤ 8) ∧ 0 ≤ refAt B r ∧ refAt B r + w ≤ B.length
    · simp only [if_pos hg, if_neg hb]
      rw [if_neg (by simp only [not_or]; exact ⟨hb, fun h => h hg.1, by omega⟩)]
      unfold M_signpostref01_Reader_Num_pv_k1
      have e4 : refAt B (r.drop w.toNat) = refAt B r + w := by
        unfold refAt; rw [List.length_drop]; omega
      rw [if_neg (by decide), if_pos (ok_small (by omega)), h1, e4]
    · simp only [if_neg hg, if_neg hb, Bool.not_false, hk]
      rw [if_pos (by
        by_cases hw : 1 ≤ w ∧ w ≤ 8
        · exact .inr (.inr (by omega))
        · exact .inr (.inl hw)), e0]
/-! ### addresses, contacts -/
theorem addr_good (a : G_api_Addr) : M_addr_Good a = some (decide (a.Host ≠ 0 ∧ a.Port ≠ 0)) := by
  unfold M_addr_Good
  by_cases h : a.Host = 0
  · simp [h]
  · rw [if_neg h]
    by_cases h2 : a.Port = 0
    · simp [h2]
    · rw [if_neg h2]
      have : ¬ a = ⟨0, 0⟩ := fun e => h (by rw [e])
      simp [h, h2, this]
theorem ref06_good (a : G_signpostref06_Addr) : M_signpostref06_Good a = some (decide (a.Host ≠ 0 ∧ a.Port ≠ 0)) := by
  unfold M_signpostref06_Good
  by_cases h : a.Host = 0
  · simp [h]
  · rw [if_neg h]
    simp [h]
/-- The host and the port that six bytes tell. -/
def hostS (b : List UInt8) : UInt32 := (num (b.take 4)).toUInt32
def portS (b : List UInt8) : UInt16 := (num ((b.drop 4).take 2)).toUInt16
theorem addr_read (b : List UInt8) : M_addr_Read_v b = some (if b.length = 6 ∧ hostS b ≠ 0 ∧ portS b ≠ 0 then (⟨hostS b, portS b⟩, 0) else (⟨0, 0⟩, 10)) := by
  unfold M_addr_Read_v
  by_cases h : b.length = 6
  · have e1 : numS b false 4 = (num (b.take 4), b.drop 4, false) := by
      unfold numS; rw [if_neg (by simp; omega)]; rfl
    have e2 : numS (b.drop 4) false 2 = (num ((b.drop 4).take 2), (b.drop 4).drop 2, false) := by
      unfold numS; rw [if_neg (by simp; omega)]; rfl
    rw [if_pos (by omega)]
    unfold M_octet_Open_v
    rw [if_pos (by omega), Option.bind_some, List.nil_append, octet_num (by omega), Option.bind_some, e1]
    simp only
    rw [octet_num (by rw [List.length_drop]; omega), Option.bind_some, e2]
    simp only
    rw [addr_good, Option.bind_some]
    simp only [decide_eq_true_eq]
    rw [show (num (b.take 4)).toUInt32 = hostS b from rfl, show (num ((b.drop 4).take 2)).toUInt16 = portS b from rfl]
    by_cases hg : hostS b ≠ 0 ∧ portS b ≠ 0
    · rw [if_pos hg, if_pos ⟨h, hg⟩]
    · rw [if_neg hg, if_neg (fun hh => hg hh.2)]
  · rw [if_neg (by omega), if_neg (fun hh => h hh.1)]
theorem ref06_read (b : List UInt8) : M_signpostref06_Read_v b = some (if b.length = 6 ∧ hostS b ≠ 0 ∧ portS b ≠ 0 then (⟨hostS b, portS b⟩, 0) else (⟨0, 0⟩, 10)) := by
  unfold M_signpostref06_Read_v
  by_cases h : b.length = 6
  · have e1 : getS b 0 4 = (num (b.take 4), true) := by
      unfold getS; rw [if_pos (by omega)]; rfl
    have e2 : getS b 4 2 = (num ((b.drop 4).take 2), true) := by
      unfold getS; rw [if_pos (by omega)]; rfl
    rw [if_pos (by omega), ref01_get (by omega), Option.bind_some, e1]
    simp only
    rw [ref01_get (by omega), Option.bind_some, e2]
    simp only
    rw [ref06_good, Option.bind_some]
    simp only [decide_eq_true_eq]
    rw [show (num (b.take 4)).toUInt32 = hostS b from rfl, show (num ((b.drop 4).take 2)).toUInt16 = portS b from rfl]
    by_cases hg : hostS b ≠ 0 ∧ portS b ≠ 0
    · rw [if_pos hg, if_pos ⟨h, hg⟩]
    · rw [if_neg hg, if_neg (fun hh => hg hh.2)]
  · rw [if_neg (by omega), if_neg (fun hh => h hh.1)]
/-- A contact, whoever's. -/
structure CT where
  id : Fin 20 → UInt8
  host : UInt32
  port : UInt16
def CT.p (c : CT) : G_api_Contact := ⟨c.id, ⟨c.host, c.port⟩⟩
def CT.r (c : CT) : G_signpostref08_Contact := ⟨c.id, ⟨c.host, c.port⟩⟩
def idS (b : List UInt8) : Fin 20 → UInt8 := copyA (fun _ => 0) b
def contS (b : List UInt8) : Option CT := if b.length = 26 ∧ hostS (b.drop 20) ≠ 0 ∧ portS (b.drop 20) ≠ 0 then some ⟨idS b, hostS (b.drop 20), portS (b.drop 20)⟩ else none
theorem contact_read (b : List UInt8) : M_contact_Read_v b = some (match contS b with | some c => (c.p, 0) | none => (⟨fun _ => 0, ⟨0, 0⟩⟩, 10)) := by
  unfold M_contact_Read_v contS
  by_cases h : b.length = 26
  · rw [if_pos (by omega), if_pos (by omega), addr_read, Option.bind_some]
    by_cases hg : hostS (b.drop 20) ≠ 0 ∧ portS (b.drop 20) ≠ 0
    · rw [if_pos ⟨by rw [List.length_drop]; omega, hg⟩, if_pos ⟨h, hg⟩]
      simp only [if_pos]
      rw [if_neg (fun e => hg.1 (congrArg (fun c => c.Addr.Host) e))]
      rfl
    · rw [if_neg (fun hh => hg hh.2), if_neg (fun hh => hg hh.2)]
      simp
  · rw [if_neg (by omega), if_neg (fun hh => h hh.1)]
theorem copyA_take {n : Nat} (f : Fin n → UInt8) (l : List UInt8) : copyA f (l.take n) = copyA f l := by
  funext i
  unfold copyA
  rw [List.getElem?_take, if_pos i.isLt]
theorem ref08_read (b : List UInt8) : M_signpostref08_Read_v b = some (match contS b with | some c => (c.r, 0) | none => (⟨fun _ => 0, ⟨0, 0⟩⟩, 10)) := by
  unfold M_signpostref08_Read_v contS
  by_cases h : b.length = 26
  · rw [if_pos (by omega), if_pos (by omega), if_pos (by omega), ref06_read, Option.bind_some, copyA_take]
    by_cases hg : hostS (b.drop 20) ≠ 0 ∧ portS (b.drop 20) ≠ 0
    · rw [if_pos ⟨by rw [List.length_drop]; omega, hg⟩, if_pos ⟨h, hg⟩]
      simp only [if_pos]
      rfl
    · rw [if_neg (fun hh => hg hh.2), if_neg (fun hh => hg hh.2)]
      simp
  · rw [if_neg (by omega), if_neg (fun hh => h hh.1)]
/-! ### lists of contacts -/
/-- The place of the first contact of an ID, from a place on; or -1. -/
def findF (id : Fin 20 → UInt8) : Int → List CT → Int
  | _, [] => -1
  | k, c :: l => if c.id = id then k else findF id (k + 1) l
theorem find_loopP {l : List CT} {id : Fin 20 → UInt8} (hl : l.length ≤ 4611686018427387904) : ∀ (d k : Nat), l.length = k + d →
    loopO (fun z_ => M_slices_IndexFunc_Contact_v_contact_Find_1p_b1 id (l.map CT.p) z_) (k : Int) = some (if findF id k (l.drop k) = -1 then .inl () else .inr (findF id k (l.drop k))) := by
  intro d
  induction d with
  | zero =>
    intro k h
    rw [loopO_end (r := .inl ()) (by unfold M_slices_IndexFunc_Contact_v_contact_Find_1p_b1; rw [if_neg (by rw [List.length_map]; omega)]), List.drop_of_length_le (by omega)]; rfl
  | succ d ih =>
    intro k h
    have hk : k < l.length := by omega
    have hx : at? (l.map CT.p) (k : Int) = some (l[k].p) := by rw [at?_in (by rw [List.length_map]; exact hk)]; simp
    rw [List.drop_eq_getElem_cons hk]
    unfold findF
    by_cases hc : l[k].id = id
    · rw [if_pos hc, if_neg (by omega)]
      exact loopO_end (by
        unfold M_slices_IndexFunc_Contact_v_contact_Find_1p_b1 M_contact_Find_1_p
        rw [if_pos (by rw [List.length_map]; omega), hx, Option.bind_some, Option.bind_some, if_pos (show l[k].p.ID = id from hc)])
    · rw [if_neg hc, loopO_next (s' := ((k + 1 : Nat) : Int)) (by
        unfold M_slices_IndexFunc_Contact_v_contact_Find_1p_b1 M_contact_Find_1_p
        rw [if_pos (by rw [List.length_map]; omega), hx, Option.bind_some, Option.bind_some, if_neg (show ¬ l[k].p.ID = id from hc), if_pos (ok_small (by omega))]; rfl), ih (k + 1) (by omega)]
      rfl
theorem find_loopR {l : List CT} {id : Fin 20 → UInt8} (hl : l.length ≤ 4611686018427387904) : ∀ (d k : Nat), l.length = k + d →
    loopO (fun z_ => M_signpostref08_Find_v_b1 id (l.map CT.r) z_) (k : Int) = some (if findF id k (l.drop k) = -1 then .inl () else .inr (findF id k (l.drop k))) := by
  intro d
  induction d with
  | zero =>
    intro k h
    rw [loopO_end (r := .inl ()) (by unfold M_signpostref08_Find_v_b1; rw [if_neg (by rw [List.length_map]; omega)]), List.drop_of_length_le (by omega)]; rfl
  | succ d ih =>
    intro k h
    have hk : k < l.length := by omega
    have hx : at? (l.map CT.r) (k : Int) = some (l[k].r) := by rw [at?_in (by rw [List.length_map]; exact hk)]; simp
    rw [List.drop_eq_getElem_cons hk]
    unfold findF
    by_cases hc : l[k].id = id
    · rw [if_pos hc, if_neg (by omega)]
      exact loopO_end (by
        unfold M_signpostref08_Find_v_b1
        rw [if_pos (by rw [List.length_map]; omega), hx, Option.bind_some, if_pos (show l[k].r.ID = id from hc)])
    · rw [if_neg hc, loopO_next (s' := ((k + 1 : Nat) : Int)) (by
        unfold M_signpostref08_Find_v_b1
        rw [if_pos (by rw [List.length_map]; omega), hx, Option.bind_some, if_neg (show ¬ l[k].r.ID = id from hc), if_pos (ok_small (by omega))]; rfl), ih (k + 1) (by omega)]
      rfl
def findS (l : List CT) (id : Fin 20 → UInt8) : Int := findF id 0 l
theorem contact_find {l : List CT} {id : Fin 20 → UInt8} (hl : l.length ≤ 4611686018427387904) : M_contact_Find_v (l.map CT.p) id = some (findS l id) := by
  unfold M_contact_Find_v M_slices_IndexFunc_Contact_v_contact_Find_1p
  have := find_loopP (id := id) hl l.length 0 (by omega)
  rw [show ((0 : Nat) : Int) = 0 from rfl] at this
  rw [this, Option.bind_some]
  unfold findS
  rw [List.drop_zero]
  by_cases h : findF id 0 l = -1
  · rw [if_pos h, h]; rfl
  · rw [if_neg h]; rfl
theorem ref08_find {l : List CT} {id : Fin 20 → UInt8} (hl : l.length ≤ 4611686018427387904) : M_signpostref08_Find_v (l.map CT.r) id = some (findS l id) := by
  unfold M_signpostref08_Find_v
  have := find_loopR (id := id) hl l.length 0 (by omega)
  rw [show ((0 : Nat) : Int) = 0 from rfl] at this
  rw [this, Option.bind_some]
  unfold findS
  rw [List.drop_zero]
  by_cases h : findF id 0 l = -1
  · rw [if_pos h, h]
  · rw [if_neg h]
/-- Whether the contacts of a list, from a place on, are good, and first of their IDs. -/
def goodF (l : List CT) : Int → List CT → Bool
  | _, [] => true
  | k, c :: r => decide (c.host ≠ 0 ∧ c.port ≠ 0) && decide (findS l c.id = k) && goodF l (k + 1) r
theorem good_loopP {l : List CT} (hl : l.length ≤ 4611686018427387904) : ∀ (d k : Nat), l.length = k + d →
    loopO (fun z_ => M_contact_good_v_b1 (l.map CT.p) z_) (k : Int) = some (if goodF l k (l.drop k) = true then .inl () else .inr false) := by
  intro d
  induction d with
  | zero =>
    intro k h
    rw [loopO_end (r := .inl ()) (by unfold M_contact_good_v_b1; rw [if_neg (by rw [List.length_map]; omega)]), List.drop_of_length_le (by omega)]; rfl
  | succ d ih =>
    intro k h
    have hk : k < l.length := by omega
    have hx : at? (l.map CT.p) (k : Int) = some (l[k].p) := by rw [at?_in (by rw [List.length_map]; exact hk)]; simp
    have hb : M_contact_good_v_b1 (l.map CT.p) (k : Int) = if l[k].host ≠ 0 ∧ l[k].port ≠ 0 then if findS l l[k].id = k then some (.inl ((k : Int) + 1)) else some (.inr (.inr false)) else some (.inr (.inr false)) := by
      unfold M_contact_good_v_b1 M_contact_Good
      rw [if_pos (by rw [List.length_map]; omega), hx, Option.bind_some, addr_good, Option.bind_some, Option.bind_some]
      simp only [decide_eq_true_eq]
      have e : (l[k].p.Addr.Host ≠ 0 ∧ l[k].p.Addr.Port ≠ 0) ↔ (l[k].host ≠ 0 ∧ l[k].port ≠ 0) := Iff.rfl
      by_cases hg : l[k].host ≠ 0 ∧ l[k].port ≠ 0
      · rw [if_pos (e.2 hg), if_pos hg, show l[k].p.ID = l[k].id from rfl, contact_find hl, Option.bind_some, if_pos (ok_small (by omega))]
      · rw [if_neg (fun hh => hg (e.1 hh)), if_neg hg]
    rw [List.drop_eq_getElem_cons hk]
    unfold goodF
    by_cases hg : l[k].host ≠ 0 ∧ l[k].port ≠ 0
    · by_cases hf : findS l l[k].id = k
      · rw [loopO_next (s' := ((k + 1 : Nat) : Int)) (by show M_contact_good_v_b1 (l.map CT.p) (k : Int) = _; rw [hb, if_pos hg, if_pos hf]; rfl), ih (k + 1) (by omega), decide_eq_true hg, decide_eq_true hf]
        simp
      · rw [loopO_end (r := .inr false) (by show M_contact_good_v_b1 (l.map CT.p) (k : Int) = _; rw [hb, if_pos hg, if_neg hf]), decide_eq_false hf]
        simp
    · rw [loopO_end (r := .inr false) (by show M_contact_good_v_b1 (l.map CT.p) (k : Int) = _; rw [hb, if_neg hg]), decide_eq_false hg]
      simp
def goodS (l : List CT) : Bool := goodF l 0 l && decide ((l.length : Int) ≤ 64)
theorem contact_good {l : List CT} (hl : l.length ≤ 4611686018427387904) : M_contact_good_v (l.map CT.p) = some (goodS l) := by
  unfold M_contact_good_v goodS
  have := good_loopP hl l.length 0 (by omega)
  rw [show ((0 : Nat) : Int) = 0 from rfl] at this
  rw [this, Option.bind_some, List.drop_zero]
  cases h : goodF l 0 l <;> simp
theorem good_loopR {l : List CT} (hl : l.length ≤ 4611686018427387904) : ∀ (d k : Nat), l.length = k + d →
    loopO (fun z_ => M_signpostref08_GoodList_v_b1 (l.map CT.r) z_) (k : Int) = some (if goodF l k (l.drop k) = true then .inl () else .inr false) := by
  intro d
  induction d with
  | zero =>
    intro k h
    rw [loopO_end (r := .inl ()) (by unfold M_signpostref08_GoodList_v_b1; rw [if_neg (by rw [List.length_map]; omega)]), List.drop_of_length_le (by omega)]; rfl
  | succ d ih =>
    intro k h
    have hk : k < l.length := by omega
    have hx : at? (l.map CT.r) (k : Int) = some (l[k].r) := by rw [at?_in (by rw [List.length_map]; exact hk)]; simp
    have hb : M_signpostref08_GoodList_v_b1 (l.map CT.r) (k : Int) = if l[k].host ≠ 0 ∧ l[k].port ≠ 0 then if findS l l[k].id = k then some (.inl ((k : Int) + 1)) else some (.inr (.inr false)) else some (.inr (.inr false)) := by
      unfold M_signpostref08_GoodList_v_b1 M_signpostref08_Good
      rw [if_pos (by rw [List.length_map]; omega), hx, Option.bind_some, ref06_good, Option.bind_some, Option.bind_some]
      simp only [decide_eq_true_eq]
      have e : (l[k].r.Addr.Host ≠ 0 ∧ l[k].r.Addr.Port ≠ 0) ↔ (l[k].host ≠ 0 ∧ l[k].port ≠ 0) := Iff.rfl
      by_cases hg : l[k].host ≠ 0 ∧ l[k].port ≠ 0
      · rw [if_pos (e.2 hg), if_pos hg, show l[k].r.ID = l[k].id from rfl, ref08_find hl, Option.bind_some, if_pos (ok_small (by omega))]
      · rw [if_neg (fun hh => hg (e.1 hh)), if_neg hg]
    rw [List.drop_eq_getElem_cons hk]
    unfold goodF
    by_cases hg : l[k].host ≠ 0 ∧ l[k].port ≠ 0
    · by_cases hf : findS l l[k].id = k
      · rw [loopO_next (s' := ((k + 1 : Nat) : Int)) (by show M_signpostref08_GoodList_v_b1 (l.map CT.r) (k : Int) = _; rw [hb, if_pos hg, if_pos hf]; rfl), ih (k + 1) (by omega), decide_eq_true hg, decide_eq_true hf]
        simp
      · rw [loopO_end (r := .inr false) (by show M_signpostref08_GoodList_v_b1 (l.map CT.r) (k : Int) = _; rw [hb, if_pos hg, if_neg hf]), decide_eq_false hf]
        simp
    · rw [loopO_end (r := .inr false) (by show M_signpostref08_GoodList_v_b1 (l.map CT.r) (k : Int) = _; rw [hb, if_neg hg]), decide_eq_false hg]
      simp
theorem ref08_good {l : List CT} (hl : l.length ≤ 4611686018427387904) : M_signpostref08_GoodList_v (l.map CT.r) = some (goodS l) := by
  unfold M_signpostref08_GoodList_v goodS
  have := good_loopR hl l.length 0 (by omega)
  rw [show ((0 : Nat) : Int) = 0 from rfl] at this
  rw [this, Option.bind_some, List.drop_zero]
  cases h : goodF l 0 l <;> simp
/-! ### reading lists -/
/-- So many contacts, read one by one behind these: whether all were there, and what is left. -/
def readF : Nat → List CT → List UInt8 → Bool → Option (List CT × List UInt8 × Bool)
  | 0, out, r, bad => some (out, r, bad)
  | n + 1, out, r, bad => match contS (takeS r bad 26).1 with
    | some c => readF n (out ++ [c]) (takeS r bad 26).2.1 (takeS r bad 26).2.2
    | none => none
theorem takeS_bad (r : List UInt8) (bad : Bool) : takeS r bad (-1) = ([], [], true) := by unfold takeS; rw [if_pos (.inr (.inl (by decide)))]
theorem readF_bound : ∀ (n : Nat) (out : List CT) (r : List UInt8) (bad : Bool) {o : List CT × List UInt8 × Bool}, readF n out r bad = some o → o.1.length = out.length + n ∧ o.2.1 <:+ r
  | 0, out, r, bad, o, h => by simp only [readF, Option.some.injEq] at h; subst h; exact ⟨rfl, List.suffix_refl _⟩
  | n + 1, out, r, bad, o, h => by
    unfold readF at h
    split at h
    · rename_i c hc
      obtain ⟨h1, h2⟩ := readF_bound n _ _ _ h
      exact ⟨by rw [h1, List.length_append]; simp; omega, h2.trans (takeS_suffix _ _ _)⟩
    · cases h
theorem readP_loop {m : Nat} (hm : m ≤ 255) : ∀ (d k : Nat) (out : List CT) (r : List UInt8) (bad : Bool), m = k + d → out.length = k → r.length ≤ 140737488355328 →
    loopO (fun z_ => M_contact_ReadList_po_b1 true (UInt64.ofNat m) z_.1 z_.2.1 z_.2.2.1 z_.2.2.2) (out.map CT.p, r, bad, UInt64.ofNat k) =
      some (match readF d out r bad with | some o => .inl (o.1.map CT.p, o.2.1, o.2.2) | none => .inr ([], [], true)) := by
  have hlt : ∀ k, k ≤ 255 → (UInt64.ofNat k).toNat = k := fun k hk => by rw [UInt64.toNat_ofNat']; omega
  intro d
  induction d with
  | zero =>
    intro k out r bad h ho hr
    exact loopO_end (by
      simp only [M_contact_ReadList_po_b1]
      rw [if_neg (by rw [UInt64.lt_iff_toNat_lt, hlt _ (by omega), hlt _ hm]; omega)]; rfl)
  | succ d ih =>
    intro k out r bad h ho hr
    have hlen := takeS_len r bad 26
    rcases ht : takeS r bad 26 with ⟨x, r', b'⟩
    rw [ht] at hlen; simp only at hlen
    have hc := contact_read x
    have hb : M_contact_ReadList_po_b1 true (UInt64.ofNat m) (out.map CT.p) r bad (UInt64.ofNat k) =
        match contS x with | some c => some (.inl ((out ++ [c]).map CT.p, r', b', UInt64.ofNat (k + 1))) | none => some (.inr (.inr ([], [], true))) := by
      unfold M_contact_ReadList_po_b1
      rw [if_pos (by rw [UInt64.lt_iff_toNat_lt, hlt _ (by omega), hlt _ hm]; omega), octet_take hr, Option.bind_some, ht]
      simp only
      rw [hc, Option.bind_some]
      cases hh : contS x with
      | none =>
        simp only
        rw [if_neg (by decide), octet_take (by omega), Option.bind_some, takeS_bad]
      | some c =>
        simp only
        rw [if_pos trivial, if_pos (by rw [List.length_map]; omega)]
        have e : UInt64.ofNat k + 1 = UInt64.ofNat (k + 1) := by
          apply UInt64.toNat_inj.1
          rw [UInt64.toNat_add, hlt _ (by omega), hlt _ (by omega)]
          show (k + 1) % 2 ^ 64 = k + 1
          omega
        rw [e, List.map_append]; rfl
    unfold readF
    rw [ht]
    simp only
    cases hh : contS x with
    | none =>
      rw [hh] at hb
      exact loopO_end (by exact hb)
    | some c =>
      rw [hh] at hb
      rw [loopO_next (s' := ((out ++ [c]).map CT.p, r', b', UInt64.ofNat (k + 1))) (by exact hb)]
      exact ih (k + 1) _ _ _ (by omega) (by rw [List.length_append, ho]; rfl) (by omega)
/-- The list that is read; what is left. -/
def listS (r : List UInt8) (bad : Bool) : List CT × List UInt8 × Bool :=
  match readF (numS r bad 1).1.toNat [] (numS r bad 1).2.1 (numS r bad 1).2.2 with
  | some o => if goodS o.1 = true then o else ([], [], true)
  | none => ([], [], true)
theorem num1 (r : List UInt8) (bad : Bool) : ∃ m : Nat, m ≤ 255 ∧ (numS r bad 1).1 = UInt64.ofNat m := by
  unfold numS
  split
  · exact ⟨0, by omega, rfl⟩
  · match r with
    | [] => exact ⟨0, by omega, rfl⟩
    | x :: r =>
      refine ⟨x.toNat, by have := x.toNat_lt; omega, ?_⟩
      apply UInt64.toNat_inj.1
      have := x.toNat_lt
      simp [num]
theorem contact_readList {r : List UInt8} {bad : Bool} (hr : r.length ≤ 140737488355328) : M_contact_ReadList_po r true bad = some ((listS r bad).1.map CT.p, (listS r bad).2.1, (listS r bad).2.2) := by
  obtain ⟨m, hm, e⟩ := num1 r bad
  have hl := numS_len r bad 1
  have hlt : (UInt64.ofNat m).toNat = m := by rw [UInt64.toNat_ofNat']; omega
  unfold M_contact_ReadList_po listS
  rw [octet_num hr, Option.bind_some]
  simp only
  rw [e, hlt]
  have := readP_loop hm m 0 [] (numS r bad 1).2.1 (numS r bad 1).2.2 (by omega) rfl (by omega)
  rw [show UInt64.ofNat 0 = 0 from rfl, List.map_nil] at this
  rw [this, Option.bind_some]
  cases hh : readF m [] (numS r bad 1).2.1 (numS r bad 1).2.2 with
  | none => rfl
  | some o =>
    obtain ⟨h1, h2⟩ := readF_bound _ _ _ _ hh
    simp only
    rw [contact_good (by rw [h1]; simp; omega), Option.bind_some]
    cases hg : goodS o.1 with
    | true => rfl
    | false =>
      simp only [Bool.false_eq_true, if_false]
      rw [octet_take (by have := h2.length_le; omega), Option.bind_some, takeS_bad]; rfl
theorem readR_loop {B : List UInt8} {m : Nat} (hm : m ≤ 255) (hB : B.length ≤ 140737488355328) : ∀ (d k : Nat) (out : List CT) (r : List UInt8) (bad : Bool), m = k + d → out.length = k → r <:+ B →
    loopO (fun z_ => M_signpostref08_ReadList_pv_b1 B (UInt64.ofNat m) z_.1 z_.2.1 z_.2.2.1 z_.2.2.2) (refAt B r, bad, out.map CT.r, (k : Int)) =
      some (match readF d out r bad with | some o => .inl (refAt B o.2.1, o.2.2, o.1.map CT.r) | none => .inr ([], refAt B [], true)) := by
  have hlt : ∀ k, k ≤ 255 → (UInt64.ofNat k).toNat = k := fun k hk => by rw [UInt64.toNat_ofNat']; omega
  intro d
  induction d with
  | zero =>
    intro k out r bad h ho hr
    exact loopO_end (by
      simp only [M_signpostref08_ReadList_pv_b1]
      rw [if_neg (by rw [hlt _ hm]; omega)]; rfl)
  | succ d ih =>
    intro k out r bad h ho hr
    have hsuf := takeS_suffix r bad 26
    rcases ht : takeS r bad 26 with ⟨x, r', b'⟩
    rw [ht] at hsuf
    have hc := ref08_read x
    have hb : M_signpostref08_ReadList_pv_b1 B (UInt64.ofNat m) (refAt B r) bad (out.map CT.r) (k : Int) =
        match contS x with | some c => some (.inl (refAt B r', b', (out ++ [c]).map CT.r, ((k + 1 : Nat) : Int))) | none => some (.inr (.inr ([], refAt B [], true))) := by
      unfold M_signpostref08_ReadList_pv_b1
      rw [if_pos (by rw [hlt _ hm]; omega), ref01_take hB hr (by omega), Option.bind_some, ht]
      simp only
      rw [hc, Option.bind_some]
      cases hh : contS x with
      | none =>
        simp only
        rw [if_neg (by decide), ref01_take hB (hsuf.trans hr) (by omega), Option.bind_some, takeS_bad]
      | some c =>
        simp only
        rw [if_pos trivial, if_pos (by rw [List.length_map]; omega), if_pos (ok_small (by omega)), List.map_append]; rfl
    unfold readF
    rw [ht]
    simp only
    cases hh : contS x with
    | none =>
      rw [hh] at hb
      exact loopO_end (by exact hb)
    | some c =>
      rw [hh] at hb
      rw [loopO_next (s' := (refAt B r', b', (out ++ [c]).map CT.r, ((k + 1 : Nat) : Int))) (by exact hb)]
      exact ih (k + 1) _ _ _ (by omega) (by rw [List.length_append, ho]; rfl) (hsuf.trans hr)
theorem ref08_readList {B r : List UInt8} {bad : Bool} (hB : B.length ≤ 140737488355328) (hr : r <:+ B) : M_signpostref08_ReadList_pv B (refAt B r) bad = some ((listS r bad).1.map CT.r, refAt B (listS r bad).2.1, (listS r bad).2.2) := by
  obtain ⟨m, hm, e⟩ := num1 r bad
  have hs := numS_suffix r bad 1
  have hlt : (UInt64.ofNat m).toNat = m := by rw [UInt64.toNat_ofNat']; omega
  unfold M_signpostref08_ReadList_pv listS
  rw [ref01_num hB hr, Option.bind_some]
  simp only
  rw [e, if_pos (by rw [hlt]; omega), hlt]
  have := readR_loop hm hB m 0 [] (numS r bad 1).2.1 (numS r bad 1).2.2 (by omega) rfl (hs.trans hr)
  rw [show ((0 : Nat) : Int) = 0 from rfl, List.map_nil] at this
  rw [this, Option.bind_some]
  cases hh : readF m [] (numS r bad 1).2.1 (numS r bad 1).2.2 with
  | none => rfl
  | some o =>
    obtain ⟨h1, h2⟩ := readF_bound _ _ _ _ hh
    simp only
    rw [ref08_good (by rw [h1]; simp; omega), Option.bind_some]
    cases hg : goodS o.1 with
    | true => rfl
    | false =>
      simp only [Bool.false_eq_true, if_false]
      rw [ref01_take hB (h2.trans (hs.trans hr)) (by omega), Option.bind_some, takeS_bad]; rfl
/-! ### numbers put -/
/-- The bytes of a number, so many, the most significant first. -/
def putF (n : UInt64) : Nat → List UInt8
  | 0 => []
  | d + 1 => (shr64 n (8 * d)).toUInt8 :: putF n d
theorem putF_len (n : UInt64) : ∀ d, (putF n d).length = d
  | 0 => rfl
  | d + 1 => by rw [putF, List.length_cons, putF_len n d]
theorem put_loop {n : UInt64} {w : Nat} (hw : w ≤ 8) : ∀ (d k : Nat) (out : List UInt8), w = k + d → out.length + d ≤ 140737488355328 →
    loopO (fun z_ => M_octet_Put_v_b1 n (w : Int) z_.1 z_.2) (out, (k : Int)) = some (out ++ putF n d) := by
  intro d
  induction d with
  | zero =>
    intro k out h ho
    rw [loopO_end (r := out) (by unfold M_octet_Put_v_b1; rw [if_neg (by omega)]), putF, List.append_nil]
  | succ d ih =>
    intro k out h ho
    have e : (UInt64.ofInt (8 * (((w : Int) - 1) - (k : Int)))).toNat = 8 * d := by
      rw [show (8 * (((w : Int) - 1) - (k : Int)) : Int) = ((8 * d : Nat) : Int) by omega]
      rw [show UInt64.ofInt ((8 * d : Nat) : Int) = UInt64.ofNat (8 * d) by
        apply UInt64.toNat_inj.1
        simp [UInt64.ofInt, UInt64.toNat_ofNat']; omega, UInt64.toNat_ofNat']
      omega
    rw [loopO_next (s' := (out ++ [(shr64 n (8 * d)).toUInt8], ((k + 1 : Nat) : Int))) (by
      show M_octet_Put_v_b1 n (w : Int) out (k : Int) = _
      unfold M_octet_Put_v_b1
      rw [if_pos (by omega), if_pos (ok_small (by omega)), if_pos (ok_small (by omega)), if_pos (ok_small (by omega)), if_pos (by omega), if_pos (ok_small (by omega)), e]; rfl),
      ih (k + 1) _ (by omega) (by rw [List.length_append, List.length_singleton]; omega), putF, List.append_assoc]
    rfl
theorem octet_put {b : List UInt8} {n : UInt64} {w : Int} (hb : b.length ≤ 140737488355320) : M_octet_Put_v b n w = some (if 1 ≤ w ∧ w ≤ 8 then b ++ putF n w.toNat else b) := by
  unfold M_octet_Put_v
  rw [if_pos (by omega), octet_may, Option.bind_some]
  by_cases h : 1 ≤ w ∧ w ≤ 8
  · have hl := put_loop (n := n) (w := w.toNat) (by omega) w.toNat 0 b (by omega) (by omega)
    rw [show ((w.toNat : Nat) : Int) = w by omega, show ((0 : Nat) : Int) = 0 from rfl] at hl
    rw [if_pos (decide_eq_true h), if_pos h, List.nil_append, hl]
    rfl
  · rw [if_neg (by simpa using h), if_neg h]; rfl
theorem num_put (n : UInt64) : ∀ (d : Nat) (s : UInt64), ((putF n d).foldl (fun n x => n * 256 + x.toUInt64) s).toNat = (s.toNat * 256 ^ d + n.toNat % 256 ^ d) % 18446744073709551616
  | 0, s => by
    have := s.toNat_lt
    simp [putF, Nat.mod_one]
  | d + 1, s => by
    have hn := n.toNat_lt
    rw [putF, List.foldl_cons, num_put n d]
    have e0 : (256 : Nat) ^ d = 2 ^ (8 * d) := by rw [Nat.pow_mul]
    have e1 : ((shr64 n (8 * d)).toUInt8).toUInt64.toNat = n.toNat / 256 ^ d % 256 := by
      rw [e0]
      have : n.toNat / 2 ^ (8 * d) ≤ n.toNat := Nat.div_le_self _ _
      simp [shr64]
    rw [UInt64.toNat_add, UInt64.toNat_mul, e1, show (256 : UInt64).toNat = 256 from rfl]
    have e2 : n.toNat % 256 ^ (d + 1) = n.toNat % 256 ^ d + 256 ^ d * (n.toNat / 256 ^ d % 256) := by rw [Nat.pow_succ, Nat.mod_mul]
    rw [e2]
    have e3 : (s.toNat * 256 % 2 ^ 64 + n.toNat / 256 ^ d % 256) % 2 ^ 64 = (s.toNat * 256 + n.toNat / 256 ^ d % 256) % 18446744073709551616 := by omega
    rw [e3, Nat.add_mod, Nat.mul_mod, Nat.mod_mod, ← Nat.mul_mod, ← Nat.add_mod]
    congr 1
    rw [Nat.pow_succ, Nat.add_mul]
    generalize 256 ^ d = q
    generalize n.toNat / q % 256 = y
    generalize n.toNat % q = z
    rw [Nat.mul_comm q y, Nat.mul_comm q 256, ← Nat.mul_assoc]
    omega
/-! ### contacts to bytes -/
theorem num_put_toNat (n : UInt64) (d : Nat) : (num (putF n d)).toNat = n.toNat % 256 ^ d % 18446744073709551616 := by
  have := num_put n d 0
  rw [show (0 : UInt64).toNat = 0 from rfl, Nat.zero_mul, Nat.zero_add] at this
  exact this
theorem addr_bytes (a : G_api_Addr) : M_addr_Bytes a = some (putF a.Host.toUInt64 4 ++ putF a.Port.toUInt64 2) := by
  unfold M_addr_Bytes
  rw [octet_put (by simp), Option.bind_some, if_pos (by decide), octet_put (by rw [List.nil_append, putF_len]; decide), Option.bind_some, if_pos (by decide)]
  rfl
theorem contact_bytes (c : G_api_Contact) : M_contact_Bytes c = some (List.ofFn c.ID ++ (putF c.Addr.Host.toUInt64 4 ++ putF c.Addr.Port.toUInt64 2)) := by
  unfold M_contact_Bytes
  rw [addr_bytes, Option.bind_some]
  have e2 : (putF c.Addr.Host.toUInt64 4 ++ putF c.Addr.Port.toUInt64 2).length = 6 := by rw [List.length_append, putF_len, putF_len]
  generalize putF c.Addr.Host.toUInt64 4 ++ putF c.Addr.Port.toUInt64 2 = y at e2
  have e1 : (List.ofFn c.ID).length = 20 := List.length_ofFn
  generalize List.ofFn c.ID = x at e1
  unfold M_slices_Concat_byte_s2vo
  rw [e1, e2, if_pos (by decide), if_neg (by decide), if_pos (by decide), if_neg (by decide)]
  have eg : M_slices_Grow_byte_n ((0 + ((20 : Nat) : Int)) + ((6 : Nat) : Int)) = some [] := by
    unfold M_slices_Grow_byte_n
    rw [if_neg (by decide), if_pos (by decide), if_pos (by decide), if_pos (by decide), if_pos (by simp), if_pos (by simp)]
    rfl
  rw [eg, Option.bind_some, if_pos (by simp), if_pos (by simp [e1]), Option.bind_some]
  rfl
theorem contS_bytes (c : CT) : contS (List.ofFn c.id ++ (putF c.host.toUInt64 4 ++ putF c.port.toUInt64 2)) = if c.host ≠ 0 ∧ c.port ≠ 0 then some c else none := by
  have e1 : (List.ofFn c.id).length = 20 := List.length_ofFn
  have ed : (List.ofFn c.id ++ (putF c.host.toUInt64 4 ++ putF c.port.toUInt64 2)).drop 20 = putF c.host.toUInt64 4 ++ putF c.port.toUInt64 2 := by
    exact List.drop_left' e1
  have el4 : (putF c.host.toUInt64 4).length = 4 := putF_len _ _
  have eh : hostS (putF c.host.toUInt64 4 ++ putF c.port.toUInt64 2) = c.host := by
    unfold hostS
    rw [List.take_append_of_le_length (by omega), List.take_of_length_le (by omega)]
    apply UInt32.toNat_inj.1
    have := c.host.toNat_lt
    have h2 := num_put_toNat c.host.toUInt64 4
    rw [UInt32.toNat_toUInt64] at h2
    rw [UInt64.toNat_toUInt32, h2]
    omega
  have ep : portS (putF c.host.toUInt64 4 ++ putF c.port.toUInt64 2) = c.port := by
    unfold portS
    have : (putF c.host.toUInt64 4 ++ putF c.port.toUInt64 2).drop 4 = putF c.port.toUInt64 2 := by
      exact List.drop_left' el4
    rw [this, List.take_of_length_le (by rw [putF_len]; omega)]
    apply UInt16.toNat_inj.1
    have := c.port.toNat_lt
    have h2 := num_put_toNat c.port.toUInt64 2
    rw [UInt16.toNat_toUInt64] at h2
    rw [UInt64.toNat_toUInt16, h2]
    omega
  have ei : idS (List.ofFn c.id ++ (putF c.host.toUInt64 4 ++ putF c.port.toUInt64 2)) = c.id := by
    unfold idS copyA
    funext i
    have hi : i.val < (List.ofFn c.id).length := by rw [e1]; exact i.isLt
    rw [List.getElem?_append_left hi, List.getElem?_eq_getElem hi]
    show (List.ofFn c.id)[i.val] = c.id i
    rw [List.getElem_ofFn]
  unfold contS
  rw [ed, eh, ep, ei]
  have el : (List.ofFn c.id ++ (putF c.host.toUInt64 4 ++ putF c.port.toUInt64 2)).length = 26 := by
    rw [List.length_append, List.length_append, e1, putF_len, putF_len]
  by_cases h : c.host ≠ 0 ∧ c.port ≠ 0
  · rw [if_pos ⟨el, h⟩, if_pos h]
  · rw [if_neg (fun hh => h hh.2), if_neg h]
/-! ### the probe -/
theorem lives08 : M_signpostlaw08_lives = some true := by
  have e1 : M_contact_List_v ([] : List G_api_Contact) = some ([0], 0) := by
    unfold M_contact_List_v
    have := contact_good (l := []) (by simp)
    rw [List.map_nil] at this
    rw [this, Option.bind_some, show goodS [] = true from rfl, if_pos rfl, octet_put (by simp), Option.bind_some, if_pos (by decide),
      loopO_end (r := ([] ++ putF (UInt64.ofInt (([] : List G_api_Contact).length : Int)) 1 : List UInt8)) (by unfold M_contact_List_v_b1; rw [if_neg (by simp)]; rfl), Option.bind_some]
    rfl
  have e2 : M_contact_Find_v ([] : List G_api_Contact) (fun _ => 0) = some (-1) := contact_find (l := []) (by simp)
  have e3 := contS_bytes ⟨fun _ => 0, 1, 1⟩
  unfold M_signpostlaw08_lives
  rw [e1, Option.bind_some]
  simp only
  rw [contact_bytes, Option.bind_some, contact_read]
  simp only at e3 ⊢
  rw [e3, if_pos (by decide)]
  simp only [Option.bind_some, e2, CT.p]
  rfl
/-! ### the statement -/
theorem same_loop {l : List CT} (hl : l.length ≤ 4611686018427387904) : ∀ (d k : Nat), l.length = k + d →
    loopO (fun z_ => M_signpostlaw08_Same_vv_b1 (l.map CT.p) (l.map CT.r) z_) (k : Int) = some (.inl ()) := by
  intro d
  induction d with
  | zero =>
    intro k h
    exact loopO_end (by unfold M_signpostlaw08_Same_vv_b1; rw [if_neg (by rw [List.length_map]; omega)])
  | succ d ih =>
    intro k h
    have hk : k < l.length := by omega
    have hx : at? (l.map CT.p) (k : Int) = some (l[k].p) := by rw [at?_in (by rw [List.length_map]; exact hk)]; simp
    have hy : at? (l.map CT.r) (k : Int) = some (l[k].r) := by rw [at?_in (by rw [List.length_map]; exact hk)]; simp
    rw [loopO_next (s' := ((k + 1 : Nat) : Int)) (by
      unfold M_signpostlaw08_Same_vv_b1 M_signpostlaw08_One
      rw [if_pos (by rw [List.length_map]; omega), hx, hy, Option.bind_some, Option.bind_some, Option.bind_some, if_pos (by rfl), if_pos (ok_small (by omega))]; rfl)]
    exact ih (k + 1) (by omega)
theorem same08 {l : List CT} (hl : l.length ≤ 4611686018427387904) : M_signpostlaw08_Same_vv (l.map CT.p) (l.map CT.r) = some true := by
  unfold M_signpostlaw08_Same_vv
  have := same_loop hl l.length 0 (by omega)
  rw [show ((0 : Nat) : Int) = 0 from rfl] at this
  rw [if_pos (by rw [List.length_map, List.length_map]), this, Option.bind_some]
theorem readList_z : M_contact_ReadList_z = some () := by
  have h := contact_good (l := []) (by simp)
  rw [List.map_nil] at h
  unfold M_contact_ReadList_z M_octet_Reader_Num_z M_octet_Reader_none_z
  rw [Option.bind_some, Option.bind_some, loopO_end (r := ()) (by unfold M_contact_ReadList_z_b1; rfl), Option.bind_some]
  show Option.bind (M_contact_good_v []) _ = _
  rw [h, Option.bind_some, show goodS [] = true from rfl, if_pos rfl]
theorem listS_len {r : List UInt8} {bad : Bool} : (listS r bad).1.length ≤ 255 := by
  obtain ⟨m, hm, e⟩ := num1 r bad
  have hlt : (UInt64.ofNat m).toNat = m := by rw [UInt64.toNat_ofNat']; omega
  unfold listS
  rw [e, hlt]
  cases hh : readF m [] (numS r bad 1).2.1 (numS r bad 1).2.2 with
  | none => simp
  | some o =>
    obtain ⟨h1, h2⟩ := readF_bound _ _ _ _ hh
    simp only
    split
    · rw [h1]; simp; omega
    · simp
theorem listS_suffix {r : List UInt8} {bad : Bool} : (listS r bad).2.1 <:+ r := by
  unfold listS
  cases hh : readF (numS r bad 1).1.toNat [] (numS r bad 1).2.1 (numS r bad 1).2.2 with
  | none => exact List.nil_suffix
  | some o =>
    obtain ⟨h1, h2⟩ := readF_bound _ _ _ _ hh
    simp only
    split
    · exact h2.trans (numS_suffix _ _ _)
    · exact List.nil_suffix
theorem pure_ContactReads (b : List UInt8) (ahead : Int) (hl_b : b.length ≤ maxLen) (wf_ahead : ok64 ahead) : M_signpostlaw08_ContactReads_v b ahead = some true := by
  unfold M_signpostlaw08_ContactReads_v
  by_cases h : (5000 : Int) < b.length
  · rw [if_pos h, lives08]; rfl
  · have hb : b.length ≤ 5000 := by omega
    have h0 : (0 : Int) = refAt b b := by unfold refAt; omega
    obtain ⟨P, R, eP, eR, ec, ei⟩ : ∃ (P : G_api_Contact × Int) (R : G_signpostref08_Contact × Int), M_contact_Read_v b = some P ∧ M_signpostref08_Read_v b = some R ∧ (⟨P.1.ID, ⟨P.1.Addr.Host, P.1.Addr.Port⟩⟩ : G_signpostref08_Contact) = R.1 ∧ P.2 = R.2 := by
      rw [contact_read, ref08_read]
      cases contS b with
      | none => exact ⟨_, _, rfl, rfl, rfl, rfl⟩
      | some c => exact ⟨_, _, rfl, rfl, rfl, rfl⟩
    obtain ⟨P1, P2⟩ := P
    obtain ⟨R1, R2⟩ := R
    simp only at ec ei
    rw [if_neg h, eP, Option.bind_some]
    simp only
    rw [eR, Option.bind_some]
    simp only
    unfold M_octet_Open_v
    rw [if_pos (by omega), Option.bind_some, List.nil_append, octet_take (by omega), Option.bind_some]
    rw [h0, ref01_take (by omega) (List.suffix_refl _) wf_ahead.2, Option.bind_some]
    have ht := takeS_suffix b false ahead
    generalize takeS b false ahead = t at ht
    obtain ⟨x, r, bad⟩ := t
    simp only at ht ⊢
    have hr := ht.length_le
    rw [contact_readList (by omega), Option.bind_some, ref08_readList (by omega) ht, Option.bind_some]
    have hs := listS_suffix (r := r) (bad := bad)
    have hll := listS_len (r := r) (bad := bad)
    generalize listS r bad = o at hs hll
    obtain ⟨l, r2, bad2⟩ := o
    simp only at hs hll ⊢
    have hr2 := hs.length_le
    unfold M_signpostlaw08_One
    rw [Option.bind_some, same08 (by omega), Option.bind_some]
    unfold M_octet_Reader_Left_po M_octet_Reader_Bad_po M_signpostref01_Reader_Left_pv M_octet_Reader_none_po M_octet_rest_left_po
    have e : (b.length : Int) - refAt b r2 = r2.length := by unfold refAt; omega
    rw [e, if_pos (ok_small (by omega)), readList_z, lives08, if_pos ec, if_pos ei]
    simp
end Go.Proofs.Ytaaahjcldomnbaa
