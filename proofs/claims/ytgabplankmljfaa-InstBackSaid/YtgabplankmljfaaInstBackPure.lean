/-
  What the functions that the statement InstBack reaches compute, as plain laws; and the statement about them. No condition.
-/
import Derived.Test.YtgabplankmljfaaInstBackMod
import Derived.Test.YtgabplankmljfaaBPure
namespace Go.Proofs.Ytgabplankmljfaa
open Go Go.RowKit
set_option linter.unusedVariables false
set_option linter.unusedSimpArgs false
/-! ### names -/
theorem idx_lt : ∀ (l : List UInt8) (c : UInt8), -1 ≤ Lib.indexByte l c ∧ (0 ≤ Lib.indexByte l c → Lib.indexByte l c < l.length)
  | [], c => by simp [Lib.indexByte]
  | b :: l, c => by
    have h := idx_lt l c
    unfold Lib.indexByte
    simp only [List.length_cons]
    split
    · omega
    · split
      · omega
      · rename_i h1 h2
        simp only [beq_iff_eq] at h2
        omega
/-- A text cut at its first point. -/
def cutS (s : List UInt8) : List UInt8 × List UInt8 × Bool := if 0 ≤ Lib.indexByte s 46 then (s.take (Lib.indexByte s 46).toNat, s.drop (Lib.indexByte s 46 + 1).toNat, true) else (s, [], false)
theorem label_cut {s : List UInt8} (hs : s.length ≤ 4611686018427387904) : M_strings_Cut s = some (cutS s) := by
  have hi : M_stringslite_Index s = some (Lib.indexByte s 46) := by
    unfold M_stringslite_Index
    by_cases h : [46] = s
    · rw [if_pos h, ← h]; rfl
    · rw [if_neg h]; rfl
  have hb := idx_lt s 46
  unfold M_strings_Cut M_stringslite_Cut cutS
  rw [hi, Option.bind_some]
  by_cases h : 0 ≤ Lib.indexByte s 46
  · rw [if_pos h, if_pos (by omega), if_pos (ok_small (by omega)), if_pos (by omega), if_pos h]; rfl
  · rw [if_neg h, if_neg h]; rfl
/-- The texts between points. -/
def partsF : Nat → List UInt8 → List (List UInt8)
  | 0, s => [s]
  | n + 1, s => if (cutS s).2.2 = true then (cutS s).1 :: partsF n (cutS s).2.1 else [s]
def partsS (s : List UInt8) : List (List UInt8) := partsF s.length s
theorem cutS_len (s : List UInt8) : (cutS s).1.length ≤ s.length ∧ ((cutS s).2.2 = true → (cutS s).2.1.length < s.length) ∧ ((cutS s).2.2 = false → (cutS s).1 = s) := by
  have hb := idx_lt s 46
  unfold cutS
  split
  · refine ⟨by simp only [List.length_take]; omega, fun _ => ?_, fun h => (by cases h)⟩
    simp only [List.length_drop]; omega
  · exact ⟨Nat.le_refl _, (fun h => by cases h), fun _ => rfl⟩
theorem parts_loop {σ ρ : Type} {f : σ → List UInt8 → Option (σ ⊕ ρ)} : ∀ (n : Nat) (s : List UInt8) (z : σ), s.length ≤ n → s.length ≤ 4611686018427387904 →
    loopO (fun z_ => M_label_parts_1_p_b1 f z_.1 z_.2) (z, s) = rangeO f (partsF n s) z := by
  have hb : ∀ (s : List UInt8) (z : σ), s.length ≤ 4611686018427387904 → M_label_parts_1_p_b1 f z s = (f z (cutS s).1).bind fun y => match y with
      | .inl z2 => if (cutS s).2.2 = true then some (.inl (z2, (cutS s).2.1)) else some (.inr (.inl z2))
      | .inr x => some (.inr (.inr x)) := by
    intro s z hs
    unfold M_label_parts_1_p_b1
    rw [label_cut hs, Option.bind_some]
    rfl
  intro n
  induction n with
  | zero =>
    intro s z hn hs
    obtain ⟨h1, h2, h3⟩ := cutS_len s
    have hc : (cutS s).2.2 = false := by
      cases h : (cutS s).2.2 with
      | false => rfl
      | true => have := h2 h; omega
    have hb1 := hb s z hs
    rw [hc, h3 hc] at hb1
    simp only [partsF, rangeO]
    cases hf : f z s with
    | none =>
      rw [hf] at hb1
      exact loopO_none hb1
    | some y =>
      rw [hf] at hb1
      cases y with
      | inl z2 => exact loopO_end hb1
      | inr x => exact loopO_end hb1
  | succ n ih =>
    intro s z hn hs
    obtain ⟨h1, h2, h3⟩ := cutS_len s
    have hb1 := hb s z hs
    unfold partsF
    cases hc : (cutS s).2.2 with
    | true =>
      rw [hc] at hb1
      simp only [if_pos, rangeO]
      cases hf : f z (cutS s).1 with
      | none => rw [hf] at hb1; exact loopO_none hb1
      | some y =>
        rw [hf] at hb1
        cases y with
        | inl z2 => rw [loopO_next hb1]; exact ih _ _ (by have := h2 hc; omega) (by have := h2 hc; omega)
        | inr x => exact loopO_end hb1
    | false =>
      rw [hc, h3 hc] at hb1
      simp only [Bool.false_eq_true, if_false, rangeO]
      cases hf : f z s with
      | none => rw [hf] at hb1; exact loopO_none hb1
      | some y =>
        rw [hf] at hb1
        cases y with
        | inl z2 => exact loopO_end hb1
        | inr x => exact loopO_end hb1
theorem label_parts {σ ρ : Type} {f : σ → List UInt8 → Option (σ ⊕ ρ)} {s : List UInt8} {z : σ} (hs : s.length ≤ 4611686018427387904) : M_label_parts_1_p f s z = rangeO f (partsS s) z := by
  unfold M_label_parts_1_p partsS
  rw [parts_loop s.length s z (Nat.le_refl _) hs]
  cases rangeO f (partsF s.length s) z <;> rfl
theorem partsF_len : ∀ (n : Nat) (s : List UInt8), ∀ p ∈ partsF n s, p.length ≤ s.length
  | 0, s, p, hp => by simp only [partsF, List.mem_singleton] at hp; subst hp; exact Nat.le_refl _
  | n + 1, s, p, hp => by
    obtain ⟨h1, h2, h3⟩ := cutS_len s
    unfold partsF at hp
    split at hp
    · rename_i hc
      rcases List.mem_cons.1 hp with rfl | hp
      · exact h1
      · have := partsF_len n _ p hp; have := h2 hc; omega
    · simp only [List.mem_singleton] at hp; subst hp; exact Nat.le_refl _
/-! ### parts -/
noncomputable def plainS (c : UInt8) : Bool := (M_label_plain c).getD false
theorem label_plain (c : UInt8) : M_label_plain c = some (plainS c) := by
  unfold plainS M_label_plain M_label_plain_k1 M_label_plain_k2
  repeat' split
  all_goals rfl
theorem plain_loop09 {s : List UInt8} (hs : s.length ≤ 140737488355328) : ∀ (d k : Nat), s.length = k + d →
    loopO (fun z_ => M_label_Part_b2 s z_) (k : Int) = some (if (s.drop k).all plainS = true then .inl () else .inr false) := by
  intro d
  induction d with
  | zero =>
    intro k h
    rw [loopO_end (r := .inl ()) (by unfold M_label_Part_b2; rw [if_neg (by omega)]), List.drop_of_length_le (by omega)]; rfl
  | succ d ih =>
    intro k h
    have hk : k < s.length := by omega
    have hb : M_label_Part_b2 s (k : Int) = if plainS s[k] = true then some (.inl ((k : Int) + 1)) else some (.inr (.inr false)) := by
      unfold M_label_Part_b2
      rw [if_pos (by omega), at?_in hk, Option.bind_some, label_plain, Option.bind_some, if_pos (ok_small (by omega))]
    rw [List.drop_eq_getElem_cons hk, List.all_cons]
    cases hp : plainS s[k] with
    | true => rw [loopO_next (s' := ((k + 1 : Nat) : Int)) (by show M_label_Part_b2 s (k : Int) = _; rw [hb, if_pos hp]; rfl), ih (k + 1) (by omega), Bool.true_and]
    | false => rw [loopO_end (r := .inr false) (by show M_label_Part_b2 s (k : Int) = _; rw [hb, if_neg (by rw [hp]; decide)])]; rfl
noncomputable def partS (s : List UInt8) : Bool := decide (1 ≤ s.length ∧ s.length ≤ 63) && (!decide (s[0]? = some 45) && (!decide (s[s.length - 1]? = some 45) && s.all plainS))
theorem label_part {s : List UInt8} (hs : s.length ≤ 140737488355328) : M_label_Part s = some (partS s) := by
  have hk1 : M_label_Part_k1 s true = some false := rfl
  have hk2 : M_label_Part_k1 s false = some (s.all plainS) := by
    have := plain_loop09 hs s.length 0 (by omega)
    rw [show ((0 : Nat) : Int) = 0 from rfl, List.drop_zero] at this
    unfold M_label_Part_k1
    rw [if_neg (by decide), if_pos hs, this, Option.bind_some]
    cases s.all plainS <;> rfl
  unfold M_label_Part partS
  by_cases h1 : (s.length : Int) < 1
  · rw [if_pos h1, hk1, decide_eq_false (by omega)]; rfl
  · rw [if_neg h1]
    by_cases h2 : (63 : Int) < s.length
    · rw [if_pos h2, hk1, decide_eq_false (by omega)]; rfl
    · have h0 : 0 < s.length := by omega
      have hl : s.length - 1 < s.length := by omega
      rw [if_neg h2, decide_eq_true (by omega), show (0 : Int) = ((0 : Nat) : Int) from rfl, at?_in h0, Option.bind_some, if_pos (ok_small (by omega)),
        show (s.length : Int) - 1 = ((s.length - 1 : Nat) : Int) by omega, at?_in hl, Option.bind_some, List.getElem?_eq_getElem h0, List.getElem?_eq_getElem hl]
      by_cases h3 : s[0] = 45
      · rw [if_pos h3, hk1]; simp [h3]
      · rw [if_neg h3]
        by_cases h4 : s[s.length - 1] = 45
        · rw [decide_eq_true h4, hk1]; simp [h4]
        · rw [decide_eq_false h4, hk2]; simp [h3, h4]
noncomputable def goodN (s : List UInt8) : Bool := decide (s.length ≤ 253) && (partsS s).all partS
theorem good_range : ∀ (l : List (List UInt8)), (∀ p ∈ l, p.length ≤ 140737488355328) → rangeO (fun (_ : Unit) x => M_label_Good_r1 x) l () = some (if l.all partS = true then .inl () else .inr ())
  | [], _ => rfl
  | p :: l, h => by
    have hp : M_label_Good_r1 p = some (if partS p = true then .inl () else .inr ()) := by
      unfold M_label_Good_r1
      rw [label_part (h p (List.mem_cons_self ..)), Option.bind_some]
      split <;> rfl
    rw [List.all_cons]
    unfold rangeO
    rw [hp]
    cases hh : partS p with
    | true => simp only [if_pos, Bool.true_and]; exact good_range l (fun q hq => h q (List.mem_cons_of_mem _ hq))
    | false => rfl
theorem label_good {s : List UInt8} (hs : s.length ≤ 140737488355328) : M_label_Good s = some (goodN s) := by
  unfold M_label_Good goodN
  by_cases h : (253 : Int) < s.length
  · rw [if_pos h, decide_eq_false (by omega)]; rfl
  · rw [if_neg h, decide_eq_true (by omega), show M_label_parts s = some () from rfl, Option.bind_some, label_parts (by omega), good_range _ (fun p hp => by have := partsF_len _ _ p hp; omega), Option.bind_some]
    cases (partsS s).all partS <;> rfl
/-! ### texts folded -/
def foldC (c : UInt8) : UInt8 := if 65 ≤ c ∧ c ≤ 90 then c ||| 32 else c
def foldS (s : List UInt8) : List UInt8 := s.map foldC
theorem fold_loop09 {s : List UInt8} (hs : s.length ≤ 140737488355328) : ∀ (d k : Nat), s.length = k + d →
    loopO (fun z_ => M_label_Fold_b1 s z_.1 z_.2) ((s.take k).map foldC ++ s.drop k, (k : Int)) = some (foldS s) := by
  intro d
  induction d with
  | zero =>
    intro k h
    rw [loopO_end (r := (s.take k).map foldC ++ s.drop k) (by unfold M_label_Fold_b1; rw [if_neg (by omega)]), List.drop_of_length_le (by omega), List.take_of_length_le (by omega), List.append_nil]; rfl
  | succ d ih =>
    intro k h
    have hk : k < s.length := by omega
    have hlen : ((s.take k).map foldC).length = k := by rw [List.length_map, List.length_take]; omega
    have hx : at? ((s.take k).map foldC ++ s.drop k) (k : Int) = some s[k] := by
      rw [at?_nat, List.getElem?_append_right (by omega), hlen, Nat.sub_self, List.getElem?_drop, Nat.add_zero, List.getElem?_eq_getElem hk]
    have hset : ∀ c : UInt8, ((s.take k).map foldC ++ s.drop k).set k c = (s.take k).map foldC ++ c :: s.drop (k + 1) := by
      intro c
      rw [List.set_append_right _ _ (by omega), hlen, Nat.sub_self, List.drop_eq_getElem_cons hk]; rfl
    have hnext : (s.take (k + 1)).map foldC ++ s.drop (k + 1) = (s.take k).map foldC ++ foldC s[k] :: s.drop (k + 1) := by
      rw [List.take_succ_eq_append_getElem hk, List.map_append, List.append_assoc]; rfl
    have hsame : (s.take k).map foldC ++ s.drop k = (s.take k).map foldC ++ s[k] :: s.drop (k + 1) := by rw [← List.drop_eq_getElem_cons hk]
    have hb : M_label_Fold_b1 s ((s.take k).map foldC ++ s.drop k) (k : Int) = some (.inl ((s.take (k + 1)).map foldC ++ s.drop (k + 1), ((k + 1 : Nat) : Int))) := by
      unfold M_label_Fold_b1 M_label_Fold_k2
      rw [if_pos (by omega), hx, Option.bind_some, hnext]
      by_cases h1 : 65 ≤ s[k]
      · rw [if_pos h1]
        by_cases h2 : s[k] ≤ 90
        · rw [if_pos (decide_eq_true h2), Option.bind_some, if_pos (ok_small (by omega)), show foldC s[k] = s[k] ||| 32 from if_pos ⟨h1, h2⟩, show ((k : Int)).toNat = k from rfl, hset]; rfl
        · rw [if_neg (by simpa using h2), if_pos (ok_small (by omega)), show foldC s[k] = s[k] from if_neg (fun hh => h2 hh.2), ← hsame]; rfl
      · rw [if_neg h1, if_neg (by decide), if_pos (ok_small (by omega)), show foldC s[k] = s[k] from if_neg (fun hh => h1 hh.1), ← hsame]; rfl
    rw [loopO_next hb]
    exact ih (k + 1) (by omega)
theorem label_fold {s : List UInt8} (hs : s.length ≤ 140737488355328) : M_label_Fold s = some (foldS s) := by
  unfold M_label_Fold
  have := fold_loop09 hs s.length 0 (by omega)
  rw [List.take_zero, List.map_nil, List.nil_append, List.drop_zero, show ((0 : Nat) : Int) = 0 from rfl] at this
  rw [if_pos hs, this]; rfl
theorem foldS_len (s : List UInt8) : (foldS s).length = s.length := by unfold foldS; rw [List.length_map]
/-! ### texts between points, byte by byte -/
/-- The texts between points; the first one has begun. -/
def spl (cur : List UInt8) : List UInt8 → List (List UInt8)
  | [] => [cur]
  | c :: t => if c = 46 then cur :: spl [] t else spl (cur ++ [c]) t
theorem spl_cut : ∀ (s cur : List UInt8), spl cur s = if 0 ≤ Lib.indexByte s 46 then (cur ++ s.take (Lib.indexByte s 46).toNat) :: spl [] (s.drop (Lib.indexByte s 46 + 1).toNat) else [cur ++ s]
  | [], cur => by simp [spl, Lib.indexByte]
  | c :: t, cur => by
    have h := spl_cut t (cur ++ [c])
    have hb := idx_lt t 46
    have e : Lib.indexByte (c :: t) 46 = if c = 46 then 0 else if Lib.indexByte t 46 = -1 then -1 else Lib.indexByte t 46 + 1 := by simp [Lib.indexByte]
    rw [e, spl]
    by_cases hc : c = 46
    · simp only [if_pos hc]; simp
    · simp only [if_neg hc]
      rw [h]
      by_cases hi : Lib.indexByte t 46 = -1
      · simp only [hi, reduceIte]; simp
      · simp only [if_neg hi]
        rw [if_pos (by omega), if_pos (by omega)]
        rw [show (Lib.indexByte t 46 + 1).toNat = (Lib.indexByte t 46).toNat + 1 by omega, show (Lib.indexByte t 46 + 1 + 1).toNat = (Lib.indexByte t 46).toNat + 1 + 1 by omega]
        simp
theorem partsF_spl : ∀ (n : Nat) (s : List UInt8), s.length ≤ n → partsF n s = spl [] s
  | 0, s, h => by
    have : s = [] := List.length_eq_zero_iff.1 (by omega)
    subst this; rfl
  | n + 1, s, h => by
    have hb := idx_lt s 46
    rw [spl_cut]
    unfold partsF cutS
    by_cases hi : 0 ≤ Lib.indexByte s 46
    · rw [if_pos hi, if_pos hi, if_pos rfl, partsF_spl n _ (by simp only [List.length_drop]; omega)]; rfl
    · rw [if_neg hi, if_neg hi, if_neg Bool.false_ne_true]; rfl
theorem partsS_spl (s : List UInt8) : partsS s = spl [] s := partsF_spl _ s (Nat.le_refl _)
theorem spl_count : ∀ (s cur : List UInt8), (spl cur s).length ≤ s.length + 1
  | [], cur => by simp [spl]
  | c :: t, cur => by
    unfold spl
    split
    · have := spl_count t []; simp only [List.length_cons]; omega
    · have := spl_count t (cur ++ [c]); simp only [List.length_cons]; omega
theorem partsS_count (s : List UInt8) : (partsS s).length ≤ s.length + 1 := by rw [partsS_spl]; exact spl_count s []
theorem part_len {p : List UInt8} (h : partS p = true) : 1 ≤ p.length ∧ p.length ≤ 63 := by
  unfold partS at h
  rw [Bool.and_eq_true, decide_eq_true_eq] at h
  exact h.1
theorem goodN_iff {s : List UInt8} : goodN s = true ↔ s.length ≤ 253 ∧ ∀ p ∈ partsS s, partS p = true := by
  unfold goodN
  rw [Bool.and_eq_true, decide_eq_true_eq, List.all_eq_true]
/-- The bytes of texts, each behind its length. -/
def wireL : List (List UInt8) → List UInt8
  | [] => []
  | p :: l => UInt8.ofInt (p.length : Int) :: p ++ wireL l
theorem wireL_fold : ∀ (l : List (List UInt8)) (o : List UInt8), l.foldl (fun o p => o ++ UInt8.ofInt (p.length : Int) :: p) o = o ++ wireL l
  | [], o => by simp [wireL]
  | p :: l, o => by
    rw [List.foldl_cons, wireL_fold l]; simp [wireL, List.append_assoc]
theorem wireL_len : ∀ (l : List (List UInt8)), (∀ p ∈ l, p.length ≤ 63) → (wireL l).length ≤ 64 * l.length
  | [], _ => by simp [wireL]
  | p :: l, h => by
    have := wireL_len l (fun q hq => h q (List.mem_cons_of_mem _ hq))
    have := h p (List.mem_cons_self ..)
    simp only [wireL, List.length_cons, List.length_append, List.cons_append]; omega
/-- A name's bytes. -/
def wireS (s : List UInt8) : List UInt8 := wireL (partsS s) ++ [0]
/-! ### octet -/
theorem octet_may (w : Int) : M_octet_may w = some (decide (1 ≤ w ∧ w ≤ 8)) := by
  unfold M_octet_may
  by_cases h : 1 ≤ w <;> simp [h]
/-- The number that stands at a place. -/
def getS (b : List UInt8) (a w : Int) : UInt64 × Bool := if (1 ≤ w ∧ w ≤ 8) ∧ 0 ≤ a ∧ a + w ≤ b.length then (num ((b.drop a.toNat).take w.toNat), true) else (0, false)
theorem octet_get {b : List UInt8} {a w : Int} (hb : b.length ≤ 4611686018427387904) : M_octet_Get_v b a w = some (getS b a w) := by
  have hk : ∀ t, M_octet_Get_v_k1 a b w t = if t = true then some (0, false) else if (0 ≤ a ∧ 0 ≤ w) ∧ a + w ≤ b.length then some (num ((b.drop a.toNat).take w.toNat), true) else M_octet_Get_v_k1 a b w t := by
    intro t
    by_cases ht : t = true
    · subst ht; rfl
    · rw [if_neg ht]
      by_cases h : (0 ≤ a ∧ 0 ≤ w) ∧ a + w ≤ b.length
      · rw [if_pos h]
        unfold M_octet_Get_v_k1
        have e : (b.take (a + w).toNat).drop a.toNat = (b.drop a.toNat).take w.toNat := by
          rw [List.drop_take]; congr 1; omega
        rw [if_neg ht, if_pos (ok_small (by omega)), if_pos (by omega), loop_fold0 ((b.drop a.toNat).take w.toNat) (fun n x => n * 256 + x.toUInt64) (by simp; omega)]
        · rfl
        · intro s t
          unfold M_octet_Get_v_b2
          rw [e]
          simp only [shl_or]
      · rw [if_neg h]
  unfold M_octet_Get_v
  rw [octet_may, Option.bind_some]
  unfold getS
  by_cases h1 : 1 ≤ w ∧ w ≤ 8
  · rw [if_pos (decide_eq_true h1)]
    by_cases h2 : a < 0
    · rw [if_pos h2, hk, if_pos rfl, if_neg (by omega)]
    · rw [if_neg h2]
      by_cases h3 : (b.length : Int) < a
      · rw [if_pos h3, hk, if_pos rfl, if_neg (by omega)]
      · rw [if_neg h3, if_pos (ok_small (by omega)), hk]
        by_cases h4 : (b.length : Int) - a < w
        · rw [if_pos (decide_eq_true h4), if_neg (by omega)]
        · rw [if_neg (by simpa using h4), if_pos (by omega), if_pos (by omega)]
  · rw [if_neg (by simpa using h1), hk, if_pos rfl, if_neg (by simp [h1])]
/-! ### octet.Reader -/
/-- What a reader of these bytes tells next, and what is left. -/
def takeS (r : List UInt8) (bad : Bool) (n : Int) : List UInt8 × List UInt8 × Bool := if bad = true ∨ n < 0 ∨ (r.length : Int) < n then ([], [], true) else (r.take n.toNat, r.drop n.toNat, bad)
def numS (r : List UInt8) (bad : Bool) (w : Int) : UInt64 × List UInt8 × Bool := if bad = true ∨ ¬ (1 ≤ w ∧ w ≤ 8) ∨ (r.length : Int) < w then (0, [], true) else (num (r.take w.toNat), r.drop w.toNat, bad)
theorem octet_cut (r : List UInt8) (o bad : Bool) (n : Int) : M_octet_rest_cut_po r o bad n = some (if bad = true ∨ n < 0 ∨ (r.length : Int) < n then .inl () else .inr ()) := by
  have h1 : M_octet_rest_cut_po_k1 r bad n o true = some (.inl ()) := rfl
  unfold M_octet_rest_cut_po
  by_cases hb : bad = true
  · rw [if_pos hb, h1, if_pos (.inl hb)]
  · rw [if_neg hb]
    by_cases hn : n < 0
    · rw [if_pos hn, h1, if_pos (.inr (.inl hn))]
    · rw [if_neg hn]
      by_cases hl : (r.length : Int) < n
      · rw [decide_eq_true hl, h1, if_pos (.inr (.inr hl))]
      · rw [decide_eq_false hl, if_neg (by simp [hb, hn, hl])]
        unfold M_octet_rest_cut_po_k1
        rw [if_neg (by decide), if_pos (by omega), if_pos (by omega)]
theorem octet_take {r : List UInt8} {bad : Bool} {n : Int} (hr : r.length ≤ 140737488355328) : M_octet_Reader_Take_po r true bad n = some (takeS r bad n) := by
  unfold M_octet_Reader_Take_po M_octet_Reader_none_po takeS
  rw [Option.bind_some, if_pos rfl, octet_cut, Option.bind_some]
  by_cases h : bad = true ∨ n < 0 ∨ (r.length : Int) < n
  · simp only [if_pos h]
  · simp only [if_neg h]
    rw [if_pos (by rw [List.length_take]; omega)]; rfl
theorem takeS_len (r : List UInt8) (bad : Bool) (n : Int) : (takeS r bad n).2.1.length ≤ r.length := by
  unfold takeS; split <;> simp
theorem numS_len (r : List UInt8) (bad : Bool) (n : Int) : (numS r bad n).2.1.length ≤ r.length := by
  unfold numS; split <;> simp
theorem takeS_suffix (r : List UInt8) (bad : Bool) (n : Int) : (takeS r bad n).2.1 <:+ r := by
  unfold takeS; split
  · exact List.nil_suffix
  · exact List.drop_suffix _ _
theorem numS_suffix (r : List UInt8) (bad : Bool) (n : Int) : (numS r bad n).2.1 <:+ r := by
  unfold numS; split
  · exact List.nil_suffix
  · exact List.drop_suffix _ _
theorem octet_num {r : List UInt8} {bad : Bool} {w : Int} (hr : r.length ≤ 140737488355328) : M_octet_Reader_Num_po r true bad w = some (numS r bad w) := by
  unfold M_octet_Reader_Num_po M_octet_Reader_none_po numS
  rw [Option.bind_some, if_pos rfl, octet_may, Option.bind_some]
  by_cases h1 : 1 ≤ w ∧ w ≤ 8
  · rw [if_pos (decide_eq_true h1), octet_cut, Option.bind_some]
    by_cases h : bad = true ∨ w < 0 ∨ (r.length : Int) < w
    · simp only [if_pos h]
      rw [if_pos (by rcases h with h | h | h; · exact .inl h
                     · omega
                     · exact .inr (.inr h))]
    · simp only [if_neg h]
      rw [octet_get (by rw [List.length_take]; omega), Option.bind_some, if_neg (by simp only [not_or] at h ⊢; exact ⟨h.1, fun hh => hh h1, h.2.2⟩)]
      unfold getS
      rw [if_pos ⟨h1, by omega, by rw [List.length_take]; omega⟩]
      simp [List.take_take]
  · rw [if_neg (by simpa using h1), if_pos (.inr (.inl h1))]
    rfl
/-! ### numbers put -/
/-- The bytes of a number, so many, the most significant first. -/
def putF (n : UInt64) : Nat → List UInt8
  | 0 => []
  | d + 1 => (shr64 n (8 * d)).toUInt8 :: putF n d
theorem putF_len (n : UInt64) : ∀ d, (putF n d).length = d
  | 0 => rfl
  | d + 1 => by rw [putF, List.length_cons, putF_len n d]
theorem put_loop {n : UInt64} {w : Nat} (hw : w ≤ 8) : ∀ (d k : Nat) (out : List UInt8), w = k + d → out.length + d ≤ 140737488355328 →
    loopO (fun z_ => M_octet_Put_v_b1 n (w : Int) z_.1 z_.2) (out, (k : Int)) = some (out ++ putF n d) := by
  intro d
  induction d with
  | zero =>
    intro k out h ho
    rw [loopO_end (r := out) (by unfold M_octet_Put_v_b1; rw [if_neg (by omega)]), putF, List.append_nil]
  | succ d ih =>
    intro k out h ho
    have e : (UInt64.ofInt (8 * (((w : Int) - 1) - (k : Int)))).toNat = 8 * d := by
      rw [show (8 * (((w : Int) - 1) - (k : Int)) : Int) = ((8 * d : Nat) : Int) by omega]
      rw [show UInt64.ofInt ((8 * d : Nat) : Int) = UInt64.ofNat (8 * d) by
        apply UInt64.toNat_inj.1
        simp [UInt64.ofInt, UInt64.toNat_ofNat']; omega, UInt64.toNat_ofNat']
      omega
    rw [loopO_next (s' := (out ++ [(shr64 n (8 * d)).toUInt8], ((k + 1 : Nat) : Int))) (by
      show M_octet_Put_v_b1 n (w : Int) out (k : Int) = _
      unfold M_octet_Put_v_b1
      rw [if_pos (by omega), if_pos (ok_small (by omega)), if_pos (ok_small (by omega)), if_pos (ok_small (by omega)), if_pos (by omega), if_pos (ok_small (by omega)), e]; rfl),
      ih (k + 1) _ (by omega) (by rw [List.length_append, List.length_singleton]; omega), putF, List.append_assoc]
    rfl
theorem octet_put {b : List UInt8} {n : UInt64} {w : Int} (hb : b.length ≤ 140737488355320) : M_octet_Put_v b n w = some (if 1 ≤ w ∧ w ≤ 8 then b ++ putF n w.toNat else b) := by
  unfold M_octet_Put_v
  rw [if_pos (by omega), octet_may, Option.bind_some]
  by_cases h : 1 ≤ w ∧ w ≤ 8
  · have hl := put_loop (n := n) (w := w.toNat) (by omega) w.toNat 0 b (by omega) (by omega)
    rw [show ((w.toNat : Nat) : Int) = w by omega, show ((0 : Nat) : Int) = 0 from rfl] at hl
    rw [if_pos (decide_eq_true h), if_pos h, List.nil_append, hl]
    rfl
  · rw [if_neg (by simpa using h), if_neg h]; rfl
theorem num_put (n : UInt64) : ∀ (d : Nat) (s : UInt64), ((putF n d).foldl (fun n x => n * 256 + x.toUInt64) s).toNat = (s.toNat * 256 ^ d + n.toNat % 256 ^ d) % 18446744073709551616
  | 0, s => by
    have := s.toNat_lt
    simp [putF, Nat.mod_one]
  | d + 1, s => by
    have hn := n.toNat_lt
    rw [putF, List.foldl_cons, num_put n d]
    have e0 : (256 : Nat) ^ d = 2 ^ (8 * d) := by rw [Nat.pow_mul]
    have e1 : ((shr64 n (8 * d)).toUInt8).toUInt64.toNat = n.toNat / 256 ^ d % 256 := by
      rw [e0]
      have : n.toNat / 2 ^ (8 * d) ≤ n.toNat := Nat.div_le_self _ _
      simp [shr64]
    rw [UInt64.toNat_add, UInt64.toNat_mul, e1, show (256 : UInt64).toNat = 256 from rfl]
    have e2 : n.toNat % 256 ^ (d + 1) = n.toNat % 256 ^ d + 256 ^ d * (n.toNat / 256 ^ d % 256) := by rw [Nat.pow_succ, Nat.mod_mul]
    rw [e2]
    have e3 : (s.toNat * 256 % 2 ^ 64 + n.toNat / 256 ^ d % 256) % 2 ^ 64 = (s.toNat * 256 + n.toNat / 256 ^ d % 256) % 18446744073709551616 := by omega
    rw [e3, Nat.add_mod, Nat.mul_mod, Nat.mod_mod, ← Nat.mul_mod, ← Nat.add_mod]
    congr 1
    rw [Nat.pow_succ, Nat.add_mul]
    generalize 256 ^ d = q
    generalize n.toNat / q % 256 = y
    generalize n.toNat % q = z
    rw [Nat.mul_comm q y, Nat.mul_comm q 256, ← Nat.mul_assoc]
    omega
/-! ### what is read is what was put -/
/-- The number that bytes tell, without a limit. -/
def val : List UInt8 → Nat
  | [] => 0
  | x :: l => x.toNat * 256 ^ l.length + val l
theorem val_lt : ∀ l : List UInt8, val l < 256 ^ l.length
  | [] => by simp [val]
  | x :: l => by
    have h1 := val_lt l
    have h2 := x.toNat_lt
    have h3 : x.toNat * 256 ^ l.length ≤ 255 * 256 ^ l.length := Nat.mul_le_mul_right _ (by omega)
    rw [val, List.length_cons, Nat.pow_succ]
    omega
theorem fold_val : ∀ (l : List UInt8) (s : UInt64), (l.foldl (fun n x => n * 256 + x.toUInt64) s).toNat = (s.toNat * 256 ^ l.length + val l) % 18446744073709551616
  | [], s => by
    have := s.toNat_lt
    simp [val]
  | x :: l, s => by
    rw [List.foldl_cons, fold_val l]
    have e1 : x.toUInt64.toNat = x.toNat := by simp
    rw [UInt64.toNat_add, UInt64.toNat_mul, e1, show (256 : UInt64).toNat = 256 from rfl]
    have e3 : (s.toNat * 256 % 2 ^ 64 + x.toNat) % 2 ^ 64 = (s.toNat * 256 + x.toNat) % 18446744073709551616 := by omega
    rw [e3, Nat.add_mod, Nat.mul_mod, Nat.mod_mod, ← Nat.mul_mod, ← Nat.add_mod]
    congr 1
    rw [val, List.length_cons, Nat.pow_succ, Nat.add_mul, Nat.mul_comm (256 ^ l.length) 256, ← Nat.mul_assoc]
    omega
theorem num_val (l : List UInt8) (h : l.length ≤ 8) : (num l).toNat = val l := by
  have h1 := fold_val l 0
  have h2 := val_lt l
  have h3 : 256 ^ l.length ≤ 256 ^ 8 := Nat.pow_le_pow_right (by omega) h
  rw [show (0 : UInt64).toNat = 0 from rfl, Nat.zero_mul, Nat.zero_add, Nat.mod_eq_of_lt (by omega)] at h1
  exact h1
theorem put_val : ∀ (l : List UInt8) (n : UInt64) (q : Nat), l.length ≤ 8 → n.toNat = q * 256 ^ l.length + val l → putF n l.length = l
  | [], n, q, _, _ => rfl
  | x :: l, n, q, hl, e => by
    have h1 := val_lt l
    have h2 := x.toNat_lt
    have hn := n.toNat_lt
    have h3 : 0 < 256 ^ l.length := Nat.pow_pos (by omega)
    have e0 : (256 : Nat) ^ l.length = 2 ^ (8 * l.length) := by rw [Nat.pow_mul]
    have e' : n.toNat = (q * 256 + x.toNat) * 256 ^ l.length + val l := by
      rw [e, val, List.length_cons, Nat.pow_succ, Nat.add_mul, Nat.mul_comm (256 ^ l.length) 256, ← Nat.mul_assoc]; omega
    rw [List.length_cons, putF, put_val l n (q * 256 + x.toNat) (by rw [List.length_cons] at hl; omega) e']
    congr 1
    apply UInt8.toNat_inj.1
    have e1 : n.toNat / 256 ^ l.length = q * 256 + x.toNat := by
      rw [e', Nat.add_comm, Nat.add_mul_div_right _ _ h3, Nat.div_eq_of_lt h1]; omega
    have e2 : (shr64 n (8 * l.length)).toUInt8.toNat = n.toNat / 256 ^ l.length % 256 := by
      rw [e0]
      have : n.toNat / 2 ^ (8 * l.length) ≤ n.toNat := Nat.div_le_self _ _
      simp [shr64]
    rw [e2, e1]; omega
theorem put_num (l : List UInt8) (h : l.length ≤ 8) : putF (num l) l.length = l := put_val l (num l) 0 h (by rw [num_val l h]; omega)
/-! ### instances -/
noncomputable def goodI (i : G_api_Instance) : Bool := decide (1 ≤ i.Life ∧ i.Life ≤ 2147483647) && (if i.Gone = true then decide (i.Priority = 0 ∧ i.Weight = 0 ∧ i.Port = 0 ∧ i.Target = []) else !decide (i.Port = 0) && (goodN i.Target && decide (foldS i.Target = i.Target)))
theorem inst_good {i : G_api_Instance} (h : i.Target.length ≤ 140737488355328) : M_inst_Good i = some (goodI i) := by
  have hk1 : M_inst_Good_k1 i true = some false := rfl
  have hm : i.Target.length ≤ maxLen := by simp only [maxLen]; omega
  unfold M_inst_Good goodI
  by_cases h1 : i.Life < 1
  · rw [if_pos h1, hk1, decide_eq_false (fun hh => absurd h1 (UInt32.not_lt.2 hh.1))]; rfl
  · rw [if_neg h1]
    by_cases h2 : 2147483647 < i.Life
    · rw [decide_eq_true h2, hk1, decide_eq_false (fun hh => absurd h2 (UInt32.not_lt.2 hh.2))]; rfl
    · rw [decide_eq_false h2, decide_eq_true ⟨UInt32.not_lt.1 h1, UInt32.not_lt.1 h2⟩, Bool.true_and]
      unfold M_inst_Good_k1
      rw [if_neg (by decide)]
      by_cases hg : i.Gone = true
      · rw [if_pos hg, if_pos hg, if_pos hm]
        refine congrArg some (decide_eq_decide.2 ?_)
        cases i
        simp only [G_api_Instance.mk.injEq, true_and]
        constructor
        · rintro ⟨a, b, c, d⟩; exact ⟨a.symm, b.symm, c.symm, d.symm⟩
        · rintro ⟨a, b, c, d⟩; exact ⟨a.symm, b.symm, c.symm, d.symm⟩
      · rw [if_neg hg, if_neg hg]
        by_cases hp : i.Port = 0
        · rw [if_pos hp, decide_eq_true hp]; rfl
        · rw [if_neg hp, decide_eq_false hp, label_good h, Option.bind_some]
          cases goodN i.Target with
          | false => rfl
          | true => rw [if_pos rfl, label_fold h, Option.bind_some]; rfl
/-- What a target may at most be. -/
theorem goodI_len {i : G_api_Instance} (h : goodI i = true) : i.Target.length ≤ 253 := by
  unfold goodI at h
  rw [Bool.and_eq_true] at h
  by_cases hg : i.Gone = true
  · rw [if_pos hg] at h
    rw [(of_decide_eq_true h.2).2.2.2]; simp
  · rw [if_neg hg, Bool.and_eq_true, Bool.and_eq_true] at h
    exact (goodN_iff.1 h.2.2.1).1
/-! ### their bytes -/
def tailI (i : G_api_Instance) : List UInt8 := if i.Gone = true then putF 1 1 else putF 0 1 ++ (putF i.Priority.toUInt64 2 ++ (putF i.Weight.toUInt64 2 ++ (putF i.Port.toUInt64 2 ++ (putF (UInt64.ofInt (i.Target.length : Int)) 2 ++ i.Target))))
def bytesI (i : G_api_Instance) : List UInt8 := List.ofFn i.Publisher ++ (putF i.Seq 8 ++ (putF i.Born 8 ++ (putF i.Life.toUInt64 4 ++ tailI i)))
theorem inst_put {x : List UInt8} {n : UInt64} {w : Int} (hx : x.length ≤ 1000000) (hw : 1 ≤ w ∧ w ≤ 8) : M_inst_Bytes_1_po n w x = some (x ++ putF n w.toNat) := by
  unfold M_inst_Bytes_1_po
  rw [octet_put (by omega), if_pos hw]; rfl
theorem octet_text {b s : List UInt8} (hb : b.length ≤ 1000000) (hs : s.length ≤ 1024) : M_octet_Text_v b s = some (b ++ putF (UInt64.ofInt (s.length : Int)) 2 ++ s, 0) := by
  unfold M_octet_Text_v
  rw [if_neg (by omega), octet_put (by omega), if_pos (by decide), Option.bind_some, if_pos (by rw [List.length_append, putF_len]; simp only [show (2 : Int).toNat = 2 from rfl]; omega)]; rfl
theorem inst_bytes {i : G_api_Instance} (h : i.Target.length ≤ 140737488355328) : M_inst_Bytes i = some (if goodI i = true then (bytesI i, 0) else ([], 2)) := by
  unfold M_inst_Bytes
  rw [inst_good h, Option.bind_some]
  by_cases hg : goodI i = true
  · have hl := goodI_len hg
    have h20 : (List.ofFn i.Publisher).length = 20 := by simp
    rw [if_pos hg, if_pos hg]
    unfold M_bytes_Clone_v
    rw [if_pos (by rw [h20]; decide), Option.bind_some, List.nil_append, inst_put (by omega) (by decide), Option.bind_some, inst_put (by simp [putF_len]) (by decide), Option.bind_some, inst_put (by simp [putF_len]) (by decide), Option.bind_some]
    unfold bytesI tailI
    by_cases hgo : i.Gone = true
    · rw [if_pos hgo, if_pos hgo, inst_put (by simp [putF_len]) (by decide), Option.bind_some]
      simp only [List.append_assoc]; rfl
    · rw [if_neg hgo, if_neg hgo, inst_put (by simp [putF_len]) (by decide), Option.bind_some, inst_put (by simp [putF_len]) (by decide), Option.bind_some, inst_put (by simp [putF_len]) (by decide), Option.bind_some, inst_put (by simp [putF_len]) (by decide), Option.bind_some,
        octet_text (by simp [putF_len]) (by omega), Option.bind_some]
      simp only [List.append_assoc]; rfl
  · rw [if_neg hg, if_neg hg]
/-! ### the chapter's example -/
theorem lives11 : M_signpostlaw11_lives = some true := by
  have hp : partsS [97] = [[97]] := by decide
  have hg : goodI (G_api_Instance.mk (fun _ => 0) 0 5 3 false 0 0 80 ([97] : List UInt8)) = true := by
    unfold goodI goodN; rw [hp]; decide
  unfold M_signpostlaw11_lives
  rw [inst_bytes (by decide), if_pos hg, Option.bind_some]
  simp only []
  rw [inst_good (by decide), hg, Option.bind_some, if_pos rfl]
  rfl
/-! ### instances, read -/
/-- A reader's text. -/
def textS (r : List UInt8) (bad : Bool) (most : Int) : List UInt8 × List UInt8 × Bool :=
  if (numS r bad 2).2.2 = true ∨ most < ((numS r bad 2).1.toNat : Int) ∨ 1024 < ((numS r bad 2).1.toNat : Int) then ([], [], true) else takeS (numS r bad 2).2.1 (numS r bad 2).2.2 ((numS r bad 2).1.toNat : Int)
theorem num_small : ∀ (l : List UInt8) (s : UInt64), l.length ≤ 2 → s.toNat < 65536 → l.length = 2 → (l.foldl (fun n x => n * 256 + x.toUInt64) s).toNat < 9223372036854775808
  | [a, b], s, _, hs, _ => by
    have ha := a.toNat_lt
    have hb := b.toNat_lt
    simp only [List.foldl_cons, List.foldl_nil, UInt64.toNat_add, UInt64.toNat_mul, UInt8.toNat_toUInt64, show (256 : UInt64).toNat = 256 from rfl]
    omega
theorem numS_two (r : List UInt8) (bad : Bool) : (numS r bad 2).1.toNat < 9223372036854775808 := by
  unfold numS
  split
  · decide
  · rename_i h
    simp only [not_or] at h
    have hl : (r.take (2 : Int).toNat).length = 2 := by rw [List.length_take]; omega
    exact num_small _ 0 (by omega) (by decide) hl
theorem octet_rtext {r : List UInt8} {bad : Bool} {most : Int} (hr : r.length ≤ 140737488355328) : M_octet_Reader_Text_po r true bad most = some (textS r bad most) := by
  have hn := numS_len r bad 2
  have h2 := numS_two r bad
  unfold M_octet_Reader_Text_po M_octet_Reader_none_po textS
  rw [some_bindP, if_pos rfl, octet_num hr, some_bindP]
  generalize numS r bad 2 = x at hn h2 ⊢
  obtain ⟨n, r', b'⟩ := x
  have hk : M_octet_Reader_Text_po_k1 true n r' b' true = some ([], [], true) := rfl
  simp only [] at hn h2 ⊢
  rw [if_pos h2]
  by_cases h3 : b' = true
  · rw [if_pos h3, hk, if_pos (.inl h3)]
  · rw [if_neg h3]
    by_cases h4 : most < (n.toNat : Int)
    · rw [if_pos h4, hk, if_pos (.inr (.inl h4))]
    · rw [if_neg h4]
      by_cases h5 : 1024 < (n.toNat : Int)
      · rw [decide_eq_true h5, hk, if_pos (.inr (.inr h5))]
      · rw [decide_eq_false h5, if_neg (by simp only [not_or]; exact ⟨h3, h4, h5⟩)]
        unfold M_octet_Reader_Text_po_k1
        rw [if_neg (by decide), octet_take (by omega)]; rfl
theorem textS_suffix (r : List UInt8) (bad : Bool) (n : Int) : (textS r bad n).2.1 <:+ r := by
  unfold textS; split
  · exact List.nil_suffix
  · exact (takeS_suffix _ _ _).trans (numS_suffix _ _ _)
theorem textS_len (r : List UInt8) (bad : Bool) (n : Int) : (textS r bad n).1.length ≤ r.length := by
  unfold textS; split
  · simp
  · have := numS_len r bad 2
    unfold takeS; split
    · simp
    · rw [List.length_take]; omega
/-- What is read, as fields; the number that tells whether it is gone; what is left. -/
def fieldsI (r : List UInt8) (bad : Bool) : G_api_Instance × UInt64 × List UInt8 × Bool :=
  let a := takeS r bad 20
  let b := numS a.2.1 a.2.2 8
  let c := numS b.2.1 b.2.2 8
  let d := numS c.2.1 c.2.2 4
  let e := numS d.2.1 d.2.2 1
  if e.1 = 0 then
    let f := numS e.2.1 e.2.2 2
    let g := numS f.2.1 f.2.2 2
    let h := numS g.2.1 g.2.2 2
    let t := textS h.2.1 h.2.2 1024
    (G_api_Instance.mk (copyA (fun _ => 0) a.1) b.1 c.1 d.1.toUInt32 (decide (e.1 = 1)) f.1.toUInt16 g.1.toUInt16 h.1.toUInt16 t.1, e.1, t.2.1, t.2.2)
  else (G_api_Instance.mk (copyA (fun _ => 0) a.1) b.1 c.1 d.1.toUInt32 (decide (e.1 = 1)) 0 0 0 [], e.1, e.2.1, e.2.2)
def noneI : G_api_Instance := G_api_Instance.mk (fun _ => 0) 0 0 0 false 0 0 0 []
noncomputable def readI (r : List UInt8) (bad : Bool) : G_api_Instance × Bool × List UInt8 × Bool :=
  if (fieldsI r bad).2.2.2 = true ∨ 1 < (fieldsI r bad).2.1 ∨ goodI (fieldsI r bad).1 = false then (noneI, false, [], true) else ((fieldsI r bad).1, true, (fieldsI r bad).2.2.1, (fieldsI r bad).2.2.2)
theorem take_back (r : List UInt8) (bad : Bool) : takeS r bad (-1) = ([], [], true) := by unfold takeS; rw [if_pos (.inr (.inl (by decide)))]
theorem read_k1 {r : List UInt8} {bad : Bool} {i : G_api_Instance} {n : UInt64} (hr : r.length ≤ 140737488355328) (hi : i.Target.length ≤ 140737488355328) :
    M_inst_Read_po_k1 true n r bad i = some (if bad = true ∨ 1 < n ∨ goodI i = false then (noneI, false, [], true) else (i, true, r, bad)) := by
  have hk : M_inst_Read_po_k2 r bad i true true = some (noneI, false, [], true) := by
    unfold M_inst_Read_po_k2
    rw [if_pos rfl, octet_take hr, take_back, some_bindP]; rfl
  unfold M_inst_Read_po_k1 M_octet_Reader_Bad_po M_octet_Reader_none_po
  rw [some_bindP, if_pos rfl, some_bindP]
  by_cases h1 : bad = true
  · rw [if_pos h1, hk, if_pos (.inl h1)]
  · rw [if_neg h1]
    by_cases h2 : 1 < n
    · rw [if_pos h2, hk, if_pos (.inr (.inl h2))]
    · rw [if_neg h2, inst_good hi, some_bindP]
      cases h3 : goodI i with
      | false => rw [Bool.not_false, hk, if_pos (.inr (.inr rfl))]
      | true =>
        rw [Bool.not_true, if_neg (by simp only [not_or]; exact ⟨h1, h2, by decide⟩)]
        unfold M_inst_Read_po_k2
        rw [if_neg (by decide)]
theorem inst_read {r : List UInt8} {bad : Bool} (hr : r.length ≤ 140737488355328) : M_inst_Read_po r true bad = some (readI r bad) := by
  have l1 := takeS_len r bad 20
  unfold M_inst_Read_po readI fieldsI
  rw [octet_take hr, some_bindP]
  generalize takeS r bad 20 = a at l1 ⊢
  obtain ⟨a1, a2, a3⟩ := a
  simp only [] at l1 ⊢
  have l2 := numS_len a2 a3 8
  rw [octet_num (by omega), some_bindP]
  generalize numS a2 a3 8 = b at l2 ⊢
  obtain ⟨b1, b2, b3⟩ := b
  simp only [] at l2 ⊢
  have l3 := numS_len b2 b3 8
  rw [octet_num (by omega), some_bindP]
  generalize numS b2 b3 8 = c at l3 ⊢
  obtain ⟨c1, c2, c3⟩ := c
  simp only [] at l3 ⊢
  have l4 := numS_len c2 c3 4
  rw [octet_num (by omega), some_bindP]
  generalize numS c2 c3 4 = d at l4 ⊢
  obtain ⟨d1, d2, d3⟩ := d
  simp only [] at l4 ⊢
  have l5 := numS_len d2 d3 1
  rw [octet_num (by omega), some_bindP]
  generalize numS d2 d3 1 = e at l5 ⊢
  obtain ⟨e1, e2, e3⟩ := e
  simp only [] at l5 ⊢
  by_cases h0 : e1 = 0
  · simp only [if_pos h0]
    have l6 := numS_len e2 e3 2
    rw [octet_num (by omega), some_bindP]
    generalize numS e2 e3 2 = f at l6 ⊢
    obtain ⟨f1, f2, f3⟩ := f
    simp only [] at l6 ⊢
    have l7 := numS_len f2 f3 2
    rw [octet_num (by omega), some_bindP]
    generalize numS f2 f3 2 = g at l7 ⊢
    obtain ⟨g1, g2, g3⟩ := g
    simp only [] at l7 ⊢
    have l8 := numS_len g2 g3 2
    rw [octet_num (by omega), some_bindP]
    generalize numS g2 g3 2 = h at l8 ⊢
    obtain ⟨h1, h2, h3⟩ := h
    simp only [] at l8 ⊢
    have l9 := (textS_suffix h2 h3 1024).length_le
    have l10 := textS_len h2 h3 1024
    rw [octet_rtext (by omega), some_bindP]
    generalize textS h2 h3 1024 = t at l9 l10 ⊢
    obtain ⟨t1, t2, t3⟩ := t
    simp only [] at l9 l10 ⊢
    exact read_k1 (by omega) (by simp only []; omega)
  · simp only [if_neg h0]
    exact read_k1 (by omega) (by simp)
/-! ### what is written is read again -/
theorem num_putF (n : UInt64) (d : Nat) (hd : d ≤ 8) (h : n.toNat < 256 ^ d) : num (putF n d) = n := by
  apply UInt64.toNat_inj.1
  have := num_put n d 0
  have hn := n.toNat_lt
  unfold num
  rw [this, Nat.mod_eq_of_lt h]
  simp
theorem numS_put (n : UInt64) (d : Nat) (t : List UInt8) (hd : 1 ≤ d ∧ d ≤ 8) (h : n.toNat < 256 ^ d) : numS (putF n d ++ t) false (d : Int) = (n, t, false) := by
  have hl := putF_len n d
  unfold numS
  rw [if_neg (by rw [List.length_append, hl]; simp only [Bool.false_eq_true, false_or, not_or]; omega), show ((d : Nat) : Int).toNat = d from rfl, show (putF n d ++ t).take d = putF n d by rw [List.take_append_of_le_length (by omega), List.take_of_length_le (by omega)],
    show (putF n d ++ t).drop d = t by rw [List.drop_append_of_le_length (by omega), List.drop_of_length_le (by omega), List.nil_append], num_putF n d hd.2 h]
theorem takeS_app (p t : List UInt8) : takeS (p ++ t) false (p.length : Int) = (p, t, false) := by
  unfold takeS
  rw [if_neg (by rw [List.length_append]; simp only [Bool.false_eq_true, false_or, not_or]; omega), show ((p.length : Nat) : Int).toNat = p.length from rfl, List.take_left, List.drop_left]
theorem len64 (s : List UInt8) (h : s.length ≤ 1024) : (UInt64.ofInt (s.length : Int)).toNat = s.length := by simp [UInt64.ofInt, UInt64.toNat_ofNat']; omega
theorem textS_app (s t : List UInt8) (h : s.length ≤ 1024) : textS (putF (UInt64.ofInt (s.length : Int)) 2 ++ (s ++ t)) false 1024 = (s, t, false) := by
  have hl := len64 s h
  have hn := numS_put (UInt64.ofInt (s.length : Int)) 2 (s ++ t) (by decide) (by rw [hl]; omega)
  rw [show ((2 : Nat) : Int) = 2 from rfl] at hn
  unfold textS
  rw [hn]
  simp only [hl]
  rw [if_neg (by simp only [Bool.false_eq_true, false_or, not_or]; omega), takeS_app]
theorem copy_self (f g : Fin 20 → UInt8) : copyA f (List.ofFn g) = g := by
  funext i
  unfold copyA
  rw [List.getElem?_ofFn, dif_pos i.isLt]; rfl
theorem copy_ofFn {f : Fin 20 → UInt8} {l : List UInt8} (h : l.length = 20) : List.ofFn (copyA f l) = l := by
  rw [copyA_list, List.take_of_length_le (by omega), List.drop_of_length_le (by simp; omega), List.append_nil]
theorem fieldsI_bytes (i : G_api_Instance) (t : List UInt8) (h : goodI i = true) : fieldsI (bytesI i ++ t) false = (i, (if i.Gone = true then 1 else 0), t, false) := by
  have hlen := goodI_len h
  have e20 : ((List.ofFn i.Publisher).length : Int) = 20 := by simp
  have hd := i.Life.toNat_lt
  have h1 := i.Priority.toNat_lt
  have h2 := i.Weight.toNat_lt
  have h3 := i.Port.toNat_lt
  have hs := i.Seq.toNat_lt
  have hb := i.Born.toNat_lt
  unfold fieldsI bytesI
  simp only [List.append_assoc]
  have ta := takeS_app (List.ofFn i.Publisher) (putF i.Seq 8 ++ (putF i.Born 8 ++ (putF i.Life.toUInt64 4 ++ (tailI i ++ t))))
  rw [e20] at ta
  have tb := numS_put i.Seq 8 (putF i.Born 8 ++ (putF i.Life.toUInt64 4 ++ (tailI i ++ t))) (by decide) (by omega)
  have tc := numS_put i.Born 8 (putF i.Life.toUInt64 4 ++ (tailI i ++ t)) (by decide) (by omega)
  have td := numS_put i.Life.toUInt64 4 (tailI i ++ t) (by decide) (by rw [UInt32.toNat_toUInt64]; omega)
  rw [show ((8 : Nat) : Int) = 8 from rfl] at tb tc
  rw [show ((4 : Nat) : Int) = 4 from rfl] at td
  simp only [ta, tb, tc, td, copy_self]
  unfold tailI
  unfold goodI at h
  rw [Bool.and_eq_true] at h
  by_cases hg : i.Gone = true
  · rw [if_pos hg] at h
    obtain ⟨g1, g2, g3, g4⟩ := of_decide_eq_true h.2
    have te := numS_put 1 1 t (by decide) (by decide)
    rw [show ((1 : Nat) : Int) = 1 from rfl] at te
    simp only [if_pos hg, te]
    rw [if_neg (by decide)]
    cases i
    simp only at hg g1 g2 g3 g4
    subst hg g1 g2 g3 g4
    simp
  · have te := numS_put 0 1 (putF i.Priority.toUInt64 2 ++ (putF i.Weight.toUInt64 2 ++ (putF i.Port.toUInt64 2 ++ (putF (UInt64.ofInt (i.Target.length : Int)) 2 ++ (i.Target ++ t))))) (by decide) (by decide)
    have tf := numS_put i.Priority.toUInt64 2 (putF i.Weight.toUInt64 2 ++ (putF i.Port.toUInt64 2 ++ (putF (UInt64.ofInt (i.Target.length : Int)) 2 ++ (i.Target ++ t)))) (by decide) (by rw [UInt16.toNat_toUInt64]; omega)
    have tg := numS_put i.Weight.toUInt64 2 (putF i.Port.toUInt64 2 ++ (putF (UInt64.ofInt (i.Target.length : Int)) 2 ++ (i.Target ++ t))) (by decide) (by rw [UInt16.toNat_toUInt64]; omega)
    have th := numS_put i.Port.toUInt64 2 (putF (UInt64.ofInt (i.Target.length : Int)) 2 ++ (i.Target ++ t)) (by decide) (by rw [UInt16.toNat_toUInt64]; omega)
    have tt := textS_app i.Target t (by omega)
    rw [show ((1 : Nat) : Int) = 1 from rfl] at te
    rw [show ((2 : Nat) : Int) = 2 from rfl] at tf tg th
    have hg' : i.Gone = false := by simpa using hg
    simp only [if_neg hg, List.append_assoc, te, tf, tg, th, tt, if_true]
    cases i
    simp only at hg'
    subst hg'
    simp
theorem readI_bytes (i : G_api_Instance) (t : List UInt8) (h : goodI i = true) : readI (bytesI i ++ t) false = (i, true, t, false) := by
  unfold readI
  rw [fieldsI_bytes i t h, if_neg (by
    simp only [h, Bool.false_eq_true, Bool.true_eq_false, false_or, or_false]
    split <;> decide)]
theorem bytesI_inj {a b : G_api_Instance} (ha : goodI a = true) (hb : goodI b = true) (h : bytesI a = bytesI b) : a = b := by
  have h1 := readI_bytes a [] ha
  rw [h, readI_bytes b [] hb] at h1
  exact (congrArg Prod.fst h1).symm
/-! ### what is read has just these bytes -/
theorem takeS_form {r : List UInt8} {bad : Bool} {n : Int} (h : (takeS r bad n).2.2 = false) : bad = false ∧ r = (takeS r bad n).1 ++ (takeS r bad n).2.1 ∧ ((takeS r bad n).1.length : Int) = n := by
  unfold takeS at h ⊢
  split at h
  · cases h
  · rename_i hh
    rw [if_neg hh]
    simp only [not_or] at hh
    exact ⟨by simpa using hh.1, (List.take_append_drop _ _).symm, by simp only [List.length_take]; omega⟩
theorem num_lt (l : List UInt8) (h : l.length ≤ 8) : (num l).toNat < 256 ^ l.length := by rw [num_val l h]; exact val_lt l
theorem numS_form {r : List UInt8} {bad : Bool} (d : Nat) (h : (numS r bad (d : Int)).2.2 = false) : bad = false ∧ r = putF (numS r bad (d : Int)).1 d ++ (numS r bad (d : Int)).2.1 ∧ (numS r bad (d : Int)).1.toNat < 256 ^ d := by
  unfold numS at h ⊢
  split at h
  · cases h
  · rename_i hh
    rw [if_neg hh]
    simp only [not_or, Decidable.not_not] at hh
    have hl : (r.take ((d : Nat) : Int).toNat).length = d := by rw [List.length_take]; omega
    have h1 := put_num (r.take ((d : Nat) : Int).toNat) (by omega)
    have h2 := num_lt (r.take ((d : Nat) : Int).toNat) (by omega)
    rw [hl] at h1 h2
    exact ⟨by simpa using hh.1, by simp only [h1, List.take_append_drop], h2⟩
theorem textS_form {r : List UInt8} {bad : Bool} (h : (textS r bad 1024).2.2 = false) : bad = false ∧ r = putF (UInt64.ofInt ((textS r bad 1024).1.length : Int)) 2 ++ ((textS r bad 1024).1 ++ (textS r bad 1024).2.1) := by
  have hf := numS_form (r := r) (bad := bad) 2
  rw [show ((2 : Nat) : Int) = 2 from rfl] at hf
  unfold textS at h ⊢
  split at h
  · cases h
  · rename_i hh
    rw [if_neg hh]
    obtain ⟨h1, h2, h3⟩ := takeS_form h
    obtain ⟨h4, h5, h6⟩ := hf h1
    refine ⟨h4, ?_⟩
    rw [h3, ← h2]
    rw [show UInt64.ofInt (((numS r bad 2).1.toNat : Nat) : Int) = (numS r bad 2).1 by
      apply UInt64.toNat_inj.1
      have := (numS r bad 2).1.toNat_lt
      simp [UInt64.ofInt, UInt64.toNat_ofNat']; omega]
    exact h5
theorem fieldsI_form {r : List UInt8} (h : (fieldsI r false).2.2.2 = false) (h1 : ¬ 1 < (fieldsI r false).2.1) : r = bytesI (fieldsI r false).1 ++ (fieldsI r false).2.2.1 := by
  have fa := @takeS_form r false 20
  unfold fieldsI at h h1 ⊢
  simp only [] at h h1 ⊢
  generalize takeS r false 20 = a at fa h h1 ⊢
  have fb := numS_form (r := a.2.1) (bad := a.2.2) 8
  rw [show ((8 : Nat) : Int) = 8 from rfl] at fb
  generalize numS a.2.1 a.2.2 8 = b at fb h h1 ⊢
  have fc := numS_form (r := b.2.1) (bad := b.2.2) 8
  rw [show ((8 : Nat) : Int) = 8 from rfl] at fc
  generalize numS b.2.1 b.2.2 8 = c at fc h h1 ⊢
  have fd := numS_form (r := c.2.1) (bad := c.2.2) 4
  rw [show ((4 : Nat) : Int) = 4 from rfl] at fd
  generalize numS c.2.1 c.2.2 4 = d at fd h h1 ⊢
  have fe := numS_form (r := d.2.1) (bad := d.2.2) 1
  rw [show ((1 : Nat) : Int) = 1 from rfl] at fe
  generalize numS d.2.1 d.2.2 1 = e at fe h h1 ⊢
  have ff := numS_form (r := e.2.1) (bad := e.2.2) 2
  rw [show ((2 : Nat) : Int) = 2 from rfl] at ff
  generalize numS e.2.1 e.2.2 2 = f at ff h h1 ⊢
  have fg := numS_form (r := f.2.1) (bad := f.2.2) 2
  rw [show ((2 : Nat) : Int) = 2 from rfl] at fg
  generalize numS f.2.1 f.2.2 2 = g at fg h h1 ⊢
  have fh := numS_form (r := g.2.1) (bad := g.2.2) 2
  rw [show ((2 : Nat) : Int) = 2 from rfl] at fh
  generalize numS g.2.1 g.2.2 2 = k at fh h h1 ⊢
  have ft := @textS_form k.2.1 k.2.2
  generalize textS k.2.1 k.2.2 1024 = t at ft h h1 ⊢
  have head : e.2.2 = false → r = List.ofFn (n := 20) (copyA (fun _ => 0) a.1) ++ (putF b.1 8 ++ (putF c.1 8 ++ (putF d.1.toUInt32.toUInt64 4 ++ (putF e.1 1 ++ e.2.1)))) := by
    intro he
    obtain ⟨he1, he2, _⟩ := fe he
    obtain ⟨hd1, hd2, hd3⟩ := fd he1
    obtain ⟨hc1, hc2, _⟩ := fc hd1
    obtain ⟨hb1, hb2, _⟩ := fb hc1
    obtain ⟨_, ha2, ha3⟩ := fa hb1
    have hd4 : d.1.toUInt32.toUInt64 = d.1 := by
      apply UInt64.toNat_inj.1
      rw [UInt32.toNat_toUInt64, UInt64.toNat_toUInt32]; omega
    rw [copy_ofFn (by omega), hd4, ← he2, ← hd2, ← hc2, ← hb2]
    exact ha2
  by_cases h0 : e.1 = 0
  · simp only [if_pos h0] at h h1 ⊢
    obtain ⟨ht1, ht2⟩ := ft h
    obtain ⟨hk1, hk2, hk3⟩ := fh ht1
    obtain ⟨hg1, hg2, hg3⟩ := fg hk1
    obtain ⟨hf1, hf2, hf3⟩ := ff hg1
    have up : ∀ x : UInt64, x.toNat < 256 ^ 2 → x.toUInt16.toUInt64 = x := by
      intro x hx
      apply UInt64.toNat_inj.1
      rw [UInt16.toNat_toUInt64, UInt64.toNat_toUInt16]; omega
    unfold bytesI tailI
    simp only []
    rw [h0, if_neg (by decide), up _ hf3, up _ hg3, up _ hk3]
    simp only [List.append_assoc]
    rw [← ht2, ← hk2, ← hg2, ← hf2, ← h0]
    exact head hf1
  · simp only [if_neg h0] at h h1 ⊢
    have e1 : e.1 = 1 := by
      apply UInt64.toNat_inj.1
      have h2 : e.1.toNat ≠ 0 := fun hh => h0 (UInt64.toNat_inj.1 hh)
      have h3 := UInt64.le_iff_toNat_le.1 (UInt64.not_lt.1 h1)
      simp only [show (1 : UInt64).toNat = 1 from rfl] at h3 ⊢
      omega
    unfold bytesI tailI
    simp only []
    rw [e1, if_pos (by decide)]
    simp only [List.append_assoc]
    have := head h
    rw [e1] at this
    exact this
theorem readI_form {r : List UInt8} (h : (readI r false).2.1 = true) : goodI (readI r false).1 = true ∧ r = bytesI (readI r false).1 ++ (readI r false).2.2.1 ∧ (readI r false).2.2.2 = false := by
  unfold readI at h ⊢
  split at h
  · cases h
  · rename_i hh
    rw [if_neg hh]
    simp only [not_or] at hh
    exact ⟨by simpa using hh.2.2, fieldsI_form (by simpa using hh.1) hh.2.1, by simpa using hh.1⟩
/-! ### the statement -/
theorem left_po (r : List UInt8) (bad : Bool) : M_octet_Reader_Left_po r true bad = some (r.length : Int) := by
  unfold M_octet_Reader_Left_po M_octet_Reader_none_po M_octet_rest_left_po
  rw [some_bindP, if_pos rfl, some_bindP]
theorem back_k2 (behind : List UInt8) (h : behind.length ≤ 3000) : M_signpostlaw11_InstBack_v_k2 behind = some true := by
  have hf : ∀ i r b, M_signpostlaw11_InstBack_v_k3 behind i r b false = some true := by
    intro i r b
    unfold M_signpostlaw11_InstBack_v_k3
    rw [if_neg (by decide), lives11]; rfl
  unfold M_signpostlaw11_InstBack_v_k2 M_octet_Open_v
  rw [if_pos (by omega), some_bindP, List.nil_append, inst_read (by omega), some_bindP]
  have hr := @readI_form behind
  generalize readI behind false = x at hr ⊢
  obtain ⟨i, ok, r, b⟩ := x
  simp only [] at hr ⊢
  by_cases hok : ok = true
  · obtain ⟨h1, h2, h3⟩ := hr hok
    have hl := goodI_len h1
    have hlen := congrArg List.length h2
    rw [List.length_append] at hlen
    rw [if_pos hok]
    unfold M_signpostlaw11_InstBack_v_k3
    rw [if_pos rfl, inst_bytes (by omega), if_pos h1, some_bindP]
    simp only [if_true]
    rw [left_po, some_bindP, if_pos (ok_small (by omega)), if_pos (by omega), if_pos (by omega), if_pos (by rw [h2, List.take_left]), inst_good (by omega), h1, some_bindP, if_pos rfl, lives11, some_bindP]
  · rw [if_neg hok, hf]
theorem back_k1 (a : G_api_Instance) (behind : List UInt8) (h : (a.Target.length : Int) + behind.length ≤ 3000) :
    M_signpostlaw11_InstBack_v_k1 a behind (if goodI a = true then (bytesI a, (0 : Int)) else ([], 2)).1 (if goodI a = true then (bytesI a, (0 : Int)) else ([], 2)).2 = some true := by
  unfold M_signpostlaw11_InstBack_v_k1
  by_cases hg : goodI a = true
  · have hm : a.Target.length ≤ maxLen := by simp only [maxLen]; omega
    have hb : (bytesI a).length ≤ 1000 := by
      have := goodI_len hg
      unfold bytesI tailI
      split <;> simp [putF_len]; omega
    rw [if_pos hg]
    simp only [if_true]
    unfold M_octet_Open_v
    rw [List.nil_append, if_pos (by omega), if_pos (by omega), if_pos (by rw [List.length_append]; omega), some_bindP, List.nil_append, inst_read (by rw [List.length_append]; omega), readI_bytes a behind hg, some_bindP]
    simp only [if_true]
    rw [if_pos hm, if_pos hm, left_po, some_bindP, if_pos rfl, back_k2 behind (by omega)]
  · rw [if_neg hg]
    simp only []
    rw [if_neg (by decide), back_k2 behind (by omega)]
theorem pure_InstBack (a : G_api_Instance) (b : G_api_Instance) (behind : List UInt8) (wf_a : G_api_Instance_wf a) (wf_b : G_api_Instance_wf b) (hl_behind : behind.length ≤ 140737488351232) : M_signpostlaw11_InstBack_v a b behind = some true := by
  unfold G_api_Instance_wf at wf_a wf_b
  unfold M_signpostlaw11_InstBack_v
  rw [if_pos (ok_small (by omega)), if_pos (ok_small (by omega)), lives11]
  by_cases h : (3000 : Int) < (a.Target.length : Int) + b.Target.length + behind.length
  · rw [if_pos h]; rfl
  · have hk := back_k1 a behind (by omega)
    have hma : a.Target.length ≤ maxLen := by simp only [maxLen]; omega
    have hmb : b.Target.length ≤ maxLen := by simp only [maxLen]; omega
    rw [if_neg h, inst_bytes (by omega), inst_bytes (by omega)]
    by_cases ha : goodI a = true
    · rw [if_pos ha] at hk ⊢
      by_cases hb : goodI b = true
      · rw [if_pos hb]
        simp only [some_bindP, if_true]
        rw [if_pos hma, if_pos hmb, if_pos (decide_eq_decide.2 ⟨fun e => bytesI_inj ha hb e, fun e => by rw [e]⟩)]
        exact hk
      · rw [if_neg hb]
        simp only [some_bindP, if_true]
        rw [if_neg (by decide)]
        exact hk
    · rw [if_neg ha] at hk ⊢
      generalize (if goodI b = true then (bytesI b, (0 : Int)) else ([], 2)) = y
      obtain ⟨y1, y2⟩ := y
      simp only [some_bindP]
      rw [if_neg (by decide)]
      exact hk
end Go.Proofs.Ytgabplankmljfaa
