/-
  What the functions that the statement ServiceJoins reaches compute, as plain laws; and the statement about them. No condition.
-/
import Derived.Test.YtlkilokdbkjbmaaDoorServiceJoinsMod
import Derived.Test.YtlkilokdbkjbmaaDoorBPure
namespace Go.Proofs.YtlkilokdbkjbmaaDoor
open Go Go.RowKit
set_option linter.unusedVariables false
set_option linter.unusedSimpArgs false
/-! ### names -/
theorem idx_lt : ∀ (l : List UInt8) (c : UInt8), -1 ≤ Lib.indexByte l c ∧ (0 ≤ Lib.indexByte l c → Lib.indexByte l c < l.length)
  | [], c => by simp [Lib.indexByte]
  | b :: l, c => by
    have h := idx_lt l c
    unfold Lib.indexByte
    simp only [List.length_cons]
    split
    · omega
    · split
      · omega
      · rename_i h1 h2
        simp only [beq_iff_eq] at h2
        omega
/-- A text cut at its first point. -/
def cutS (s : List UInt8) : List UInt8 × List UInt8 × Bool := if 0 ≤ Lib.indexByte s 46 then (s.take (Lib.indexByte s 46).toNat, s.drop (Lib.indexByte s 46 + 1).toNat, true) else (s, [], false)
theorem label_cut {s : List UInt8} (hs : s.length ≤ 4611686018427387904) : M_strings_Cut s = some (cutS s) := by
  have hi : M_stringslite_Index s = some (Lib.indexByte s 46) := by
    unfold M_stringslite_Index
    by_cases h : [46] = s
    · rw [if_pos h, ← h]; rfl
    · rw [if_neg h]; rfl
  have hb := idx_lt s 46
  unfold M_strings_Cut M_stringslite_Cut cutS
  rw [hi, Option.bind_some]
  by_cases h : 0 ≤ Lib.indexByte s 46
  · rw [if_pos h, if_pos (by omega), if_pos (ok_small (by omega)), if_pos (by omega), if_pos h]; rfl
  · rw [if_neg h, if_neg h]; rfl
/-- The texts between points. -/
def partsF : Nat → List UInt8 → List (List UInt8)
  | 0, s => [s]
  | n + 1, s => if (cutS s).2.2 = true then (cutS s).1 :: partsF n (cutS s).2.1 else [s]
def partsS (s : List UInt8) : List (List UInt8) := partsF s.length s
theorem cutS_len (s : List UInt8) : (cutS s).1.length ≤ s.length ∧ ((cutS s).2.2 = true → (cutS s).2.1.length < s.length) ∧ ((cutS s).2.2 = false → (cutS s).1 = s) := by
  have hb := idx_lt s 46
  unfold cutS
  split
  · refine ⟨by simp only [List.length_take]; omega, fun _ => ?_, fun h => (by cases h)⟩
    simp only [List.length_drop]; omega
  · exact ⟨Nat.le_refl _, (fun h => by cases h), fun _ => rfl⟩
theorem parts_loop {σ ρ : Type} {f : σ → List UInt8 → Option (σ ⊕ ρ)} : ∀ (n : Nat) (s : List UInt8) (z : σ), s.length ≤ n → s.length ≤ 4611686018427387904 →
    loopO (fun z_ => M_label_parts_1_p_b1 f z_.1 z_.2) (z, s) = rangeO f (partsF n s) z := by
  have hb : ∀ (s : List UInt8) (z : σ), s.length ≤ 4611686018427387904 → M_label_parts_1_p_b1 f z s = (f z (cutS s).1).bind fun y => match y with
      | .inl z2 => if (cutS s).2.2 = true then some (.inl (z2, (cutS s).2.1)) else some (.inr (.inl z2))
      | .inr x => some (.inr (.inr x)) := by
    intro s z hs
    unfold M_label_parts_1_p_b1
    rw [label_cut hs, Option.bind_some]
    rfl
  intro n
  induction n with
  | zero =>
    intro s z hn hs
    obtain ⟨h1, h2, h3⟩ := cutS_len s
    have hc : (cutS s).2.2 = false := by
      cases h : (cutS s).2.2 with
      | false => rfl
      | true => have := h2 h; omega
    have hb1 := hb s z hs
    rw [hc, h3 hc] at hb1
    simp only [partsF, rangeO]
    cases hf : f z s with
    | none =>
      rw [hf] at hb1
      exact loopO_none hb1
    | some y =>
      rw [hf] at hb1
      cases y with
      | inl z2 => exact loopO_end hb1
      | inr x => exact loopO_end hb1
  | succ n ih =>
    intro s z hn hs
    obtain ⟨h1, h2, h3⟩ := cutS_len s
    have hb1 := hb s z hs
    unfold partsF
    cases hc : (cutS s).2.2 with
    | true =>
      rw [hc] at hb1
      simp only [if_pos, rangeO]
      cases hf : f z (cutS s).1 with
      | none => rw [hf] at hb1; exact loopO_none hb1
      | some y =>
        rw [hf] at hb1
        cases y with
        | inl z2 => rw [loopO_next hb1]; exact ih _ _ (by have := h2 hc; omega) (by have := h2 hc; omega)
        | inr x => exact loopO_end hb1
    | false =>
      rw [hc, h3 hc] at hb1
      simp only [Bool.false_eq_true, if_false, rangeO]
      cases hf : f z s with
      | none => rw [hf] at hb1; exact loopO_none hb1
      | some y =>
        rw [hf] at hb1
        cases y with
        | inl z2 => exact loopO_end hb1
        | inr x => exact loopO_end hb1
theorem label_parts {σ ρ : Type} {f : σ → List UInt8 → Option (σ ⊕ ρ)} {s : List UInt8} {z : σ} (hs : s.length ≤ 4611686018427387904) : M_label_parts_1_p f s z = rangeO f (partsS s) z := by
  unfold M_label_parts_1_p partsS
  rw [parts_loop s.length s z (Nat.le_refl _) hs]
  cases rangeO f (partsF s.length s) z <;> rfl
theorem partsF_len : ∀ (n : Nat) (s : List UInt8), ∀ p ∈ partsF n s, p.length ≤ s.length
  | 0, s, p, hp => by simp only [partsF, List.mem_singleton] at hp; subst hp; exact Nat.le_refl _
  | n + 1, s, p, hp => by
    obtain ⟨h1, h2, h3⟩ := cutS_len s
    unfold partsF at hp
    split at hp
    · rename_i hc
      rcases List.mem_cons.1 hp with rfl | hp
      · exact h1
      · have := partsF_len n _ p hp; have := h2 hc; omega
    · simp only [List.mem_singleton] at hp; subst hp; exact Nat.le_refl _
/-! ### parts -/
noncomputable def plainS (c : UInt8) : Bool := (M_label_plain c).getD false
theorem label_plain (c : UInt8) : M_label_plain c = some (plainS c) := by
  unfold plainS M_label_plain M_label_plain_k1 M_label_plain_k2
  repeat' split
  all_goals rfl
theorem plain_loop09 {s : List UInt8} (hs : s.length ≤ 140737488355328) : ∀ (d k : Nat), s.length = k + d →
    loopO (fun z_ => M_label_Part_b2 s z_) (k : Int) = some (if (s.drop k).all plainS = true then .inl () else .inr false) := by
  intro d
  induction d with
  | zero =>
    intro k h
    rw [loopO_end (r := .inl ()) (by unfold M_label_Part_b2; rw [if_neg (by omega)]), List.drop_of_length_le (by omega)]; rfl
  | succ d ih =>
    intro k h
    have hk : k < s.length := by omega
    have hb : M_label_Part_b2 s (k : Int) = if plainS s[k] = true then some (.inl ((k : Int) + 1)) else some (.inr (.inr false)) := by
      unfold M_label_Part_b2
      rw [if_pos (by omega), at?_in hk, Option.bind_some, label_plain, Option.bind_some, if_pos (ok_small (by omega))]
    rw [List.drop_eq_getElem_cons hk, List.all_cons]
    cases hp : plainS s[k] with
    | true => rw [loopO_next (s' := ((k + 1 : Nat) : Int)) (by show M_label_Part_b2 s (k : Int) = _; rw [hb, if_pos hp]; rfl), ih (k + 1) (by omega), Bool.true_and]
    | false => rw [loopO_end (r := .inr false) (by show M_label_Part_b2 s (k : Int) = _; rw [hb, if_neg (by rw [hp]; decide)])]; rfl
noncomputable def partS (s : List UInt8) : Bool := decide (1 ≤ s.length ∧ s.length ≤ 63) && (!decide (s[0]? = some 45) && (!decide (s[s.length - 1]? = some 45) && s.all plainS))
theorem label_part {s : List UInt8} (hs : s.length ≤ 140737488355328) : M_label_Part s = some (partS s) := by
  have hk1 : M_label_Part_k1 s true = some false := rfl
  have hk2 : M_label_Part_k1 s false = some (s.all plainS) := by
    have := plain_loop09 hs s.length 0 (by omega)
    rw [show ((0 : Nat) : Int) = 0 from rfl, List.drop_zero] at this
    unfold M_label_Part_k1
    rw [if_neg (by decide), if_pos hs, this, Option.bind_some]
    cases s.all plainS <;> rfl
  unfold M_label_Part partS
  by_cases h1 : (s.length : Int) < 1
  · rw [if_pos h1, hk1, decide_eq_false (by omega)]; rfl
  · rw [if_neg h1]
    by_cases h2 : (63 : Int) < s.length
    · rw [if_pos h2, hk1, decide_eq_false (by omega)]; rfl
    · have h0 : 0 < s.length := by omega
      have hl : s.length - 1 < s.length := by omega
      rw [if_neg h2, decide_eq_true (by omega), show (0 : Int) = ((0 : Nat) : Int) from rfl, at?_in h0, Option.bind_some, if_pos (ok_small (by omega)),
        show (s.length : Int) - 1 = ((s.length - 1 : Nat) : Int) by omega, at?_in hl, Option.bind_some, List.getElem?_eq_getElem h0, List.getElem?_eq_getElem hl]
      by_cases h3 : s[0] = 45
      · rw [if_pos h3, hk1]; simp [h3]
      · rw [if_neg h3]
        by_cases h4 : s[s.length - 1] = 45
        · rw [decide_eq_true h4, hk1]; simp [h4]
        · rw [decide_eq_false h4, hk2]; simp [h3, h4]
noncomputable def goodN (s : List UInt8) : Bool := decide (s.length ≤ 253) && (partsS s).all partS
theorem good_range : ∀ (l : List (List UInt8)), (∀ p ∈ l, p.length ≤ 140737488355328) → rangeO (fun (_ : Unit) x => M_label_Good_r1 x) l () = some (if l.all partS = true then .inl () else .inr ())
  | [], _ => rfl
  | p :: l, h => by
    have hp : M_label_Good_r1 p = some (if partS p = true then .inl () else .inr ()) := by
      unfold M_label_Good_r1
      rw [label_part (h p (List.mem_cons_self ..)), Option.bind_some]
      split <;> rfl
    rw [List.all_cons]
    unfold rangeO
    rw [hp]
    cases hh : partS p with
    | true => simp only [if_pos, Bool.true_and]; exact good_range l (fun q hq => h q (List.mem_cons_of_mem _ hq))
    | false => rfl
theorem label_good {s : List UInt8} (hs : s.length ≤ 140737488355328) : M_label_Good s = some (goodN s) := by
  unfold M_label_Good goodN
  by_cases h : (253 : Int) < s.length
  · rw [if_pos h, decide_eq_false (by omega)]; rfl
  · rw [if_neg h, decide_eq_true (by omega), show M_label_parts s = some () from rfl, Option.bind_some, label_parts (by omega), good_range _ (fun p hp => by have := partsF_len _ _ p hp; omega), Option.bind_some]
    cases (partsS s).all partS <;> rfl
/-! ### texts folded -/
def foldC (c : UInt8) : UInt8 := if 65 ≤ c ∧ c ≤ 90 then c ||| 32 else c
def foldS (s : List UInt8) : List UInt8 := s.map foldC
theorem fold_loop09 {s : List UInt8} (hs : s.length ≤ 140737488355328) : ∀ (d k : Nat), s.length = k + d →
    loopO (fun z_ => M_label_Fold_b1 s z_.1 z_.2) ((s.take k).map foldC ++ s.drop k, (k : Int)) = some (foldS s) := by
  intro d
  induction d with
  | zero =>
    intro k h
    rw [loopO_end (r := (s.take k).map foldC ++ s.drop k) (by unfold M_label_Fold_b1; rw [if_neg (by omega)]), List.drop_of_length_le (by omega), List.take_of_length_le (by omega), List.append_nil]; rfl
  | succ d ih =>
    intro k h
    have hk : k < s.length := by omega
    have hlen : ((s.take k).map foldC).length = k := by rw [List.length_map, List.length_take]; omega
    have hx : at? ((s.take k).map foldC ++ s.drop k) (k : Int) = some s[k] := by
      rw [at?_nat, List.getElem?_append_right (by omega), hlen, Nat.sub_self, List.getElem?_drop, Nat.add_zero, List.getElem?_eq_getElem hk]
    have hset : ∀ c : UInt8, ((s.take k).map foldC ++ s.drop k).set k c = (s.take k).map foldC ++ c :: s.drop (k + 1) := by
      intro c
      rw [List.set_append_right _ _ (by omega), hlen, Nat.sub_self, List.drop_eq_getElem_cons hk]; rfl
    have hnext : (s.take (k + 1)).map foldC ++ s.drop (k + 1) = (s.take k).map foldC ++ foldC s[k] :: s.drop (k + 1) := by
      rw [List.take_succ_eq_append_getElem hk, List.map_append, List.append_assoc]; rfl
    have hsame : (s.take k).map foldC ++ s.drop k = (s.take k).map foldC ++ s[k] :: s.drop (k + 1) := by rw [← List.drop_eq_getElem_cons hk]
    have hb : M_label_Fold_b1 s ((s.take k).map foldC ++ s.drop k) (k : Int) = some (.inl ((s.take (k + 1)).map foldC ++ s.drop (k + 1), ((k + 1 : Nat) : Int))) := by
      unfold M_label_Fold_b1 M_label_Fold_k2
      rw [if_pos (by omega), hx, Option.bind_some, hnext]
      by_cases h1 : 65 ≤ s[k]
      · rw [if_pos h1]
        by_cases h2 : s[k] ≤ 90
        · rw [if_pos (decide_eq_true h2), Option.bind_some, if_pos (ok_small (by omega)), show foldC s[k] = s[k] ||| 32 from if_pos ⟨h1, h2⟩, show ((k : Int)).toNat = k from rfl, hset]; rfl
        · rw [if_neg (by simpa using h2), if_pos (ok_small (by omega)), show foldC s[k] = s[k] from if_neg (fun hh => h2 hh.2), ← hsame]; rfl
      · rw [if_neg h1, if_neg (by decide), if_pos (ok_small (by omega)), show foldC s[k] = s[k] from if_neg (fun hh => h1 hh.1), ← hsame]; rfl
    rw [loopO_next hb]
    exact ih (k + 1) (by omega)
theorem label_fold {s : List UInt8} (hs : s.length ≤ 140737488355328) : M_label_Fold s = some (foldS s) := by
  unfold M_label_Fold
  have := fold_loop09 hs s.length 0 (by omega)
  rw [List.take_zero, List.map_nil, List.nil_append, List.drop_zero, show ((0 : Nat) : Int) = 0 from rfl] at this
  rw [if_pos hs, this]; rfl
theorem foldS_len (s : List UInt8) : (foldS s).length = s.length := by unfold foldS; rw [List.length_map]
/-! ### texts between points, byte by byte -/
/-- The texts between points; the first one has begun. -/
def spl (cur : List UInt8) : List UInt8 → List (List UInt8)
  | [] => [cur]
  | c :: t => if c = 46 then cur :: spl [] t else spl (cur ++ [c]) t
theorem spl_cut : ∀ (s cur : List UInt8), spl cur s = if 0 ≤ Lib.indexByte s 46 then (cur ++ s.take (Lib.indexByte s 46).toNat) :: spl [] (s.drop (Lib.indexByte s 46 + 1).toNat) else [cur ++ s]
  | [], cur => by simp [spl, Lib.indexByte]
  | c :: t, cur => by
    have h := spl_cut t (cur ++ [c])
    have hb := idx_lt t 46
    have e : Lib.indexByte (c :: t) 46 = if c = 46 then 0 else if Lib.indexByte t 46 = -1 then -1 else Lib.indexByte t 46 + 1 := by simp [Lib.indexByte]
    rw [e, spl]
    by_cases hc : c = 46
    · simp only [if_pos hc]; simp
    · simp only [if_neg hc]
      rw [h]
      by_cases hi : Lib.indexByte t 46 = -1
      · simp only [hi, reduceIte]; simp
      · simp only [if_neg hi]
        rw [if_pos (by omega), if_pos (by omega)]
        rw [show (Lib.indexByte t 46 + 1).toNat = (Lib.indexByte t 46).toNat + 1 by omega, show (Lib.indexByte t 46 + 1 + 1).toNat = (Lib.indexByte t 46).toNat + 1 + 1 by omega]
        simp
theorem partsF_spl : ∀ (n : Nat) (s : List UInt8), s.length ≤ n → partsF n s = spl [] s
  | 0, s, h => by
    have : s = [] := List.length_eq_zero_iff.1 (by omega)
    subst this; rfl
  | n + 1, s, h => by
    have hb := idx_lt s 46
    rw [spl_cut]
    unfold partsF cutS
    by_cases hi : 0 ≤ Lib.indexByte s 46
    · rw [if_pos hi, if_pos hi, if_pos rfl, partsF_spl n _ (by simp only [List.length_drop]; omega)]; rfl
    · rw [if_neg hi, if_neg hi, if_neg Bool.false_ne_true]; rfl
theorem partsS_spl (s : List UInt8) : partsS s = spl [] s := partsF_spl _ s (Nat.le_refl _)
theorem spl_count : ∀ (s cur : List UInt8), (spl cur s).length ≤ s.length + 1
  | [], cur => by simp [spl]
  | c :: t, cur => by
    unfold spl
    split
    · have := spl_count t []; simp only [List.length_cons]; omega
    · have := spl_count t (cur ++ [c]); simp only [List.length_cons]; omega
theorem partsS_count (s : List UInt8) : (partsS s).length ≤ s.length + 1 := by rw [partsS_spl]; exact spl_count s []
theorem part_len {p : List UInt8} (h : partS p = true) : 1 ≤ p.length ∧ p.length ≤ 63 := by
  unfold partS at h
  rw [Bool.and_eq_true, decide_eq_true_eq] at h
  exact h.1
theorem goodN_iff {s : List UInt8} : goodN s = true ↔ s.length ≤ 253 ∧ ∀ p ∈ partsS s, partS p = true := by
  unfold goodN
  rw [Bool.and_eq_true, decide_eq_true_eq, List.all_eq_true]
/-- The bytes of texts, each behind its length. -/
def wireL : List (List UInt8) → List UInt8
  | [] => []
  | p :: l => UInt8.ofInt (p.length : Int) :: p ++ wireL l
theorem wireL_fold : ∀ (l : List (List UInt8)) (o : List UInt8), l.foldl (fun o p => o ++ UInt8.ofInt (p.length : Int) :: p) o = o ++ wireL l
  | [], o => by simp [wireL]
  | p :: l, o => by
    rw [List.foldl_cons, wireL_fold l]; simp [wireL, List.append_assoc]
theorem wireL_len : ∀ (l : List (List UInt8)), (∀ p ∈ l, p.length ≤ 63) → (wireL l).length ≤ 64 * l.length
  | [], _ => by simp [wireL]
  | p :: l, h => by
    have := wireL_len l (fun q hq => h q (List.mem_cons_of_mem _ hq))
    have := h p (List.mem_cons_self ..)
    simp only [wireL, List.length_cons, List.length_append, List.cons_append]; omega
/-- A name's bytes. -/
def wireS (s : List UInt8) : List UInt8 := wireL (partsS s) ++ [0]
/-! ### signpostref09 -/
theorem ref09_parts_loop {s : List UInt8} (hs : s.length ≤ 1000000) : ∀ (d : Nat) (out : List (List UInt8)) (f i : Nat), s.length = i + d → f ≤ i → out.length ≤ i →
    loopO (fun z_ => M_signpostref09_Parts_b1 s z_.1 z_.2.1 z_.2.2) (out, (f : Int), (i : Int)) = some (out ++ spl ((s.take i).drop f) (s.drop i)) := by
  intro d
  induction d with
  | zero =>
    intro out f i h hf ho
    rw [loopO_next (s' := (out ++ [(s.take i).drop f], ((i + 1 : Nat) : Int), ((i + 1 : Nat) : Int))) (by
        show M_signpostref09_Parts_b1 s out (f : Int) (i : Int) = _
        unfold M_signpostref09_Parts_b1 M_signpostref09_Parts_k2
        rw [if_pos (by omega), if_pos (by omega), if_pos rfl, if_pos (by omega), if_pos (by omega), if_pos (ok_small (by omega)), if_pos (ok_small (by omega))]; rfl),
      loopO_end (r := out ++ [(s.take i).drop f]) (by show M_signpostref09_Parts_b1 s _ ((i + 1 : Nat) : Int) ((i + 1 : Nat) : Int) = _; unfold M_signpostref09_Parts_b1; rw [if_neg (by omega)]), List.drop_of_length_le (by omega : s.length ≤ i)]
    rfl
  | succ d ih =>
    intro out f i h hf ho
    have hk : i < s.length := by omega
    have hb : M_signpostref09_Parts_b1 s out (f : Int) (i : Int) = M_signpostref09_Parts_k2 (f : Int) (i : Int) out s (decide (s[i] = 46)) := by
      unfold M_signpostref09_Parts_b1
      rw [if_pos (by omega), if_neg (by omega), at?_in hk, Option.bind_some]
    rw [List.drop_eq_getElem_cons hk]
    unfold spl
    by_cases hc : s[i] = 46
    · rw [loopO_next (s' := (out ++ [(s.take i).drop f], ((i + 1 : Nat) : Int), ((i + 1 : Nat) : Int))) (by
        show M_signpostref09_Parts_b1 s out (f : Int) (i : Int) = _
        rw [hb, decide_eq_true hc]
        unfold M_signpostref09_Parts_k2
        rw [if_pos rfl, if_pos (by omega), if_pos (by omega), if_pos (ok_small (by omega)), if_pos (ok_small (by omega))]; rfl), ih _ _ _ (by omega) (Nat.le_refl _) (by simp; omega), if_pos hc, show (s.take (i + 1)).drop (i + 1) = [] from List.drop_of_length_le (by rw [List.length_take]; omega), List.append_assoc]
      rfl
    · rw [loopO_next (s' := (out, (f : Int), ((i + 1 : Nat) : Int))) (by
        show M_signpostref09_Parts_b1 s out (f : Int) (i : Int) = _
        rw [hb, decide_eq_false hc]
        unfold M_signpostref09_Parts_k2
        rw [if_neg (by decide), if_pos (ok_small (by omega))]; rfl), ih _ _ _ (by omega) (by omega) (by omega), if_neg hc,
        show (s.take (i + 1)).drop f = (s.take i).drop f ++ [s[i]] by
          rw [List.take_succ_eq_append_getElem hk, List.drop_append_of_le_length (by rw [List.length_take]; omega)]]
theorem ref09_parts {s : List UInt8} (hs : s.length ≤ 1000000) : M_signpostref09_Parts s = some (partsS s) := by
  unfold M_signpostref09_Parts
  have := ref09_parts_loop hs s.length [] 0 0 (by omega) (by omega) (by simp)
  rw [show ((0 : Nat) : Int) = 0 from rfl] at this
  rw [this, Option.bind_some, partsS_spl]
  rfl
theorem ref09_part_step {s : List UInt8} {k : Nat} (hs : s.length ≤ 140737488355328) (hk : k < s.length) : M_signpostref09_Part_b1 s (k : Int) = if plainS s[k] = true then some (.inl ((k : Int) + 1)) else some (.inr (.inr false)) := by
  have hp := label_plain s[k]
  unfold M_label_plain M_label_plain_k1 M_label_plain_k2 at hp
  unfold M_signpostref09_Part_b1 M_signpostref09_letter M_signpostref09_Part_k3 M_signpostref09_Part_k2
  rw [if_pos (by omega), at?_in hk]
  simp only [Option.bind_some]
  rw [if_pos (ok_small (by omega))]
  by_cases h1 : 97 ≤ s[k] <;> by_cases h2 : s[k] ≤ 122 <;> by_cases h3 : 65 ≤ s[k] <;> by_cases h4 : s[k] ≤ 90 <;> by_cases h5 : 48 ≤ s[k] <;> by_cases h6 : s[k] ≤ 57 <;> by_cases h7 : s[k] = 45 <;>
    simp only [h1, h2, h3, h4, h5, h6, h7, if_true, if_false, Option.some.injEq] at hp <;>
    simp only [h1, h2, h3, h4, h5, h6, h7, ← hp, if_true, if_false, Option.bind_some, decide_true, decide_false, Bool.false_eq_true, Bool.not_eq_true', decide_eq_false_iff_not, decide_eq_true_eq, Bool.not_true, Bool.not_false, reduceIte] <;> (try split) <;> simp_all
theorem ref09_part_loop {s : List UInt8} (hs : s.length ≤ 140737488355328) : ∀ (d k : Nat), s.length = k + d →
    loopO (fun z_ => M_signpostref09_Part_b1 s z_) (k : Int) = some (if (s.drop k).all plainS = true then .inl () else .inr false) := by
  intro d
  induction d with
  | zero =>
    intro k h
    rw [loopO_end (r := .inl ()) (by unfold M_signpostref09_Part_b1; rw [if_neg (by omega)]), List.drop_of_length_le (by omega)]; rfl
  | succ d ih =>
    intro k h
    have hk : k < s.length := by omega
    have hb := ref09_part_step hs hk
    rw [List.drop_eq_getElem_cons hk, List.all_cons]
    cases hp : plainS s[k] with
    | true => rw [loopO_next (s' := ((k + 1 : Nat) : Int)) (by show M_signpostref09_Part_b1 s (k : Int) = _; rw [hb, if_pos hp]; rfl), ih (k + 1) (by omega), Bool.true_and]
    | false => rw [loopO_end (r := .inr false) (by show M_signpostref09_Part_b1 s (k : Int) = _; rw [hb, if_neg (by rw [hp]; decide)])]; rfl
theorem ref09_part {s : List UInt8} (hs : s.length ≤ 140737488355328) : M_signpostref09_Part s = some (partS s) := by
  unfold M_signpostref09_Part
  have := ref09_part_loop hs s.length 0 (by omega)
  rw [show ((0 : Nat) : Int) = 0 from rfl, List.drop_zero] at this
  rw [this, Option.bind_some]
  unfold partS
  cases ha : s.all plainS with
  | false => simp
  | true =>
    rw [if_pos rfl]
    simp only []
    by_cases h1 : (1 : Int) ≤ s.length
    · rw [if_pos h1]
      by_cases h2 : (s.length : Int) ≤ 63
      · have h0 : 0 < s.length := by omega
        have hl : s.length - 1 < s.length := by omega
        rw [if_pos h2, decide_eq_true (by omega), show (0 : Int) = ((0 : Nat) : Int) from rfl, at?_in h0, Option.bind_some, if_pos (ok_small (by omega)),
          show (s.length : Int) - 1 = ((s.length - 1 : Nat) : Int) by omega, at?_in hl, Option.bind_some, List.getElem?_eq_getElem h0, List.getElem?_eq_getElem hl]
        by_cases h3 : s[0] = 45
        · rw [if_pos h3]; simp [h3]
        · rw [if_neg h3]; simp [h3]
      · rw [if_neg h2, decide_eq_false (by omega)]; rfl
    · rw [if_neg h1, decide_eq_false (by omega)]; rfl
theorem ref09_good_loop {l : List (List UInt8)} (hl : l.length ≤ 1000001) (h : ∀ p ∈ l, p.length ≤ 140737488355328) : ∀ (d k : Nat), l.length = k + d →
    loopO (fun z_ => M_signpostref09_Good_b1 l z_) (k : Int) = some (if (l.drop k).all partS = true then .inl () else .inr false) := by
  intro d
  induction d with
  | zero =>
    intro k h
    rw [loopO_end (r := .inl ()) (by unfold M_signpostref09_Good_b1; rw [if_neg (by omega)]), List.drop_of_length_le (by omega)]; rfl
  | succ d ih =>
    intro k h1
    have hk : k < l.length := by omega
    have hb : M_signpostref09_Good_b1 l (k : Int) = if partS l[k] = true then some (.inl ((k : Int) + 1)) else some (.inr (.inr false)) := by
      unfold M_signpostref09_Good_b1
      rw [if_pos (by omega), at?_in hk, Option.bind_some, ref09_part (h _ (List.getElem_mem hk)), Option.bind_some, if_pos (ok_small (by omega))]
    rw [List.drop_eq_getElem_cons hk, List.all_cons]
    cases hp : partS l[k] with
    | true => rw [loopO_next (s' := ((k + 1 : Nat) : Int)) (by show M_signpostref09_Good_b1 l (k : Int) = _; rw [hb, if_pos hp]; rfl), ih (k + 1) (by omega), Bool.true_and]
    | false => rw [loopO_end (r := .inr false) (by show M_signpostref09_Good_b1 l (k : Int) = _; rw [hb, if_neg (by rw [hp]; decide)])]; rfl
theorem ref09_good {s : List UInt8} (hs : s.length ≤ 1000000) : M_signpostref09_Good s = some (goodN s) := by
  have hc := partsS_count s
  unfold M_signpostref09_Good
  have := ref09_good_loop (l := partsS s) (by omega) (fun p hp => by have := partsF_len _ _ p hp; omega) (partsS s).length 0 (by omega)
  rw [show ((0 : Nat) : Int) = 0 from rfl, List.drop_zero] at this
  rw [ref09_parts hs, Option.bind_some, this, Option.bind_some]
  unfold goodN
  cases (partsS s).all partS with
  | false => simp
  | true =>
    rw [if_pos rfl]
    simp only []
    rw [if_pos (ok_small (by omega)), Bool.and_true]
    exact congrArg some (decide_eq_decide.2 (by omega))
theorem fold09_byte (c : UInt8) (h1 : 65 ≤ c) (h2 : c ≤ 90) : c + 97 - 65 = c ||| 32 := by
  have key : ∀ n : Fin 256, 65 ≤ n.val → n.val ≤ 90 → UInt8.ofNat n.val + 97 - 65 = UInt8.ofNat n.val ||| 32 := by decide +kernel
  have hc := c.toNat_lt
  have := key ⟨c.toNat, hc⟩ (UInt8.le_iff_toNat_le.1 h1) (UInt8.le_iff_toNat_le.1 h2)
  simpa using this
theorem ref09_fold_loop {s : List UInt8} (hs : s.length ≤ 140737488355328) : ∀ (d k : Nat), s.length = k + d →
    loopO (fun z_ => M_signpostref09_Fold_b1 s z_.1 z_.2) ((s.take k).map foldC ++ s.drop k, (k : Int)) = some (foldS s) := by
  intro d
  induction d with
  | zero =>
    intro k h
    rw [loopO_end (r := (s.take k).map foldC ++ s.drop k) (by unfold M_signpostref09_Fold_b1; rw [if_neg (by omega)]), List.drop_of_length_le (by omega), List.take_of_length_le (by omega), List.append_nil]; rfl
  | succ d ih =>
    intro k h
    have hk : k < s.length := by omega
    have hlen : ((s.take k).map foldC).length = k := by rw [List.length_map, List.length_take]; omega
    have hx : at? ((s.take k).map foldC ++ s.drop k) (k : Int) = some s[k] := by
      rw [at?_nat, List.getElem?_append_right (by omega), hlen, Nat.sub_self, List.getElem?_drop, Nat.add_zero, List.getElem?_eq_getElem hk]
    have hset : ∀ c : UInt8, ((s.take k).map foldC ++ s.drop k).set k c = (s.take k).map foldC ++ c :: s.drop (k + 1) := by
      intro c
      rw [List.set_append_right _ _ (by omega), hlen, Nat.sub_self, List.drop_eq_getElem_cons hk]; rfl
    have hnext : (s.take (k + 1)).map foldC ++ s.drop (k + 1) = (s.take k).map foldC ++ foldC s[k] :: s.drop (k + 1) := by
      rw [List.take_succ_eq_append_getElem hk, List.map_append, List.append_assoc]; rfl
    have hsame : (s.take k).map foldC ++ s.drop k = (s.take k).map foldC ++ s[k] :: s.drop (k + 1) := by rw [← List.drop_eq_getElem_cons hk]
    have hb : M_signpostref09_Fold_b1 s ((s.take k).map foldC ++ s.drop k) (k : Int) = some (.inl ((s.take (k + 1)).map foldC ++ s.drop (k + 1), ((k + 1 : Nat) : Int))) := by
      unfold M_signpostref09_Fold_b1 M_signpostref09_Fold_k2
      rw [if_pos (by omega), hx, Option.bind_some, hnext]
      by_cases h1 : 65 ≤ s[k]
      · rw [if_pos h1]
        by_cases h2 : s[k] ≤ 90
        · rw [if_pos (decide_eq_true h2), Option.bind_some, if_pos (ok_small (by omega)), fold09_byte _ h1 h2, show foldC s[k] = s[k] ||| 32 from if_pos ⟨h1, h2⟩, show ((k : Int)).toNat = k from rfl, hset]; rfl
        · rw [if_neg (by simpa using h2), if_pos (ok_small (by omega)), show foldC s[k] = s[k] from if_neg (fun hh => h2 hh.2), ← hsame]; rfl
      · rw [if_neg h1, if_neg (by decide), if_pos (ok_small (by omega)), show foldC s[k] = s[k] from if_neg (fun hh => h1 hh.1), ← hsame]; rfl
    rw [loopO_next hb]
    exact ih (k + 1) (by omega)
theorem ref09_fold {s : List UInt8} (hs : s.length ≤ 140737488355328) : M_signpostref09_Fold s = some (foldS s) := by
  unfold M_signpostref09_Fold
  have := ref09_fold_loop hs s.length 0 (by omega)
  rw [List.take_zero, List.map_nil, List.nil_append, List.drop_zero, show ((0 : Nat) : Int) = 0 from rfl] at this
  rw [if_pos hs, this]; rfl
/-! ### parts, all at once -/
theorem rangeO_none0 {σ α ρ : Type} {f : σ → α → Option (σ ⊕ ρ)} {s : σ} : rangeO f [] s = some (.inl s) := rfl
theorem rangeO_more {σ α ρ : Type} {f : σ → α → Option (σ ⊕ ρ)} {s s' : σ} {x : α} {l : List α} (h : f s x = some (.inl s')) : rangeO f (x :: l) s = rangeO f l s' := by
  rw [rangeO, h]
theorem parts_r1 {out : List (List UInt8)} {p : List UInt8} (h : out.length ≤ 1000003) : M_label_Parts_r1 out p = some (.inl (out ++ [p])) := by
  unfold M_label_Parts_r1
  rw [if_pos (by omega)]
theorem parts_range (l : List (List UInt8)) : ∀ (out : List (List UInt8)), out.length + l.length ≤ 1000002 → rangeO (fun (y_ : List (List UInt8)) x => M_label_Parts_r1 y_ x) l out = some (.inl (out ++ l)) := by
  induction l with
  | nil => intro out _; rw [rangeO_none0, List.append_nil]
  | cons p l ih =>
    intro out h
    rw [List.length_cons] at h
    rw [rangeO_more (s' := out ++ [p]) (parts_r1 (by omega)), ih _ (by rw [List.length_append]; simp only [List.length_cons, List.length_nil]; omega), List.append_assoc, List.singleton_append]
theorem drop_two (A B : List UInt8) (c : UInt8) : (A ++ c :: B).drop (A.length + 1) = B := by rw [← List.drop_drop, List.drop_left]; rfl
theorem drop_three (A B C : List UInt8) : (A ++ 46 :: (B ++ 46 :: C)).drop (A.length + B.length + 2) = C := by
  rw [show A.length + B.length + 2 = (A.length + 1) + (B.length + 1) by omega, ← List.drop_drop, drop_two, drop_two]
theorem label_Parts {s : List UInt8} (hs : s.length ≤ 1000000) : M_label_Parts s = some (partsS s) := by
  have hc := partsS_count s
  unfold M_label_Parts
  rw [show M_label_parts s = some () from rfl, some_bindP, label_parts (by omega), parts_range _ _ (by simp only [List.length_nil]; omega), some_bindP]; rfl
theorem parts_cut (s : List UInt8) : partsS s = if (cutS s).2.2 = true then (cutS s).1 :: partsS (cutS s).2.1 else [s] := by
  rw [partsS_spl, spl_cut]
  unfold cutS
  by_cases h : 0 ≤ Lib.indexByte s 46
  · rw [if_pos h, if_pos h, if_pos rfl, partsS_spl]; rfl
  · rw [if_neg h, if_neg h, if_neg Bool.false_ne_true]; rfl
theorem cut_join {s : List UInt8} (h : (cutS s).2.2 = true) : s = (cutS s).1 ++ 46 :: (cutS s).2.1 ∧ Lib.indexByte s 46 = ((cutS s).1.length : Int) := by
  have hidx : ∀ (l : List UInt8), 0 ≤ Lib.indexByte l 46 → l = l.take (Lib.indexByte l 46).toNat ++ 46 :: l.drop (Lib.indexByte l 46 + 1).toNat := by
    intro l
    induction l with
    | nil => intro h; simp [Lib.indexByte] at h
    | cons c l ih =>
      intro h
      have hb := idx_lt l 46
      have e : Lib.indexByte (c :: l) 46 = if c = 46 then 0 else if Lib.indexByte l 46 = -1 then -1 else Lib.indexByte l 46 + 1 := by simp [Lib.indexByte]
      rw [e] at h ⊢
      by_cases hc : c = 46
      · rw [if_pos hc, hc]; rfl
      · rw [if_neg hc] at h ⊢
        by_cases hi : Lib.indexByte l 46 = -1
        · rw [if_pos hi] at h; omega
        · rw [if_neg hi]
          rw [show (Lib.indexByte l 46 + 1).toNat = (Lib.indexByte l 46).toNat + 1 by omega, show (Lib.indexByte l 46 + 1 + 1).toNat = (Lib.indexByte l 46 + 1).toNat + 1 by omega]
          rw [List.take_succ_cons, List.drop_succ_cons, List.cons_append, ← ih (by omega)]
  have hb := idx_lt s 46
  unfold cutS at h ⊢
  by_cases hi : 0 ≤ Lib.indexByte s 46
  · rw [if_pos hi]
    exact ⟨hidx s hi, by simp only [List.length_take]; omega⟩
  · rw [if_neg hi] at h; cases h
/-! ### folded -/
theorem foldC_dot (c : UInt8) : (foldC c = 46 ↔ c = 46) ∧ (foldC c = 95 ↔ c = 95) := by
  have key : ∀ n : Fin 256, (foldC (UInt8.ofNat n.val) = 46 ↔ UInt8.ofNat n.val = 46) ∧ (foldC (UInt8.ofNat n.val) = 95 ↔ UInt8.ofNat n.val = 95) := by decide +kernel
  have := key ⟨c.toNat, c.toNat_lt⟩
  simpa using this
theorem spl_fold : ∀ (s cur : List UInt8), spl (foldS cur) (foldS s) = (spl cur s).map foldS
  | [], cur => by simp [spl, foldS]
  | c :: t, cur => by
    have h1 := spl_fold t []
    have h2 := spl_fold t (cur ++ [c])
    unfold foldS at h1 h2 ⊢
    rw [List.map_cons, spl, spl]
    by_cases hc : c = 46
    · rw [if_pos hc, if_pos ((foldC_dot c).1.2 hc), List.map_cons, ← h1]; rfl
    · rw [if_neg hc, if_neg (fun e => hc ((foldC_dot c).1.1 e)), ← h2, List.map_append]; rfl
theorem parts_fold (s : List UInt8) : partsS (foldS s) = (partsS s).map foldS := by
  rw [partsS_spl, partsS_spl]; exact spl_fold s []
/-! ### services' names -/
def headV : List (List UInt8) → Bool
  | x :: y :: _ :: _ => decide (1 < x.length) && (decide (x[0]? = some 95) && (decide (y = [95, 116, 99, 112]) || decide (y = [95, 117, 100, 112])))
  | _ => false
theorem headV_cons (x y z : List UInt8) (r : List (List UInt8)) : headV (x :: y :: z :: r) = (decide (1 < x.length) && (decide (x[0]? = some 95) && (decide (y = [95, 116, 99, 112]) || decide (y = [95, 117, 100, 112])))) := rfl
noncomputable def goodV (s : List UInt8) : Bool := goodN s && headV (partsS (foldS s))
theorem service_good {s : List UInt8} (hs : s.length ≤ 1000000) : M_service_Good s = some (goodV s) := by
  unfold M_service_Good goodV
  rw [label_good (by omega), some_bindP]
  cases goodN s with
  | false => rfl
  | true =>
    rw [if_pos rfl, label_fold (by omega), some_bindP, label_Parts (by rw [foldS_len]; omega), some_bindP, Bool.true_and]
    generalize partsS (foldS s) = l
    match l with
    | [] => rfl
    | [x] => rfl
    | [x, y] => rfl
    | x :: y :: z :: r =>
      rw [if_pos (by simp only [List.length_cons]; omega), show at? (x :: y :: z :: r) 0 = some x from rfl, some_bindP, headV_cons]
      by_cases h1 : 1 < x.length
      · rw [if_pos (by omega), decide_eq_true h1, show (0 : Int) = ((0 : Nat) : Int) from rfl, at?_in (by omega : 0 < x.length), some_bindP, List.getElem?_eq_getElem (by omega : 0 < x.length)]
        by_cases h2 : x[0] = 95
        · rw [if_pos h2, show at? (x :: y :: z :: r) 1 = some y from rfl, some_bindP, decide_eq_true (show some x[0] = some (95 : UInt8) by rw [h2])]
          unfold M_service_Good_1
          by_cases h3 : y = [95, 116, 99, 112]
          · rw [if_pos h3, some_bindP, decide_eq_true h3]; rfl
          · rw [if_neg h3, some_bindP, decide_eq_false h3]; rfl
        · rw [if_neg h2, decide_eq_false (fun e => h2 (Option.some.inj e))]; rfl
      · rw [if_neg (by omega), decide_eq_false h1]; rfl
theorem ref10_good {s : List UInt8} (hs : s.length ≤ 100000) : M_signpostref10_Good s = some (goodV s) := by
  unfold M_signpostref10_Good goodV
  rw [ref09_fold (by omega), some_bindP, ref09_parts (by rw [foldS_len]; omega), some_bindP, ref09_good (by omega), some_bindP]
  cases goodN s with
  | false => rfl
  | true =>
    rw [if_pos rfl, Bool.true_and]
    generalize partsS (foldS s) = l
    match l with
    | [] => rfl
    | [x] => rfl
    | [x, y] => rfl
    | x :: y :: z :: r =>
      rw [if_pos (by simp only [List.length_cons]; omega), show at? (x :: y :: z :: r) 0 = some x from rfl, some_bindP, headV_cons]
      by_cases h1 : 1 < x.length
      · rw [if_pos (by omega), decide_eq_true h1, show (0 : Int) = ((0 : Nat) : Int) from rfl, at?_in (by omega : 0 < x.length), some_bindP, List.getElem?_eq_getElem (by omega : 0 < x.length)]
        by_cases h2 : x[0] = 95
        · rw [if_pos h2, show at? (x :: y :: z :: r) 1 = some y from rfl, some_bindP, decide_eq_true (show some x[0] = some (95 : UInt8) by rw [h2])]
          by_cases h3 : y = [95, 116, 99, 112]
          · rw [if_pos h3, decide_eq_true h3]; rfl
          · rw [if_neg h3, decide_eq_false h3]; rfl
        · rw [if_neg h2, decide_eq_false (fun e => h2 (Option.some.inj e))]; rfl
      · rw [if_neg (by omega), decide_eq_false h1]; rfl
/-- The three of a service's name. -/
def p1 (s : List UInt8) : List UInt8 := (cutS s).1
def p2 (s : List UInt8) : List UInt8 := (cutS (cutS s).2.1).1
def p3 (s : List UInt8) : List UInt8 := (cutS (cutS s).2.1).2.1
theorem head_of_fold {x : List UInt8} (h : (foldS x)[0]? = some 95) : x = 95 :: x.drop 1 := by
  cases x with
  | nil => simp [foldS] at h
  | cons c x =>
    simp only [foldS, List.map_cons, List.getElem?_cons_zero, Option.some.injEq] at h
    rw [(foldC_dot c).2.1 h]; rfl
theorem goodV_form {s : List UInt8} (h : goodV s = true) : goodN s = true ∧ (cutS s).2.2 = true ∧ (cutS (cutS s).2.1).2.2 = true ∧ p1 s = 95 :: (p1 s).drop 1 ∧ p2 s = 95 :: (p2 s).drop 1 ∧ partsS s = p1 s :: p2 s :: partsS (p3 s) := by
  unfold goodV at h
  rw [Bool.and_eq_true, parts_fold] at h
  obtain ⟨hn, hh⟩ := h
  have h1 := parts_cut s
  have h2 := parts_cut (cutS s).2.1
  have h3 := parts_cut (p3 s)
  cases c1 : (cutS s).2.2 with
  | false => rw [c1, if_neg (by decide)] at h1; rw [h1] at hh; cases hh
  | true =>
    rw [c1, if_pos rfl] at h1
    cases c2 : (cutS (cutS s).2.1).2.2 with
    | false => rw [c2, if_neg (by decide)] at h2; rw [h1, h2] at hh; cases hh
    | true =>
      rw [c2, if_pos rfl] at h2
      rw [h2] at h1
      have h1' : partsS s = p1 s :: p2 s :: partsS (p3 s) := h1
      obtain ⟨z, r, hz⟩ : ∃ z r, partsS (p3 s) = z :: r := by
        rw [h3]
        split
        · exact ⟨_, _, rfl⟩
        · exact ⟨_, _, rfl⟩
      rw [h1', hz] at hh
      simp only [List.map_cons, headV, Bool.and_eq_true, Bool.or_eq_true, decide_eq_true_eq] at hh
      refine ⟨hn, rfl, rfl, head_of_fold hh.2.1, head_of_fold ?_, h1'⟩
      rcases hh.2.2 with e | e <;> rw [e] <;> rfl
theorem three_join {s : List UInt8} (h1 : (cutS s).2.2 = true) (h2 : (cutS (cutS s).2.1).2.2 = true) : s = p1 s ++ 46 :: (p2 s ++ 46 :: p3 s) := by
  have e1 := (cut_join h1).1
  have e2 := (cut_join h2).1
  unfold p1 p2 p3
  rw [← e2, ← e1]
theorem strings_index {s : List UInt8} : M_strings_Index s = some (Lib.indexByte s 46) := by
  unfold M_strings_Index
  have hi : M_stringslite_Index s = some (Lib.indexByte s 46) := by
    unfold M_stringslite_Index
    by_cases h : [46] = s
    · rw [if_pos h, ← h]; rfl
    · rw [if_neg h]; rfl
  rw [hi, some_bindP]
theorem split_round {s s2 : List UInt8} {a : List (List UInt8)} {i : Nat} (hs : 2 ≤ s.length) (hl : s.length ≤ 1000000) (hi : i < 2) (ha : a.length = 3) (h2 : s2.length ≤ 1000000) (hc : (cutS s2).2.2 = true) :
    M_strings_genSplit_b1 s s2 a (i : Int) = some (.inl ((cutS s2).2.1, a.set i (cutS s2).1, ((i + 1 : Nat) : Int))) := by
  obtain ⟨e1, e2⟩ := cut_join hc
  have hlen := congrArg List.length e1
  rw [List.length_append, List.length_cons] at hlen
  have hm : min 3 ((s.length : Int) + 1) = 3 := by omega
  have e3 : s2.take ((cutS s2).1.length) = (cutS s2).1 := (congrArg (List.take (cutS s2).1.length) e1).trans List.take_left
  have e4 : s2.drop ((cutS s2).1.length + 1) = (cutS s2).2.1 := (congrArg (List.drop ((cutS s2).1.length + 1)) e1).trans (drop_two _ _ _)
  unfold M_strings_genSplit_b1
  rw [hm, if_pos (by omega), strings_index, some_bindP, e2, if_neg (by omega), if_pos (ok_small (by omega)), if_pos (by omega), at?_in (by omega), some_bindP, if_pos (ok_small (by omega)), if_pos (by omega), if_pos (ok_small (by omega))]
  rw [show (((cutS s2).1.length : Int) + 1).toNat = (cutS s2).1.length + 1 by omega, show (((cutS s2).1.length : Int) + 0).toNat = (cutS s2).1.length by omega, e3, e4]
  rfl
theorem split_three {s : List UInt8} (hl : s.length ≤ 1000000) (h1 : (cutS s).2.2 = true) (h2 : (cutS (cutS s).2.1).2.2 = true) : M_strings_SplitN s = some [p1 s, p2 s, p3 s] := by
  have e := congrArg List.length (three_join h1 h2)
  simp only [List.length_append, List.length_cons] at e
  have e1 := congrArg List.length (cut_join h1).1
  simp only [List.length_append, List.length_cons] at e1
  have hm : min 3 ((s.length : Int) + 1) = 3 := by omega
  have hloop : loopO (fun z_ => M_strings_genSplit_b1 s z_.1 z_.2.1 z_.2.2) (s, List.replicate 3 ([] : List UInt8), ((0 : Nat) : Int)) = some (p3 s, [p1 s, p2 s, []], 2) := by
    rw [loopO_next (split_round (s2 := s) (a := List.replicate 3 []) (i := 0) (by omega) hl (by omega) rfl hl h1),
      loopO_next (split_round (s2 := (cutS s).2.1) (i := 1) (by omega) hl (by omega) (by simp) (by omega) h2),
      loopO_end (r := (p3 s, [p1 s, p2 s, []], 2)) (by
        show M_strings_genSplit_b1 s _ _ ((2 : Nat) : Int) = _
        unfold M_strings_genSplit_b1
        rw [hm, if_neg (by decide)]; rfl)]
  unfold M_strings_SplitN M_strings_genSplit
  rw [hm, if_pos (ok_small (by omega)), if_pos (by decide), if_pos (ok_small (by decide)), show (3 : Int).toNat = 3 from rfl, show (0 : Int) = ((0 : Nat) : Int) from rfl, hloop, some_bindP]
  rfl
noncomputable def splitV (s : List UInt8) : List UInt8 × List UInt8 × List UInt8 × Int := if goodV s = true then ((p1 s).drop 1, (p2 s).drop 1, p3 s, 0) else ([], [], [], 40)
theorem len_of_cons {x : List UInt8} (h : x = 95 :: x.drop 1) : 1 ≤ x.length := by rw [h]; simp
theorem service_split {s : List UInt8} (hs : s.length ≤ 1000000) : M_service_Split s = some (splitV s) := by
  unfold M_service_Split splitV
  rw [service_good hs, some_bindP]
  by_cases h : goodV s = true
  · obtain ⟨_, h1, h2, h3, h4, _⟩ := goodV_form h
    have l1 := len_of_cons h3
    have l2 := len_of_cons h4
    rw [if_pos h, if_pos h, split_three hs h1 h2, some_bindP, show at? [p1 s, p2 s, p3 s] 0 = some (p1 s) from rfl, some_bindP, if_pos (by omega), show at? [p1 s, p2 s, p3 s] 1 = some (p2 s) from rfl, some_bindP, if_pos (by omega),
      show at? [p1 s, p2 s, p3 s] 2 = some (p3 s) from rfl, some_bindP]
  · rw [if_neg h, if_neg h]
theorem ref10_split {s : List UInt8} (hs : s.length ≤ 100000) : M_signpostref10_Split s = some (splitV s) := by
  unfold M_signpostref10_Split splitV
  rw [ref10_good hs, some_bindP]
  by_cases h : goodV s = true
  · obtain ⟨_, h1, h2, h3, h4, h5⟩ := goodV_form h
    have l1 := len_of_cons h3
    have l2 := len_of_cons h4
    have e := congrArg List.length (three_join h1 h2)
    simp only [List.length_append, List.length_cons] at e
    have hd : s.drop ((p1 s).length + (p2 s).length + 2) = p3 s := (congrArg (List.drop ((p1 s).length + (p2 s).length + 2)) (three_join h1 h2)).trans (drop_three _ _ _)
    rw [if_pos h, if_pos h, ref09_parts (by omega), some_bindP, h5, show at? (p1 s :: p2 s :: partsS (p3 s)) 0 = some (p1 s) from rfl, some_bindP, if_pos (by omega), show at? (p1 s :: p2 s :: partsS (p3 s)) 1 = some (p2 s) from rfl, some_bindP, if_pos (by omega),
      if_pos (ok_small (by omega)), if_pos (ok_small (by omega)), if_pos (by omega), show (((p1 s).length : Int) + ((p2 s).length : Int) + 2).toNat = (p1 s).length + (p2 s).length + 2 by omega, hd]
  · rw [if_neg h, if_neg h]
/-! ### joined -/
theorem join_cons2 (x y : List UInt8) (r : List (List UInt8)) : Lib.join (x :: y :: r) [46] = x ++ 46 :: Lib.join (y :: r) [46] := by
  rw [Lib.join_cons, Lib.join_cons]; simp [Lib.joinTail]
def threeJ (a b c : List UInt8) : List UInt8 := 95 :: a ++ 46 :: (95 :: b ++ 46 :: c)
noncomputable def joinV (a b c : List UInt8) : List UInt8 × Int := if splitV (threeJ a b c) = (a, b, c, 0) then (threeJ a b c, 0) else ([], 40)
theorem joinV_of {a b c : List UInt8} (x : List UInt8 × List UInt8 × List UInt8 × Int) (s : List UInt8) : (if x.2.2.2 = 0 then if x.1 = a then if x.2.1 = b then if x.2.2.1 = c then some (s, (0 : Int)) else some ([], 40) else some ([], 40) else some ([], 40) else some ([], 40)) =
    some (if x = (a, b, c, 0) then (s, 0) else ([], 40)) := by
  obtain ⟨x1, x2, x3, x4⟩ := x
  simp only [Prod.mk.injEq]
  by_cases h4 : x4 = 0
  · by_cases h1 : x1 = a
    · by_cases h2 : x2 = b
      · by_cases h3 : x3 = c
        · simp [h1, h2, h3, h4]
        · simp [h1, h2, h3, h4]
      · simp [h1, h2, h4]
    · simp [h1, h4]
  · simp [h4]
theorem service_join {a b c : List UInt8} (h : a.length + b.length + c.length ≤ 10000) : M_service_Join a b c = some (joinV a b c) := by
  have e : Lib.join [([95] : List UInt8) ++ a, ([95] : List UInt8) ++ b, c] [46] = threeJ a b c := by
    rw [join_cons2, join_cons2, Lib.join_one]; rfl
  have hl : (threeJ a b c).length ≤ 100000 := by unfold threeJ; simp only [List.length_append, List.length_cons]; omega
  unfold M_service_Join M_service_joined_v
  rw [if_pos (by omega), if_pos (by omega), e, if_pos (by simp), if_pos (by omega), some_bindP, service_split (by omega), some_bindP]
  exact joinV_of (splitV (threeJ a b c)) (threeJ a b c)
theorem ref10_join {a b c : List UInt8} (h : a.length + b.length + c.length ≤ 10000) : M_signpostref10_Join a b c = some (joinV a b c) := by
  have e : ((((([95] : List UInt8) ++ a) ++ ([46, 95] : List UInt8)) ++ b) ++ ([46] : List UInt8)) ++ c = threeJ a b c := by unfold threeJ; simp
  have hl : (threeJ a b c).length ≤ 100000 := by unfold threeJ; simp only [List.length_append, List.length_cons]; omega
  unfold M_signpostref10_Join
  rw [if_pos (by omega), if_pos (by simp; omega), if_pos (by simp; omega), if_pos (by simp; omega), if_pos (by simp; omega), e, ref10_split hl, some_bindP]
  exact joinV_of (splitV (threeJ a b c)) (threeJ a b c)
theorem join_split {s : List UInt8} (h : goodV s = true) : threeJ ((p1 s).drop 1) ((p2 s).drop 1) (p3 s) = s := by
  obtain ⟨_, h1, h2, h3, h4, _⟩ := goodV_form h
  unfold threeJ
  rw [← h3, ← h4, ← three_join h1 h2]
/-! ### the chapter's example -/
theorem lives10 : M_signpostlaw10_lives = some true := by
  have g1 : goodV [95, 104, 116, 116, 112, 46, 95, 116, 99, 112, 46, 97, 46, 98] = true := by
    unfold goodV goodN
    rw [show partsS (foldS [95, 104, 116, 116, 112, 46, 95, 116, 99, 112, 46, 97, 46, 98]) = [[95, 104, 116, 116, 112], [95, 116, 99, 112], [97], [98]] by decide, show partsS [95, 104, 116, 116, 112, 46, 95, 116, 99, 112, 46, 97, 46, 98] = [[95, 104, 116, 116, 112], [95, 116, 99, 112], [97], [98]] by decide]
    decide
  have g2 : goodV [95, 104, 116, 116, 112, 46, 95, 105, 112, 46, 97] = false := by
    unfold goodV
    rw [show headV (partsS (foldS [95, 104, 116, 116, 112, 46, 95, 105, 112, 46, 97])) = false by decide, Bool.and_false]
  have g3 : goodV [95, 46, 95, 116, 99, 112, 46, 97] = false := by
    unfold goodV
    rw [show headV (partsS (foldS [95, 46, 95, 116, 99, 112, 46, 97])) = false by decide, Bool.and_false]
  have s1 : splitV [95, 104, 116, 116, 112, 46, 95, 116, 99, 112, 46, 97, 46, 98] = ([104, 116, 116, 112], [116, 99, 112], [97, 46, 98], 0) := by
    unfold splitV
    rw [if_pos g1]
    decide
  unfold M_signpostlaw10_lives
  rw [service_split (by decide), s1, some_bindP]
  simp only [if_true]
  rw [service_good (by decide), g2, some_bindP, if_neg (by decide), service_good (by decide), g3, some_bindP]; rfl
/-! ### the statement -/
theorem joins_k2 {s : List UInt8} (h : s.length ≤ 2000) : M_signpostlaw10_ServiceJoins_k2 s = some true := by
  unfold M_signpostlaw10_ServiceJoins_k2
  rw [service_split (by omega), some_bindP, lives10]
  have hs := splitV s
  by_cases hg : goodV s = true
  · obtain ⟨_, h1, h2, h3, h4, _⟩ := goodV_form hg
    have e := congrArg List.length (three_join h1 h2)
    simp only [List.length_append, List.length_cons] at e
    have l1 : ((p1 s).drop 1).length ≤ (p1 s).length := by simp
    have l2 : ((p2 s).drop 1).length ≤ (p2 s).length := by simp
    have hv : splitV s = ((p1 s).drop 1, (p2 s).drop 1, p3 s, 0) := by unfold splitV; rw [if_pos hg]
    have hj : joinV ((p1 s).drop 1) ((p2 s).drop 1) (p3 s) = (s, 0) := by
      unfold joinV
      rw [join_split hg, if_pos hv]
    rw [hv]
    simp only [if_true]
    rw [service_join (by omega), hj, some_bindP]
    simp only [if_true]
    rfl
  · have hv : splitV s = ([], [], [], 40) := by unfold splitV; rw [if_neg hg]
    rw [hv]
    simp only []
    rw [if_neg (by decide)]; rfl
theorem joins_k1 {a b c s : List UInt8} (h : s.length ≤ 2000) (hl : a.length + b.length + c.length ≤ 10000) : M_signpostlaw10_ServiceJoins_k1 a b c (joinV a b c).1 (joinV a b c).2 s false = some true := by
  have hlen : (joinV a b c).1.length ≤ 100000 := by
    unfold joinV
    split
    · unfold threeJ; simp only [List.length_append, List.length_cons]; omega
    · simp
  unfold M_signpostlaw10_ServiceJoins_k1
  rw [if_neg (by decide), service_split (by omega), some_bindP, joins_k2 h]
  by_cases hj : splitV (threeJ a b c) = (a, b, c, 0)
  · have e : joinV a b c = (threeJ a b c, 0) := by unfold joinV; rw [if_pos hj]
    rw [e]
    simp only [if_true]
    rw [hj]
    simp only [if_true]
  · have e : joinV a b c = ([], 40) := by unfold joinV; rw [if_neg hj]
    rw [e]
    simp only []
    rw [if_neg (by decide)]
theorem pure_ServiceJoins (a : List UInt8) (b : List UInt8) (c : List UInt8) (s : List UInt8) (wf_a : a.length ≤ 140737488351232) (wf_b : b.length ≤ 140737488351232) (wf_c : c.length ≤ 140737488351232) (wf_s : s.length ≤ 140737488351232) : M_signpostlaw10_ServiceJoins a b c s = some true := by
  unfold M_signpostlaw10_ServiceJoins
  rw [if_pos (ok_small (by omega)), if_pos (ok_small (by omega)), if_pos (ok_small (by omega)), lives10]
  by_cases h : (1500 : Int) < (a.length : Int) + b.length + c.length + s.length
  · rw [if_pos h]; rfl
  · have hk := joins_k1 (a := a) (b := b) (c := c) (s := s) (by omega) (by omega)
    rw [if_neg h, service_join (by omega), some_bindP, ref10_join (by omega)]
    generalize joinV a b c = x at hk ⊢
    obtain ⟨x1, x2⟩ := x
    simp only [some_bindP, if_true, decide_true, Bool.not_true] at hk ⊢
    exact hk
end Go.Proofs.YtlkilokdbkjbmaaDoor
