/-
  What the functions that the statement InstTells reaches compute, as plain laws; and the statement about them. No condition.
-/
import Derived.Test.YtgabplankmljfaaInstTellsMod
import Derived.Test.YtgabplankmljfaaBPure
namespace Go.Proofs.Ytgabplankmljfaa
open Go Go.RowKit
set_option linter.unusedVariables false
set_option linter.unusedSimpArgs false
/-! ### names -/
theorem idx_lt : ∀ (l : List UInt8) (c : UInt8), -1 ≤ Lib.indexByte l c ∧ (0 ≤ Lib.indexByte l c → Lib.indexByte l c < l.length)
  | [], c => by simp [Lib.indexByte]
  | b :: l, c => by
    have h := idx_lt l c
    unfold Lib.indexByte
    simp only [List.length_cons]
    split
    · omega
    · split
      · omega
      · rename_i h1 h2
        simp only [beq_iff_eq] at h2
        omega
/-- A text cut at its first point. -/
def cutS (s : List UInt8) : List UInt8 × List UInt8 × Bool := if 0 ≤ Lib.indexByte s 46 then (s.take (Lib.indexByte s 46).toNat, s.drop (Lib.indexByte s 46 + 1).toNat, true) else (s, [], false)
theorem label_cut {s : List UInt8} (hs : s.length ≤ 4611686018427387904) : M_strings_Cut s = some (cutS s) := by
  have hi : M_stringslite_Index s = some (Lib.indexByte s 46) := by
    unfold M_stringslite_Index
    by_cases h : [46] = s
    · rw [if_pos h, ← h]; rfl
    · rw [if_neg h]; rfl
  have hb := idx_lt s 46
  unfold M_strings_Cut M_stringslite_Cut cutS
  rw [hi, Option.bind_some]
  by_cases h : 0 ≤ Lib.indexByte s 46
  · rw [if_pos h, if_pos (by omega), if_pos (ok_small (by omega)), if_pos (by omega), if_pos h]; rfl
  · rw [if_neg h, if_neg h]; rfl
/-- The texts between points. -/
def partsF : Nat → List UInt8 → List (List UInt8)
  | 0, s => [s]
  | n + 1, s => if (cutS s).2.2 = true then (cutS s).1 :: partsF n (cutS s).2.1 else [s]
def partsS (s : List UInt8) : List (List UInt8) := partsF s.length s
theorem cutS_len (s : List UInt8) : (cutS s).1.length ≤ s.length ∧ ((cutS s).2.2 = true → (cutS s).2.1.length < s.length) ∧ ((cutS s).2.2 = false → (cutS s).1 = s) := by
  have hb := idx_lt s 46
  unfold cutS
  split
  · refine ⟨by simp only [List.length_take]; omega, fun _ => ?_, fun h => (by cases h)⟩
    simp only [List.length_drop]; omega
  · exact ⟨Nat.le_refl _, (fun h => by cases h), fun _ => rfl⟩
theorem parts_loop {σ ρ : Type} {f : σ → List UInt8 → Option (σ ⊕ ρ)} : ∀ (n : Nat) (s : List UInt8) (z : σ), s.length ≤ n → s.length ≤ 4611686018427387904 →
    loopO (fun z_ => M_label_parts_1_p_b1 f z_.1 z_.2) (z, s) = rangeO f (partsF n s) z := by
  have hb : ∀ (s : List UInt8) (z : σ), s.length ≤ 4611686018427387904 → M_label_parts_1_p_b1 f z s = (f z (cutS s).1).bind fun y => match y with
      | .inl z2 => if (cutS s).2.2 = true then some (.inl (z2, (cutS s).2.1)) else some (.inr (.inl z2))
      | .inr x => some (.inr (.inr x)) := by
    intro s z hs
    unfold M_label_parts_1_p_b1
    rw [label_cut hs, Option.bind_some]
    rfl
  intro n
  induction n with
  | zero =>
    intro s z hn hs
    obtain ⟨h1, h2, h3⟩ := cutS_len s
    have hc : (cutS s).2.2 = false := by
      cases h : (cutS s).2.2 with
      | false => rfl
      | true => have := h2 h; omega
    have hb1 := hb s z hs
    rw [hc, h3 hc] at hb1
    simp only [partsF, rangeO]
    cases hf : f z s with
    | none =>
      rw [hf] at hb1
      exact loopO_none hb1
    | some y =>
      rw [hf] at hb1
      cases y with
      | inl z2 => exact loopO_end hb1
      | inr x => exact loopO_end hb1
  | succ n ih =>
    intro s z hn hs
    obtain ⟨h1, h2, h3⟩ := cutS_len s
    have hb1 := hb s z hs
    unfold partsF
    cases hc : (cutS s).2.2 with
    | true =>
      rw [hc] at hb1
      simp only [if_pos, rangeO]
      cases hf : f z (cutS s).1 with
      | none => rw [hf] at hb1; exact loopO_none hb1
      | some y =>
        rw [hf] at hb1
        cases y with
        | inl z2 => rw [loopO_next hb1]; exact ih _ _ (by have := h2 hc; omega) (by have := h2 hc; omega)
        | inr x => exact loopO_end hb1
    | false =>
      rw [hc, h3 hc] at hb1
      simp only [Bool.false_eq_true, if_false, rangeO]
      cases hf : f z s with
      | none => rw [hf] at hb1; exact loopO_none hb1
      | some y =>
        rw [hf] at hb1
        cases y with
        | inl z2 => exact loopO_end hb1
        | inr x => exact loopO_end hb1
theorem label_parts {σ ρ : Type} {f : σ → List UInt8 → Option (σ ⊕ ρ)} {s : List UInt8} {z : σ} (hs : s.length ≤ 4611686018427387904) : M_label_parts_1_p f s z = rangeO f (partsS s) z := by
  unfold M_label_parts_1_p partsS
  rw [parts_loop s.length s z (Nat.le_refl _) hs]
  cases rangeO f (partsF s.length s) z <;> rfl
theorem partsF_len : ∀ (n : Nat) (s : List UInt8), ∀ p ∈ partsF n s, p.length ≤ s.length
  | 0, s, p, hp => by simp only [partsF, List.mem_singleton] at hp; subst hp; exact Nat.le_refl _
  | n + 1, s, p, hp => by
    obtain ⟨h1, h2, h3⟩ := cutS_len s
    unfold partsF at hp
    split at hp
    · rename_i hc
      rcases List.mem_cons.1 hp with rfl | hp
      · exact h1
      · have := partsF_len n _ p hp; have := h2 hc; omega
    · simp only [List.mem_singleton] at hp; subst hp; exact Nat.le_refl _
/-! ### parts -/
noncomputable def plainS (c : UInt8) : Bool := (M_label_plain c).getD false
theorem label_plain (c : UInt8) : M_label_plain c = some (plainS c) := by
  unfold plainS M_label_plain M_label_plain_k1 M_label_plain_k2
  repeat' split
  all_goals rfl
theorem plain_loop09 {s : List UInt8} (hs : s.length ≤ 140737488355328) : ∀ (d k : Nat), s.length = k + d →
    loopO (fun z_ => M_label_Part_b2 s z_) (k : Int) = some (if (s.drop k).all plainS = true then .inl () else .inr false) := by
  intro d
  induction d with
  | zero =>
    intro k h
    rw [loopO_end (r := .inl ()) (by unfold M_label_Part_b2; rw [if_neg (by omega)]), List.drop_of_length_le (by omega)]; rfl
  | succ d ih =>
    intro k h
    have hk : k < s.length := by omega
    have hb : M_label_Part_b2 s (k : Int) = if plainS s[k] = true then some (.inl ((k : Int) + 1)) else some (.inr (.inr false)) := by
      unfold M_label_Part_b2
      rw [if_pos (by omega), at?_in hk, Option.bind_some, label_plain, Option.bind_some, if_pos (ok_small (by omega))]
    rw [List.drop_eq_getElem_cons hk, List.all_cons]
    cases hp : plainS s[k] with
    | true => rw [loopO_next (s' := ((k + 1 : Nat) : Int)) (by show M_label_Part_b2 s (k : Int) = _; rw [hb, if_pos hp]; rfl), ih (k + 1) (by omega), Bool.true_and]
    | false => rw [loopO_end (r := .inr false) (by show M_label_Part_b2 s (k : Int) = _; rw [hb, if_neg (by rw [hp]; decide)])]; rfl
noncomputable def partS (s : List UInt8) : Bool := decide (1 ≤ s.length ∧ s.length ≤ 63) && (!decide (s[0]? = some 45) && (!decide (s[s.length - 1]? = some 45) && s.all plainS))
theorem label_part {s : List UInt8} (hs : s.length ≤ 140737488355328) : M_label_Part s = some (partS s) := by
  have hk1 : M_label_Part_k1 s true = some false := rfl
  have hk2 : M_label_Part_k1 s false = some (s.all plainS) := by
    have := plain_loop09 hs s.length 0 (by omega)
    rw [show ((0 : Nat) : Int) = 0 from rfl, List.drop_zero] at this
    unfold M_label_Part_k1
    rw [if_neg (by decide), if_pos hs, this, Option.bind_some]
    cases s.all plainS <;> rfl
  unfold M_label_Part partS
  by_cases h1 : (s.length : Int) < 1
  · rw [if_pos h1, hk1, decide_eq_false (by omega)]; rfl
  · rw [if_neg h1]
    by_cases h2 : (63 : Int) < s.length
    · rw [if_pos h2, hk1, decide_eq_false (by omega)]; rfl
    · have h0 : 0 < s.length := by omega
      have hl : s.length - 1 < s.length := by omega
      rw [if_neg h2, decide_eq_true (by omega), show (0 : Int) = ((0 : Nat) : Int) from rfl, at?_in h0, Option.bind_some, if_pos (ok_small (by omega)),
        show (s.length : Int) - 1 = ((s.length - 1 : Nat) : Int) by omega, at?_in hl, Option.bind_some, List.getElem?_eq_getElem h0, List.getElem?_eq_getElem hl]
      by_cases h3 : s[0] = 45
      · rw [if_pos h3, hk1]; simp [h3]
      · rw [if_neg h3]
        by_cases h4 : s[s.length - 1] = 45
        · rw [decide_eq_true h4, hk1]; simp [h4]
        · rw [decide_eq_false h4, hk2]; simp [h3, h4]
noncomputable def goodN (s : List UInt8) : Bool := decide (s.length ≤ 253) && (partsS s).all partS
theorem good_range : ∀ (l : List (List UInt8)), (∀ p ∈ l, p.length ≤ 140737488355328) → rangeO (fun (_ : Unit) x => M_label_Good_r1 x) l () = some (if l.all partS = true then .inl () else .inr ())
  | [], _ => rfl
  | p :: l, h => by
    have hp : M_label_Good_r1 p = some (if partS p = true then .inl () else .inr ()) := by
      unfold M_label_Good_r1
      rw [label_part (h p (List.mem_cons_self ..)), Option.bind_some]
      split <;> rfl
    rw [List.all_cons]
    unfold rangeO
    rw [hp]
    cases hh : partS p with
    | true => simp only [if_pos, Bool.true_and]; exact good_range l (fun q hq => h q (List.mem_cons_of_mem _ hq))
    | false => rfl
theorem label_good {s : List UInt8} (hs : s.length ≤ 140737488355328) : M_label_Good s = some (goodN s) := by
  unfold M_label_Good goodN
  by_cases h : (253 : Int) < s.length
  · rw [if_pos h, decide_eq_false (by omega)]; rfl
  · rw [if_neg h, decide_eq_true (by omega), show M_label_parts s = some () from rfl, Option.bind_some, label_parts (by omega), good_range _ (fun p hp => by have := partsF_len _ _ p hp; omega), Option.bind_some]
    cases (partsS s).all partS <;> rfl
/-! ### texts folded -/
def foldC (c : UInt8) : UInt8 := if 65 ≤ c ∧ c ≤ 90 then c ||| 32 else c
def foldS (s : List UInt8) : List UInt8 := s.map foldC
theorem fold_loop09 {s : List UInt8} (hs : s.length ≤ 140737488355328) : ∀ (d k : Nat), s.length = k + d →
    loopO (fun z_ => M_label_Fold_b1 s z_.1 z_.2) ((s.take k).map foldC ++ s.drop k, (k : Int)) = some (foldS s) := by
  intro d
  induction d with
  | zero =>
    intro k h
    rw [loopO_end (r := (s.take k).map foldC ++ s.drop k) (by unfold M_label_Fold_b1; rw [if_neg (by omega)]), List.drop_of_length_le (by omega), List.take_of_length_le (by omega), List.append_nil]; rfl
  | succ d ih =>
    intro k h
    have hk : k < s.length := by omega
    have hlen : ((s.take k).map foldC).length = k := by rw [List.length_map, List.length_take]; omega
    have hx : at? ((s.take k).map foldC ++ s.drop k) (k : Int) = some s[k] := by
      rw [at?_nat, List.getElem?_append_right (by omega), hlen, Nat.sub_self, List.getElem?_drop, Nat.add_zero, List.getElem?_eq_getElem hk]
    have hset : ∀ c : UInt8, ((s.take k).map foldC ++ s.drop k).set k c = (s.take k).map foldC ++ c :: s.drop (k + 1) := by
      intro c
      rw [List.set_append_right _ _ (by omega), hlen, Nat.sub_self, List.drop_eq_getElem_cons hk]; rfl
    have hnext : (s.take (k + 1)).map foldC ++ s.drop (k + 1) = (s.take k).map foldC ++ foldC s[k] :: s.drop (k + 1) := by
      rw [List.take_succ_eq_append_getElem hk, List.map_append, List.append_assoc]; rfl
    have hsame : (s.take k).map foldC ++ s.drop k = (s.take k).map foldC ++ s[k] :: s.drop (k + 1) := by rw [← List.drop_eq_getElem_cons hk]
    have hb : M_label_Fold_b1 s ((s.take k).map foldC ++ s.drop k) (k : Int) = some (.inl ((s.take (k + 1)).map foldC ++ s.drop (k + 1), ((k + 1 : Nat) : Int))) := by
      unfold M_label_Fold_b1 M_label_Fold_k2
      rw [if_pos (by omega), hx, Option.bind_some, hnext]
      by_cases h1 : 65 ≤ s[k]
      · rw [if_pos h1]
        by_cases h2 : s[k] ≤ 90
        · rw [if_pos (decide_eq_true h2), Option.bind_some, if_pos (ok_small (by omega)), show foldC s[k] = s[k] ||| 32 from if_pos ⟨h1, h2⟩, show ((k : Int)).toNat = k from rfl, hset]; rfl
        · rw [if_neg (by simpa using h2), if_pos (ok_small (by omega)), show foldC s[k] = s[k] from if_neg (fun hh => h2 hh.2), ← hsame]; rfl
      · rw [if_neg h1, if_neg (by decide), if_pos (ok_small (by omega)), show foldC s[k] = s[k] from if_neg (fun hh => h1 hh.1), ← hsame]; rfl
    rw [loopO_next hb]
    exact ih (k + 1) (by omega)
theorem label_fold {s : List UInt8} (hs : s.length ≤ 140737488355328) : M_label_Fold s = some (foldS s) := by
  unfold M_label_Fold
  have := fold_loop09 hs s.length 0 (by omega)
  rw [List.take_zero, List.map_nil, List.nil_append, List.drop_zero, show ((0 : Nat) : Int) = 0 from rfl] at this
  rw [if_pos hs, this]; rfl
theorem foldS_len (s : List UInt8) : (foldS s).length = s.length := by unfold foldS; rw [List.length_map]
/-! ### texts between points, byte by byte -/
/-- The texts between points; the first one has begun. -/
def spl (cur : List UInt8) : List UInt8 → List (List UInt8)
  | [] => [cur]
  | c :: t => if c = 46 then cur :: spl [] t else spl (cur ++ [c]) t
theorem spl_cut : ∀ (s cur : List UInt8), spl cur s = if 0 ≤ Lib.indexByte s 46 then (cur ++ s.take (Lib.indexByte s 46).toNat) :: spl [] (s.drop (Lib.indexByte s 46 + 1).toNat) else [cur ++ s]
  | [], cur => by simp [spl, Lib.indexByte]
  | c :: t, cur => by
    have h := spl_cut t (cur ++ [c])
    have hb := idx_lt t 46
    have e : Lib.indexByte (c :: t) 46 = if c = 46 then 0 else if Lib.indexByte t 46 = -1 then -1 else Lib.indexByte t 46 + 1 := by simp [Lib.indexByte]
    rw [e, spl]
    by_cases hc : c = 46
    · simp only [if_pos hc]; simp
    · simp only [if_neg hc]
      rw [h]
      by_cases hi : Lib.indexByte t 46 = -1
      · simp only [hi, reduceIte]; simp
      · simp only [if_neg hi]
        rw [if_pos (by omega), if_pos (by omega)]
        rw [show (Lib.indexByte t 46 + 1).toNat = (Lib.indexByte t 46).toNat + 1 by omega, show (Lib.indexByte t 46 + 1 + 1).toNat = (Lib.indexByte t 46).toNat + 1 + 1 by omega]
        simp
theorem partsF_spl : ∀ (n : Nat) (s : List UInt8), s.length ≤ n → partsF n s = spl [] s
  | 0, s, h => by
    have : s = [] := List.length_eq_zero_iff.1 (by omega)
    subst this; rfl
  | n + 1, s, h => by
    have hb := idx_lt s 46
    rw [spl_cut]
    unfold partsF cutS
    by_cases hi : 0 ≤ Lib.indexByte s 46
    · rw [if_pos hi, if_pos hi, if_pos rfl, partsF_spl n _ (by simp only [List.length_drop]; omega)]; rfl
    · rw [if_neg hi, if_neg hi, if_neg Bool.false_ne_true]; rfl
theorem partsS_spl (s : List UInt8) : partsS s = spl [] s := partsF_spl _ s (Nat.le_refl _)
theorem spl_count : ∀ (s cur : List UInt8), (spl cur s).length ≤ s.length + 1
  | [], cur => by simp [spl]
  | c :: t, cur => by
    unfold spl
    split
    · have := spl_count t []; simp only [List.length_cons]; omega
    · have := spl_count t (cur ++ [c]); simp only [List.length_cons]; omega
theorem partsS_count (s : List UInt8) : (partsS s).length ≤ s.length + 1 := by rw [partsS_spl]; exact spl_count s []
theorem part_len {p : List UInt8} (h : partS p = true) : 1 ≤ p.length ∧ p.length ≤ 63 := by
  unfold partS at h
  rw [Bool.and_eq_true, decide_eq_true_eq] at h
  exact h.1
theorem goodN_iff {s : List UInt8} : goodN s = true ↔ s.length ≤ 253 ∧ ∀ p ∈ partsS s, partS p = true := by
  unfold goodN
  rw [Bool.and_eq_true, decide_eq_true_eq, List.all_eq_true]
/-- The bytes of texts, each behind its length. -/
def wireL : List (List UInt8) → List UInt8
  | [] => []
  | p :: l => UInt8.ofInt (p.length : Int) :: p ++ wireL l
theorem wireL_fold : ∀ (l : List (List UInt8)) (o : List UInt8), l.foldl (fun o p => o ++ UInt8.ofInt (p.length : Int) :: p) o = o ++ wireL l
  | [], o => by simp [wireL]
  | p :: l, o => by
    rw [List.foldl_cons, wireL_fold l]; simp [wireL, List.append_assoc]
theorem wireL_len : ∀ (l : List (List UInt8)), (∀ p ∈ l, p.length ≤ 63) → (wireL l).length ≤ 64 * l.length
  | [], _ => by simp [wireL]
  | p :: l, h => by
    have := wireL_len l (fun q hq => h q (List.mem_cons_of_mem _ hq))
    have := h p (List.mem_cons_self ..)
    simp only [wireL, List.length_cons, List.length_append, List.cons_append]; omega
/-- A name's bytes. -/
def wireS (s : List UInt8) : List UInt8 := wireL (partsS s) ++ [0]
/-! ### signpostref09 -/
theorem ref09_parts_loop {s : List UInt8} (hs : s.length ≤ 1000000) : ∀ (d : Nat) (out : List (List UInt8)) (f i : Nat), s.length = i + d → f ≤ i → out.length ≤ i →
    loopO (fun z_ => M_signpostref09_Parts_b1 s z_.1 z_.2.1 z_.2.2) (out, (f : Int), (i : Int)) = some (out ++ spl ((s.take i).drop f) (s.drop i)) := by
  intro d
  induction d with
  | zero =>
    intro out f i h hf ho
    rw [loopO_next (s' := (out ++ [(s.take i).drop f], ((i + 1 : Nat) : Int), ((i + 1 : Nat) : Int))) (by
        show M_signpostref09_Parts_b1 s out (f : Int) (i : Int) = _
        unfold M_signpostref09_Parts_b1 M_signpostref09_Parts_k2
        rw [if_pos (by omega), if_pos (by omega), if_pos rfl, if_pos (by omega), if_pos (by omega), if_pos (ok_small (by omega)), if_pos (ok_small (by omega))]; rfl),
      loopO_end (r := out ++ [(s.take i).drop f]) (by show M_signpostref09_Parts_b1 s _ ((i + 1 : Nat) : Int) ((i + 1 : Nat) : Int) = _; unfold M_signpostref09_Parts_b1; rw [if_neg (by omega)]), List.drop_of_length_le (by omega : s.length ≤ i)]
    rfl
  | succ d ih =>
    intro out f i h hf ho
    have hk : i < s.length := by omega
    have hb : M_signpostref09_Parts_b1 s out (f : Int) (i : Int) = M_signpostref09_Parts_k2 (f : Int) (i : Int) out s (decide (s[i] = 46)) := by
      unfold M_signpostref09_Parts_b1
      rw [if_pos (by omega), if_neg (by omega), at?_in hk, Option.bind_some]
    rw [List.drop_eq_getElem_cons hk]
    unfold spl
    by_cases hc : s[i] = 46
    · rw [loopO_next (s' := (out ++ [(s.take i).drop f], ((i + 1 : Nat) : Int), ((i + 1 : Nat) : Int))) (by
        show M_signpostref09_Parts_b1 s out (f : Int) (i : Int) = _
        rw [hb, decide_eq_true hc]
        unfold M_signpostref09_Parts_k2
        rw [if_pos rfl, if_pos (by omega), if_pos (by omega), if_pos (ok_small (by omega)), if_pos (ok_small (by omega))]; rfl), ih _ _ _ (by omega) (Nat.le_refl _) (by simp; omega), if_pos hc, show (s.take (i + 1)).drop (i + 1) = [] from List.drop_of_length_le (by rw [List.length_take]; omega), List.append_assoc]
      rfl
    · rw [loopO_next (s' := (out, (f : Int), ((i + 1 : Nat) : Int))) (by
        show M_signpostref09_Parts_b1 s out (f : Int) (i : Int) = _
        rw [hb, decide_eq_false hc]
        unfold M_signpostref09_Parts_k2
        rw [if_neg (by decide), if_pos (ok_small (by omega))]; rfl), ih _ _ _ (by omega) (by omega) (by omega), if_neg hc,
        show (s.take (i + 1)).drop f = (s.take i).drop f ++ [s[i]] by
          rw [List.take_succ_eq_append_getElem hk, List.drop_append_of_le_length (by rw [List.length_take]; omega)]]
theorem ref09_parts {s : List UInt8} (hs : s.length ≤ 1000000) : M_signpostref09_Parts s = some (partsS s) := by
  unfold M_signpostref09_Parts
  have := ref09_parts_loop hs s.length [] 0 0 (by omega) (by omega) (by simp)
  rw [show ((0 : Nat) : Int) = 0 from rfl] at this
  rw [this, Option.bind_some, partsS_spl]
  rfl
theorem ref09_part_step {s : List UInt8} {k : Nat} (hs : s.length ≤ 140737488355328) (hk : k < s.length) : M_signpostref09_Part_b1 s (k : Int) = if plainS s[k] = true then some (.inl ((k : Int) + 1)) else some (.inr (.inr false)) := by
  have hp := label_plain s[k]
  unfold M_label_plain M_label_plain_k1 M_label_plain_k2 at hp
  unfold M_signpostref09_Part_b1 M_signpostref09_letter M_signpostref09_Part_k3 M_signpostref09_Part_k2
  rw [if_pos (by omega), at?_in hk]
  simp only [Option.bind_some]
  rw [if_pos (ok_small (by omega))]
  by_cases h1 : 97 ≤ s[k] <;> by_cases h2 : s[k] ≤ 122 <;> by_cases h3 : 65 ≤ s[k] <;> by_cases h4 : s[k] ≤ 90 <;> by_cases h5 : 48 ≤ s[k] <;> by_cases h6 : s[k] ≤ 57 <;> by_cases h7 : s[k] = 45 <;>
    simp only [h1, h2, h3, h4, h5, h6, h7, if_true, if_false, Option.some.injEq] at hp <;>
    simp only [h1, h2, h3, h4, h5, h6, h7, ← hp, if_true, if_false, Option.bind_some, decide_true, decide_false, Bool.false_eq_true, Bool.not_eq_true', decide_eq_false_iff_not, decide_eq_true_eq, Bool.not_true, Bool.not_false, reduceIte] <;> (try split) <;> simp_all
theorem ref09_part_loop {s : List UInt8} (hs : s.length ≤ 140737488355328) : ∀ (d k : Nat), s.length = k + d →
    loopO (fun z_ => M_signpostref09_Part_b1 s z_) (k : Int) = some (if (s.drop k).all plainS = true then .inl () else .inr false) := by
  intro d
  induction d with
  | zero =>
    intro k h
    rw [loopO_end (r := .inl ()) (by unfold M_signpostref09_Part_b1; rw [if_neg (by omega)]), List.drop_of_length_le (by omega)]; rfl
  | succ d ih =>
    intro k h
    have hk : k < s.length := by omega
    have hb := ref09_part_step hs hk
    rw [List.drop_eq_getElem_cons hk, List.all_cons]
    cases hp : plainS s[k] with
    | true => rw [loopO_next (s' := ((k + 1 : Nat) : Int)) (by show M_signpostref09_Part_b1 s (k : Int) = _; rw [hb, if_pos hp]; rfl), ih (k + 1) (by omega), Bool.true_and]
    | false => rw [loopO_end (r := .inr false) (by show M_signpostref09_Part_b1 s (k : Int) = _; rw [hb, if_neg (by rw [hp]; decide)])]; rfl
theorem ref09_part {s : List UInt8} (hs : s.length ≤ 140737488355328) : M_signpostref09_Part s = some (partS s) := by
  unfold M_signpostref09_Part
  have := ref09_part_loop hs s.length 0 (by omega)
  rw [show ((0 : Nat) : Int) = 0 from rfl, List.drop_zero] at this
  rw [this, Option.bind_some]
  unfold partS
  cases ha : s.all plainS with
  | false => simp
  | true =>
    rw [if_pos rfl]
    simp only []
    by_cases h1 : (1 : Int) ≤ s.length
    · rw [if_pos h1]
      by_cases h2 : (s.length : Int) ≤ 63
      · have h0 : 0 < s.length := by omega
        have hl : s.length - 1 < s.length := by omega
        rw [if_pos h2, decide_eq_true (by omega), show (0 : Int) = ((0 : Nat) : Int) from rfl, at?_in h0, Option.bind_some, if_pos (ok_small (by omega)),
          show (s.length : Int) - 1 = ((s.length - 1 : Nat) : Int) by omega, at?_in hl, Option.bind_some, List.getElem?_eq_getElem h0, List.getElem?_eq_getElem hl]
        by_cases h3 : s[0] = 45
        · rw [if_pos h3]; simp [h3]
        · rw [if_neg h3]; simp [h3]
      · rw [if_neg h2, decide_eq_false (by omega)]; rfl
    · rw [if_neg h1, decide_eq_false (by omega)]; rfl
theorem ref09_good_loop {l : List (List UInt8)} (hl : l.length ≤ 1000001) (h : ∀ p ∈ l, p.length ≤ 140737488355328) : ∀ (d k : Nat), l.length = k + d →
    loopO (fun z_ => M_signpostref09_Good_b1 l z_) (k : Int) = some (if (l.drop k).all partS = true then .inl () else .inr false) := by
  intro d
  induction d with
  | zero =>
    intro k h
    rw [loopO_end (r := .inl ()) (by unfold M_signpostref09_Good_b1; rw [if_neg (by omega)]), List.drop_of_length_le (by omega)]; rfl
  | succ d ih =>
    intro k h1
    have hk : k < l.length := by omega
    have hb : M_signpostref09_Good_b1 l (k : Int) = if partS l[k] = true then some (.inl ((k : Int) + 1)) else some (.inr (.inr false)) := by
      unfold M_signpostref09_Good_b1
      rw [if_pos (by omega), at?_in hk, Option.bind_some, ref09_part (h _ (List.getElem_mem hk)), Option.bind_some, if_pos (ok_small (by omega))]
    rw [List.drop_eq_getElem_cons hk, List.all_cons]
    cases hp : partS l[k] with
    | true => rw [loopO_next (s' := ((k + 1 : Nat) : Int)) (by show M_signpostref09_Good_b1 l (k : Int) = _; rw [hb, if_pos hp]; rfl), ih (k + 1) (by omega), Bool.true_and]
    | false => rw [loopO_end (r := .inr false) (by show M_signpostref09_Good_b1 l (k : Int) = _; rw [hb, if_neg (by rw [hp]; decide)])]; rfl
theorem ref09_good {s : List UInt8} (hs : s.length ≤ 1000000) : M_signpostref09_Good s = some (goodN s) := by
  have hc := partsS_count s
  unfold M_signpostref09_Good
  have := ref09_good_loop (l := partsS s) (by omega) (fun p hp => by have := partsF_len _ _ p hp; omega) (partsS s).length 0 (by omega)
  rw [show ((0 : Nat) : Int) = 0 from rfl, List.drop_zero] at this
  rw [ref09_parts hs, Option.bind_some, this, Option.bind_some]
  unfold goodN
  cases (partsS s).all partS with
  | false => simp
  | true =>
    rw [if_pos rfl]
    simp only []
    rw [if_pos (ok_small (by omega)), Bool.and_true]
    exact congrArg some (decide_eq_decide.2 (by omega))
theorem fold09_byte (c : UInt8) (h1 : 65 ≤ c) (h2 : c ≤ 90) : c + 97 - 65 = c ||| 32 := by
  have key : ∀ n : Fin 256, 65 ≤ n.val → n.val ≤ 90 → UInt8.ofNat n.val + 97 - 65 = UInt8.ofNat n.val ||| 32 := by decide +kernel
  have hc := c.toNat_lt
  have := key ⟨c.toNat, hc⟩ (UInt8.le_iff_toNat_le.1 h1) (UInt8.le_iff_toNat_le.1 h2)
  simpa using this
theorem ref09_fold_loop {s : List UInt8} (hs : s.length ≤ 140737488355328) : ∀ (d k : Nat), s.length = k + d →
    loopO (fun z_ => M_signpostref09_Fold_b1 s z_.1 z_.2) ((s.take k).map foldC ++ s.drop k, (k : Int)) = some (foldS s) := by
  intro d
  induction d with
  | zero =>
    intro k h
    rw [loopO_end (r := (s.take k).map foldC ++ s.drop k) (by unfold M_signpostref09_Fold_b1; rw [if_neg (by omega)]), List.drop_of_length_le (by omega), List.take_of_length_le (by omega), List.append_nil]; rfl
  | succ d ih =>
    intro k h
    have hk : k < s.length := by omega
    have hlen : ((s.take k).map foldC).length = k := by rw [List.length_map, List.length_take]; omega
    have hx : at? ((s.take k).map foldC ++ s.drop k) (k : Int) = some s[k] := by
      rw [at?_nat, List.getElem?_append_right (by omega), hlen, Nat.sub_self, List.getElem?_drop, Nat.add_zero, List.getElem?_eq_getElem hk]
    have hset : ∀ c : UInt8, ((s.take k).map foldC ++ s.drop k).set k c = (s.take k).map foldC ++ c :: s.drop (k + 1) := by
      intro c
      rw [List.set_append_right _ _ (by omega), hlen, Nat.sub_self, List.drop_eq_getElem_cons hk]; rfl
    have hnext : (s.take (k + 1)).map foldC ++ s.drop (k + 1) = (s.take k).map foldC ++ foldC s[k] :: s.drop (k + 1) := by
      rw [List.take_succ_eq_append_getElem hk, List.map_append, List.append_assoc]; rfl
    have hsame : (s.take k).map foldC ++ s.drop k = (s.take k).map foldC ++ s[k] :: s.drop (k + 1) := by rw [← List.drop_eq_getElem_cons hk]
    have hb : M_signpostref09_Fold_b1 s ((s.take k).map foldC ++ s.drop k) (k : Int) = some (.inl ((s.take (k + 1)).map foldC ++ s.drop (k + 1), ((k + 1 : Nat) : Int))) := by
      unfold M_signpostref09_Fold_b1 M_signpostref09_Fold_k2
      rw [if_pos (by omega), hx, Option.bind_some, hnext]
      by_cases h1 : 65 ≤ s[k]
      · rw [if_pos h1]
        by_cases h2 : s[k] ≤ 90
        · rw [if_pos (decide_eq_true h2), Option.bind_some, if_pos (ok_small (by omega)), fold09_byte _ h1 h2, show foldC s[k] = s[k] ||| 32 from if_pos ⟨h1, h2⟩, show ((k : Int)).toNat = k from rfl, hset]; rfl
        · rw [if_neg (by simpa using h2), if_pos (ok_small (by omega)), show foldC s[k] = s[k] from if_neg (fun hh => h2 hh.2), ← hsame]; rfl
      · rw [if_neg h1, if_neg (by decide), if_pos (ok_small (by omega)), show foldC s[k] = s[k] from if_neg (fun hh => h1 hh.1), ← hsame]; rfl
    rw [loopO_next hb]
    exact ih (k + 1) (by omega)
theorem ref09_fold {s : List UInt8} (hs : s.length ≤ 140737488355328) : M_signpostref09_Fold s = some (foldS s) := by
  unfold M_signpostref09_Fold
  have := ref09_fold_loop hs s.length 0 (by omega)
  rw [List.take_zero, List.map_nil, List.nil_append, List.drop_zero, show ((0 : Nat) : Int) = 0 from rfl] at this
  rw [if_pos hs, this]; rfl
/-! ### octet -/
theorem octet_may (w : Int) : M_octet_may w = some (decide (1 ≤ w ∧ w ≤ 8)) := by
  unfold M_octet_may
  by_cases h : 1 ≤ w <;> simp [h]
/-! ### numbers put -/
/-- The bytes of a number, so many, the most significant first. -/
def putF (n : UInt64) : Nat → List UInt8
  | 0 => []
  | d + 1 => (shr64 n (8 * d)).toUInt8 :: putF n d
theorem putF_len (n : UInt64) : ∀ d, (putF n d).length = d
  | 0 => rfl
  | d + 1 => by rw [putF, List.length_cons, putF_len n d]
theorem put_loop {n : UInt64} {w : Nat} (hw : w ≤ 8) : ∀ (d k : Nat) (out : List UInt8), w = k + d → out.length + d ≤ 140737488355328 →
    loopO (fun z_ => M_octet_Put_v_b1 n (w : Int) z_.1 z_.2) (out, (k : Int)) = some (out ++ putF n d) := by
  intro d
  induction d with
  | zero =>
    intro k out h ho
    rw [loopO_end (r := out) (by unfold M_octet_Put_v_b1; rw [if_neg (by omega)]), putF, List.append_nil]
  | succ d ih =>
    intro k out h ho
    have e : (UInt64.ofInt (8 * (((w : Int) - 1) - (k : Int)))).toNat = 8 * d := by
      rw [show (8 * (((w : Int) - 1) - (k : Int)) : Int) = ((8 * d : Nat) : Int) by omega]
      rw [show UInt64.ofInt ((8 * d : Nat) : Int) = UInt64.ofNat (8 * d) by
        apply UInt64.toNat_inj.1
        simp [UInt64.ofInt, UInt64.toNat_ofNat']; omega, UInt64.toNat_ofNat']
      omega
    rw [loopO_next (s' := (out ++ [(shr64 n (8 * d)).toUInt8], ((k + 1 : Nat) : Int))) (by
      show M_octet_Put_v_b1 n (w : Int) out (k : Int) = _
      unfold M_octet_Put_v_b1
      rw [if_pos (by omega), if_pos (ok_small (by omega)), if_pos (ok_small (by omega)), if_pos (ok_small (by omega)), if_pos (by omega), if_pos (ok_small (by omega)), e]; rfl),
      ih (k + 1) _ (by omega) (by rw [List.length_append, List.length_singleton]; omega), putF, List.append_assoc]
    rfl
theorem octet_put {b : List UInt8} {n : UInt64} {w : Int} (hb : b.length ≤ 140737488355320) : M_octet_Put_v b n w = some (if 1 ≤ w ∧ w ≤ 8 then b ++ putF n w.toNat else b) := by
  unfold M_octet_Put_v
  rw [if_pos (by omega), octet_may, Option.bind_some]
  by_cases h : 1 ≤ w ∧ w ≤ 8
  · have hl := put_loop (n := n) (w := w.toNat) (by omega) w.toNat 0 b (by omega) (by omega)
    rw [show ((w.toNat : Nat) : Int) = w by omega, show ((0 : Nat) : Int) = 0 from rfl] at hl
    rw [if_pos (decide_eq_true h), if_pos h, List.nil_append, hl]
    rfl
  · rw [if_neg (by simpa using h), if_neg h]; rfl
theorem num_put (n : UInt64) : ∀ (d : Nat) (s : UInt64), ((putF n d).foldl (fun n x => n * 256 + x.toUInt64) s).toNat = (s.toNat * 256 ^ d + n.toNat % 256 ^ d) % 18446744073709551616
  | 0, s => by
    have := s.toNat_lt
    simp [putF, Nat.mod_one]
  | d + 1, s => by
    have hn := n.toNat_lt
    rw [putF, List.foldl_cons, num_put n d]
    have e0 : (256 : Nat) ^ d = 2 ^ (8 * d) := by rw [Nat.pow_mul]
    have e1 : ((shr64 n (8 * d)).toUInt8).toUInt64.toNat = n.toNat / 256 ^ d % 256 := by
      rw [e0]
      have : n.toNat / 2 ^ (8 * d) ≤ n.toNat := Nat.div_le_self _ _
      simp [shr64]
    rw [UInt64.toNat_add, UInt64.toNat_mul, e1, show (256 : UInt64).toNat = 256 from rfl]
    have e2 : n.toNat % 256 ^ (d + 1) = n.toNat % 256 ^ d + 256 ^ d * (n.toNat / 256 ^ d % 256) := by rw [Nat.pow_succ, Nat.mod_mul]
    rw [e2]
    have e3 : (s.toNat * 256 % 2 ^ 64 + n.toNat / 256 ^ d % 256) % 2 ^ 64 = (s.toNat * 256 + n.toNat / 256 ^ d % 256) % 18446744073709551616 := by omega
    rw [e3, Nat.add_mod, Nat.mul_mod, Nat.mod_mod, ← Nat.mul_mod, ← Nat.add_mod]
    congr 1
    rw [Nat.pow_succ, Nat.add_mul]
    generalize 256 ^ d = q
    generalize n.toNat / q % 256 = y
    generalize n.toNat % q = z
    rw [Nat.mul_comm q y, Nat.mul_comm q 256, ← Nat.mul_assoc]
    omega
/-! ### instances -/
noncomputable def goodI (i : G_api_Instance) : Bool := decide (1 ≤ i.Life ∧ i.Life ≤ 2147483647) && (if i.Gone = true then decide (i.Priority = 0 ∧ i.Weight = 0 ∧ i.Port = 0 ∧ i.Target = []) else !decide (i.Port = 0) && (goodN i.Target && decide (foldS i.Target = i.Target)))
theorem inst_good {i : G_api_Instance} (h : i.Target.length ≤ 140737488355328) : M_inst_Good i = some (goodI i) := by
  have hk1 : M_inst_Good_k1 i true = some false := rfl
  have hm : i.Target.length ≤ maxLen := by simp only [maxLen]; omega
  unfold M_inst_Good goodI
  by_cases h1 : i.Life < 1
  · rw [if_pos h1, hk1, decide_eq_false (fun hh => absurd h1 (UInt32.not_lt.2 hh.1))]; rfl
  · rw [if_neg h1]
    by_cases h2 : 2147483647 < i.Life
    · rw [decide_eq_true h2, hk1, decide_eq_false (fun hh => absurd h2 (UInt32.not_lt.2 hh.2))]; rfl
    · rw [decide_eq_false h2, decide_eq_true ⟨UInt32.not_lt.1 h1, UInt32.not_lt.1 h2⟩, Bool.true_and]
      unfold M_inst_Good_k1
      rw [if_neg (by decide)]
      by_cases hg : i.Gone = true
      · rw [if_pos hg, if_pos hg, if_pos hm]
        refine congrArg some (decide_eq_decide.2 ?_)
        cases i
        simp only [G_api_Instance.mk.injEq, true_and]
        constructor
        · rintro ⟨a, b, c, d⟩; exact ⟨a.symm, b.symm, c.symm, d.symm⟩
        · rintro ⟨a, b, c, d⟩; exact ⟨a.symm, b.symm, c.symm, d.symm⟩
      · rw [if_neg hg, if_neg hg]
        by_cases hp : i.Port = 0
        · rw [if_pos hp, decide_eq_true hp]; rfl
        · rw [if_neg hp, decide_eq_false hp, label_good h, Option.bind_some]
          cases goodN i.Target with
          | false => rfl
          | true => rw [if_pos rfl, label_fold h, Option.bind_some]; rfl
/-- What a target may at most be. -/
theorem goodI_len {i : G_api_Instance} (h : goodI i = true) : i.Target.length ≤ 253 := by
  unfold goodI at h
  rw [Bool.and_eq_true] at h
  by_cases hg : i.Gone = true
  · rw [if_pos hg] at h
    rw [(of_decide_eq_true h.2).2.2.2]; simp
  · rw [if_neg hg, Bool.and_eq_true, Bool.and_eq_true] at h
    exact (goodN_iff.1 h.2.2.1).1
/-! ### their bytes -/
def tailI (i : G_api_Instance) : List UInt8 := if i.Gone = true then putF 1 1 else putF 0 1 ++ (putF i.Priority.toUInt64 2 ++ (putF i.Weight.toUInt64 2 ++ (putF i.Port.toUInt64 2 ++ (putF (UInt64.ofInt (i.Target.length : Int)) 2 ++ i.Target))))
def bytesI (i : G_api_Instance) : List UInt8 := List.ofFn i.Publisher ++ (putF i.Seq 8 ++ (putF i.Born 8 ++ (putF i.Life.toUInt64 4 ++ tailI i)))
theorem inst_put {x : List UInt8} {n : UInt64} {w : Int} (hx : x.length ≤ 1000000) (hw : 1 ≤ w ∧ w ≤ 8) : M_inst_Bytes_1_po n w x = some (x ++ putF n w.toNat) := by
  unfold M_inst_Bytes_1_po
  rw [octet_put (by omega), if_pos hw]; rfl
theorem octet_text {b s : List UInt8} (hb : b.length ≤ 1000000) (hs : s.length ≤ 1024) : M_octet_Text_v b s = some (b ++ putF (UInt64.ofInt (s.length : Int)) 2 ++ s, 0) := by
  unfold M_octet_Text_v
  rw [if_neg (by omega), octet_put (by omega), if_pos (by decide), Option.bind_some, if_pos (by rw [List.length_append, putF_len]; simp only [show (2 : Int).toNat = 2 from rfl]; omega)]; rfl
theorem inst_bytes {i : G_api_Instance} (h : i.Target.length ≤ 140737488355328) : M_inst_Bytes i = some (if goodI i = true then (bytesI i, 0) else ([], 2)) := by
  unfold M_inst_Bytes
  rw [inst_good h, Option.bind_some]
  by_cases hg : goodI i = true
  · have hl := goodI_len hg
    have h20 : (List.ofFn i.Publisher).length = 20 := by simp
    rw [if_pos hg, if_pos hg]
    unfold M_bytes_Clone_v
    rw [if_pos (by rw [h20]; decide), Option.bind_some, List.nil_append, inst_put (by omega) (by decide), Option.bind_some, inst_put (by simp [putF_len]) (by decide), Option.bind_some, inst_put (by simp [putF_len]) (by decide), Option.bind_some]
    unfold bytesI tailI
    by_cases hgo : i.Gone = true
    · rw [if_pos hgo, if_pos hgo, inst_put (by simp [putF_len]) (by decide), Option.bind_some]
      simp only [List.append_assoc]; rfl
    · rw [if_neg hgo, if_neg hgo, inst_put (by simp [putF_len]) (by decide), Option.bind_some, inst_put (by simp [putF_len]) (by decide), Option.bind_some, inst_put (by simp [putF_len]) (by decide), Option.bind_some, inst_put (by simp [putF_len]) (by decide), Option.bind_some,
        octet_text (by simp [putF_len]) (by omega), Option.bind_some]
      simp only [List.append_assoc]; rfl
  · rw [if_neg hg, if_neg hg]
/-! ### the chapter's example -/
theorem lives11 : M_signpostlaw11_lives = some true := by
  have hp : partsS [97] = [[97]] := by decide
  have hg : goodI (G_api_Instance.mk (fun _ => 0) 0 5 3 false 0 0 80 ([97] : List UInt8)) = true := by
    unfold goodI goodN; rw [hp]; decide
  unfold M_signpostlaw11_lives
  rw [inst_bytes (by decide), if_pos hg, Option.bind_some]
  simp only []
  rw [inst_good (by decide), hg, Option.bind_some, if_pos rfl]
  rfl
theorem ref01_put_loop {n : UInt64} : ∀ (d : Nat) (out : List UInt8), d ≤ 8 → out.length + d ≤ 140737488355328 →
    loopO (fun z_ => M_signpostref01_Put_v_b2 n z_.1 z_.2) (out, (d : Int) - 1) = some (out ++ putF n d)
  | 0, out, _, _ => by
    rw [loopO_end (r := out) (by show M_signpostref01_Put_v_b2 n out (((0 : Nat) : Int) - 1) = _; unfold M_signpostref01_Put_v_b2; rw [if_neg (by decide)]), putF, List.append_nil]
  | d + 1, out, h, ho => by
    have e : (UInt64.ofInt (8 * (((d + 1 : Nat) : Int) - 1))).toNat = 8 * d := by
      rw [show (8 * (((d + 1 : Nat) : Int) - 1) : Int) = ((8 * d : Nat) : Int) by omega]
      rw [show UInt64.ofInt ((8 * d : Nat) : Int) = UInt64.ofNat (8 * d) by
        apply UInt64.toNat_inj.1
        simp [UInt64.ofInt, UInt64.toNat_ofNat']; omega, UInt64.toNat_ofNat']
      omega
    rw [loopO_next (s' := (out ++ [(shr64 n (8 * d)).toUInt8], (d : Int) - 1)) (by
      show M_signpostref01_Put_v_b2 n out (((d + 1 : Nat) : Int) - 1) = _
      unfold M_signpostref01_Put_v_b2
      rw [if_pos (by omega), if_pos (ok_small (by omega)), if_pos (by omega), if_pos (ok_small (by omega)), e, show ((d + 1 : Nat) : Int) - 1 - 1 = (d : Int) - 1 by omega]),
      ref01_put_loop d _ (by omega) (by rw [List.length_append, List.length_singleton]; omega), putF, List.append_assoc]
    rfl
theorem ref01_put {b : List UInt8} {n : UInt64} {w : Int} (hb : b.length ≤ 1000000) (hw : 1 ≤ w ∧ w ≤ 8) : M_signpostref01_Put_v b n w = some (b ++ putF n w.toNat) := by
  unfold M_signpostref01_Put_v
  rw [if_pos (by omega), if_neg (by omega), decide_eq_false (by omega)]
  unfold M_signpostref01_Put_v_k1
  have hl := ref01_put_loop (n := n) w.toNat b (by omega) (by omega)
  rw [show ((w.toNat : Nat) : Int) = w by omega] at hl
  rw [if_neg (by decide), if_pos (ok_small (by omega)), List.nil_append, hl]; rfl
theorem ref01_text {b s : List UInt8} (hb : b.length ≤ 1000000) (hs : s.length ≤ 1024) : M_signpostref01_Text_v b s = some (b ++ putF (UInt64.ofInt (s.length : Int)) 2 ++ s, 0) := by
  unfold M_signpostref01_Text_v
  rw [if_neg (by omega), ref01_put (by omega) (by decide), Option.bind_some, if_pos (by rw [List.length_append, putF_len]; simp only [show (2 : Int).toNat = 2 from rfl]; omega)]; rfl
/-! ### signpostref11 -/
theorem ref11_good {i : G_api_Instance} (h : i.Target.length ≤ 1000000) : M_signpostref11_Good i = some (goodI i) := by
  have hk1 : M_signpostref11_Good_k1 i true = some false := rfl
  unfold M_signpostref11_Good goodI
  by_cases h1 : i.Life < 1
  · rw [if_pos h1, hk1, decide_eq_false (fun hh => absurd h1 (UInt32.not_lt.2 hh.1))]; rfl
  · rw [if_neg h1]
    by_cases h2 : 2147483647 < i.Life
    · rw [decide_eq_true h2, hk1, decide_eq_false (fun hh => absurd h2 (UInt32.not_lt.2 hh.2))]; rfl
    · rw [decide_eq_false h2, decide_eq_true ⟨UInt32.not_lt.1 h1, UInt32.not_lt.1 h2⟩, Bool.true_and]
      unfold M_signpostref11_Good_k1 M_signpostref11_Good_k2
      rw [if_neg (by decide)]
      by_cases hg : i.Gone = true
      · rw [if_pos hg, if_pos hg]
        by_cases h3 : i.Priority = 0
        · by_cases h4 : i.Weight = 0
          · by_cases h5 : i.Port = 0
            · simp [h3, h4, h5]
            · simp [h3, h4, h5]
          · simp [h3, h4]
        · simp [h3]
      · rw [if_neg hg, if_neg hg]
        by_cases hp : i.Port = 0
        · rw [if_pos hp, decide_eq_true hp]; rfl
        · rw [if_neg hp, decide_eq_false hp, ref09_good h, Option.bind_some]
          cases goodN i.Target with
          | false => rfl
          | true => rw [if_pos rfl, ref09_fold (by omega), Option.bind_some]; rfl
theorem ref11_bytes {i : G_api_Instance} (h : i.Target.length ≤ 1000000) : M_signpostref11_Bytes i = some (if goodI i = true then (bytesI i, 0) else ([], 2)) := by
  unfold M_signpostref11_Bytes
  rw [ref11_good h, Option.bind_some]
  by_cases hg : goodI i = true
  · have hl := goodI_len hg
    have h20 : (List.ofFn i.Publisher).length = 20 := by simp
    rw [if_pos hg, if_pos hg]
    rw [if_pos (by decide), List.nil_append, ref01_put (by omega) (by decide), Option.bind_some, ref01_put (by simp [putF_len]) (by decide), Option.bind_some, ref01_put (by simp [putF_len]) (by decide), Option.bind_some]
    unfold bytesI tailI
    by_cases hgo : i.Gone = true
    · rw [if_pos hgo, if_pos hgo, if_pos (by simp [putF_len])]
      simp only [List.append_assoc]; rfl
    · rw [if_neg hgo, if_neg hgo, if_pos (by simp [putF_len]), ref01_put (by simp [putF_len]) (by decide), Option.bind_some, ref01_put (by simp [putF_len]) (by decide), Option.bind_some, ref01_put (by simp [putF_len]) (by decide), Option.bind_some,
        ref01_text (by simp [putF_len]) (by omega), Option.bind_some]
      simp only [List.append_assoc]; rfl
  · rw [if_neg hg, if_neg hg]
/-! ### newer -/
theorem compare_ltS : ∀ (a b : List UInt8), Lib.compareBytes a b = if ltS a b = true then -1 else if (ltS a b || decide (a = b)) = true then 0 else 1
  | [], [] => by decide
  | [], _ :: _ => by simp [Lib.compareBytes, ltS, Op.bytesLess]
  | _ :: _, [] => by simp [Lib.compareBytes, ltS, Op.bytesLess]
  | a :: x, b :: y => by
    have h := compare_ltS x y
    unfold ltS at h ⊢
    unfold Lib.compareBytes
    rw [Op.bytesLess]
    by_cases h1 : a < b
    · simp [h1]
    · by_cases h2 : b < a
      · have h3 : a ≠ b := fun e => by subst e; exact UInt8.lt_irrefl _ h2
        simp [h1, h2, h3]
      · have h3 : a = b := UInt8.le_antisymm (UInt8.not_lt.1 h2) (UInt8.not_lt.1 h1)
        subst h3
        simp [h1, h]
theorem cmp_bits (a b : Bool) : (M_inst_bit a).bind (fun x => (M_inst_bit b).bind fun y => M_cmp_Compare_int x y) = (M_signpostref11_bit a).bind (fun x => (M_signpostref11_bit b).bind fun y => M_signpostref11_cmp x y) := by
  cases a <;> cases b <;> rfl
theorem cmp_32 (a b : UInt32) : M_cmp_Compare_uint32 a b = M_signpostref11_cmp a.toUInt64 b.toUInt64 := by
  unfold M_cmp_Compare_uint32 M_signpostref11_cmp M_cmp_isNaN_uint32
  simp only [some_bindP, UInt64.lt_iff_toNat_lt, UInt32.lt_iff_toNat_lt, UInt32.toNat_toUInt64]
theorem cmp_16 (a b : UInt16) : M_cmp_Compare_uint16 a b = M_signpostref11_cmp a.toUInt64 b.toUInt64 := by
  unfold M_cmp_Compare_uint16 M_signpostref11_cmp M_cmp_isNaN_uint16
  simp only [some_bindP, UInt64.lt_iff_toNat_lt, UInt16.lt_iff_toNat_lt, UInt16.toNat_toUInt64]
theorem cmp_64 (a b : UInt64) : M_cmp_Compare_uint64 a b = M_signpostref11_cmp a b := rfl
theorem cmp_some (a b : UInt64) : ∃ x, M_signpostref11_cmp a b = some x := by
  unfold M_signpostref11_cmp
  split
  · exact ⟨_, rfl⟩
  · split
    · exact ⟨_, rfl⟩
    · exact ⟨_, rfl⟩
theorem cmp_txt (a b : List UInt8) : M_signpostref11_bytes a b = some (Lib.compareBytes a b) := by
  rw [compare_ltS]; unfold M_signpostref11_bytes
  split
  · rfl
  · split <;> rfl
theorem cmp_str (a b : List UInt8) : M_cmp_Compare_string a b = M_signpostref11_bytes a b := rfl
theorem or_loop (vals : List Int) (hv : vals.length ≤ 1000000) : ∀ (d k : Nat), vals.length = k + d → ∃ r, loopO (fun z_ => M_cmp_Or_int_v_b1 vals z_) (k : Int) = some r := by
  intro d
  induction d with
  | zero =>
    intro k h
    exact ⟨_, loopO_end (r := .inl ()) (by unfold M_cmp_Or_int_v_b1; rw [if_neg (by omega)])⟩
  | succ d ih =>
    intro k h
    have hk : k < vals.length := by omega
    by_cases hz : vals[k] = 0
    · rw [loopO_next (s' := ((k + 1 : Nat) : Int)) (by unfold M_cmp_Or_int_v_b1; rw [if_pos (by omega), at?_in hk, Option.bind_some, if_pos hz, if_pos (ok_small (by omega))]; rfl)]
      exact ih (k + 1) (by omega)
    · exact ⟨_, loopO_end (r := .inr vals[k]) (by unfold M_cmp_Or_int_v_b1; rw [if_pos (by omega), at?_in hk, Option.bind_some, if_neg hz])⟩
theorem or_some (vals : List Int) (hv : vals.length ≤ 1000000) : ∃ x, M_cmp_Or_int_v vals = some x := by
  obtain ⟨r, hr⟩ := or_loop vals hv vals.length 0 (by omega)
  rw [show ((0 : Nat) : Int) = 0 from rfl] at hr
  unfold M_cmp_Or_int_v
  rw [hr, Option.bind_some]
  cases r <;> exact ⟨_, rfl⟩
theorem inst_cmp (a b : G_api_Instance) : ∃ x, M_inst_Cmp a b = some x ∧ M_signpostref11_Cmp a b = some x := by
  obtain ⟨x1, h1⟩ := cmp_some a.Seq b.Seq
  obtain ⟨x2, h2⟩ : ∃ x, (M_signpostref11_bit a.Gone).bind (fun x => (M_signpostref11_bit b.Gone).bind fun y => M_signpostref11_cmp x y) = some x := by
    cases a.Gone <;> cases b.Gone <;> exact ⟨_, rfl⟩
  have h2' := (cmp_bits a.Gone b.Gone).trans h2
  obtain ⟨x3, h3⟩ := cmp_some a.Born b.Born
  obtain ⟨x4, h4⟩ := cmp_some a.Life.toUInt64 b.Life.toUInt64
  obtain ⟨x6, h6⟩ := cmp_some a.Priority.toUInt64 b.Priority.toUInt64
  obtain ⟨x7, h7⟩ := cmp_some a.Weight.toUInt64 b.Weight.toUInt64
  obtain ⟨x8, h8⟩ := cmp_some a.Port.toUInt64 b.Port.toUInt64
  obtain ⟨r, hr⟩ := or_some [x1, x2, x3, x4, Lib.compareBytes (List.ofFn a.Publisher) (List.ofFn b.Publisher), x6, x7, x8, Lib.compareBytes a.Target b.Target] (by simp)
  refine ⟨r, ?_, ?_⟩
  · have e : M_inst_Cmp a b = (M_cmp_Compare_uint64 a.Seq b.Seq).bind fun r1_2 => ((M_inst_bit a.Gone).bind fun x => (M_inst_bit b.Gone).bind fun y => M_cmp_Compare_int x y).bind fun r1_5 =>
        (M_cmp_Compare_uint64 a.Born b.Born).bind fun r1_6 => (M_cmp_Compare_uint32 a.Life b.Life).bind fun r1_7 => (M_cmp_Compare_uint16 a.Priority b.Priority).bind fun r1_8 => (M_cmp_Compare_uint16 a.Weight b.Weight).bind fun r1_9 =>
        (M_cmp_Compare_uint16 a.Port b.Port).bind fun r1_10 => (M_cmp_Compare_string a.Target b.Target).bind fun r1_11 =>
        (M_cmp_Or_int_v [r1_2, r1_5, r1_6, r1_7, Lib.compareBytes (List.ofFn a.Publisher) (List.ofFn b.Publisher), r1_8, r1_9, r1_10, r1_11]) := by
      unfold M_inst_Cmp M_bytes_Compare_vv
      cases a.Gone <;> cases b.Gone <;> simp [M_inst_bit]
    rw [e, cmp_64, h1, Option.bind_some, h2', Option.bind_some, cmp_64, h3, Option.bind_some, cmp_32, h4, Option.bind_some, cmp_16, h6, Option.bind_some, cmp_16, h7, Option.bind_some, cmp_16, h8, Option.bind_some, cmp_str, cmp_txt, Option.bind_some, hr]
  · have e : M_signpostref11_Cmp a b = (M_signpostref11_cmp a.Seq b.Seq).bind fun r1_2 => ((M_signpostref11_bit a.Gone).bind fun x => (M_signpostref11_bit b.Gone).bind fun y => M_signpostref11_cmp x y).bind fun r1_5 =>
        (M_signpostref11_cmp a.Born b.Born).bind fun r1_6 => (M_signpostref11_cmp a.Life.toUInt64 b.Life.toUInt64).bind fun r1_7 => (M_signpostref11_bytes (List.ofFn a.Publisher) (List.ofFn b.Publisher)).bind fun r1_8 =>
        (M_signpostref11_cmp a.Priority.toUInt64 b.Priority.toUInt64).bind fun r1_9 => (M_signpostref11_cmp a.Weight.toUInt64 b.Weight.toUInt64).bind fun r1_10 =>
        (M_signpostref11_cmp a.Port.toUInt64 b.Port.toUInt64).bind fun r1_11 => (M_signpostref11_bytes a.Target b.Target).bind fun r1_12 =>
        (M_cmp_Or_int_v [r1_2, r1_5, r1_6, r1_7, r1_8, r1_9, r1_10, r1_11, r1_12]) := by
      unfold M_signpostref11_Cmp
      cases a.Gone <;> cases b.Gone <;> simp only [M_signpostref11_bit, Option.bind_some, if_true, Bool.false_eq_true, if_false] <;> rfl
    rw [e, h1, Option.bind_some, h2, Option.bind_some, h3, Option.bind_some, h4, Option.bind_some, cmp_txt, Option.bind_some, h6, Option.bind_some, h7, Option.bind_some, h8, Option.bind_some, cmp_txt, Option.bind_some, hr]
/-! ### ticks -/
def endI (i : G_api_Instance) : UInt64 := if (18446744073709551615 - i.Life.toUInt64) < i.Born then 18446744073709551615 else i.Born + i.Life.toUInt64
theorem inst_end (i : G_api_Instance) : M_inst_End i = some (endI i) := by unfold M_inst_End endI; split <;> rfl
theorem ref11_end (i : G_api_Instance) : M_signpostref11_End i = some (endI i) := by unfold M_signpostref11_End endI; split <;> rfl
def aliveI (i : G_api_Instance) (now : UInt64) : Bool := decide (i.Born ≤ now) && decide (now < endI i)
theorem inst_alive (i : G_api_Instance) (now : UInt64) : M_inst_Alive i now = some (aliveI i now) := by
  unfold M_inst_Alive M_inst_Over aliveI
  rw [inst_end, Option.bind_some, Option.bind_some]
  by_cases h : i.Born ≤ now
  · rw [if_pos h, decide_eq_true h, Bool.true_and, ← decide_not]
    exact congrArg some (decide_eq_decide.2 UInt64.not_le)
  · rw [if_neg h, decide_eq_false h]; rfl
theorem ref11_alive (i : G_api_Instance) (now : UInt64) : M_signpostref11_Alive i now = some (aliveI i now) := by
  unfold M_signpostref11_Alive aliveI
  rw [ref11_end, Option.bind_some]
  by_cases h : i.Born ≤ now
  · rw [if_pos h, decide_eq_true h, Bool.true_and]
  · rw [if_neg h, decide_eq_false h]; rfl
def leftI (i : G_api_Instance) (now : UInt64) : UInt32 := if aliveI i now = true then (endI i - now).toUInt32 else 0
theorem inst_left (i : G_api_Instance) (now : UInt64) : M_inst_Left i now = some (leftI i now) := by
  unfold M_inst_Left leftI
  rw [inst_alive, Option.bind_some, inst_end, Option.bind_some]; split <;> rfl
theorem ref11_left (i : G_api_Instance) (now : UInt64) : M_signpostref11_Left i now = some (leftI i now) := by
  unfold M_signpostref11_Left leftI
  rw [ref11_alive, Option.bind_some, ref11_end, Option.bind_some]; split <;> rfl
def stoneI (i : G_api_Instance) : G_api_Instance := G_api_Instance.mk i.Publisher (if i.Seq = 18446744073709551615 then i.Seq else i.Seq + 1) i.Born i.Life true 0 0 0 []
theorem inst_stone (i : G_api_Instance) : M_inst_Stone i = some (stoneI i) := by unfold M_inst_Stone stoneI; split <;> rfl
theorem ref11_stone (i : G_api_Instance) : M_signpostref11_Stone i = some (stoneI i) := by
  unfold M_signpostref11_Stone stoneI
  have hb := i.Seq.toNat_lt
  by_cases h : i.Seq = 18446744073709551615
  · rw [if_neg (by rw [h]; decide), if_pos h]
  · have h1 : i.Seq.toNat ≠ 18446744073709551615 := fun e => h (UInt64.toNat_inj.1 e)
    rw [if_pos (UInt64.lt_iff_toNat_lt.2 (by show i.Seq.toNat < 18446744073709551615; omega)), if_neg h]
/-! ### the statement -/
theorem stone_len (a : G_api_Instance) : (stoneI a).Target.length ≤ maxLen := by
  show ([] : List UInt8).length ≤ maxLen
  rw [List.length_nil]; exact Nat.zero_le _
theorem tells_k1 (a b : G_api_Instance) (now : UInt64) : M_signpostlaw11_InstTells_k1 a b now false = some true := by
  obtain ⟨x, hx1, hx2⟩ := inst_cmp a b
  have hs := stone_len a
  unfold M_signpostlaw11_InstTells_k1 M_inst_Over M_signpostref11_Over
  rw [if_neg (by decide), inst_left, ref11_left, inst_end, ref11_end, hx1, hx2, inst_stone, ref11_stone, lives11]
  generalize stoneI a = s at hs ⊢
  generalize endI a = e
  generalize leftI a now = l
  simp only [some_bindP, if_true, if_pos hs]
theorem tells_head (a b : G_api_Instance) (now : UInt64) (h : (a.Target.length : Int) + b.Target.length ≤ 3000) : (M_inst_Bytes a).bind (fun (r3_2, r4_2) =>
    (M_signpostref11_Bytes a).bind fun (r3_3, r4_3) =>
    if r3_2 = r3_3 then
      if r4_2 = r4_3 then
        (M_inst_Good a).bind fun r1_3 =>
        (M_signpostref11_Good a).bind fun r1_4 =>
        if r1_3 = r1_4 then
          (M_inst_End a).bind fun r1_5 =>
          (M_signpostref11_End a).bind fun r1_6 =>
          if r1_5 = r1_6 then
            (M_inst_Alive a now).bind fun r1_7 =>
            (M_signpostref11_Alive a now).bind fun r1_8 =>
            M_signpostlaw11_InstTells_k1 a b now (!(decide (r1_7 = r1_8)))
          else
            M_signpostlaw11_InstTells_k1 a b now true
        else
          M_signpostlaw11_InstTells_k1 a b now true
      else
        M_signpostlaw11_InstTells_k1 a b now true
    else
      M_signpostlaw11_InstTells_k1 a b now true) = some true := by
  have hk := tells_k1 a b now
  rw [inst_bytes (by omega), ref11_bytes (by omega), inst_good (by omega), ref11_good (by omega), inst_end, ref11_end, inst_alive, ref11_alive]
  generalize (if goodI a = true then (bytesI a, (0 : Int)) else ([], 2)) = y
  generalize goodI a = g
  generalize endI a = e
  generalize aliveI a now = al
  obtain ⟨y1, y2⟩ := y
  simp only [some_bindP, if_true, decide_true, Bool.not_true]
  exact hk
theorem pure_InstTells (a : G_api_Instance) (b : G_api_Instance) (now : UInt64) (wf_a : G_api_Instance_wf a) (wf_b : G_api_Instance_wf b) : M_signpostlaw11_InstTells a b now = some true := by
  unfold G_api_Instance_wf at wf_a wf_b
  unfold M_signpostlaw11_InstTells
  rw [if_pos (ok_small (by omega)), lives11]
  by_cases h : (3000 : Int) < (a.Target.length : Int) + b.Target.length
  · rw [if_pos h]; rfl
  · rw [if_neg h]
    exact tells_head a b now (by omega)
end Go.Proofs.Ytgabplankmljfaa
