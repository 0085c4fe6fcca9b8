/-
  What the functions that the statement WireEncodes reaches compute, as plain laws; and the statement about them. No condition.
-/
import Derived.Test.YtleemokneeoikaaWireEncodesMod
import Derived.Test.YtleemokneeoikaaBPure
namespace Go.Proofs.Ytleemokneeoikaa
open Go Go.RowKit
set_option linter.unusedVariables false
set_option linter.unusedSimpArgs false
/-! ### names -/
theorem idx_lt : ∀ (l : List UInt8) (c : UInt8), -1 ≤ Lib.indexByte l c ∧ (0 ≤ Lib.indexByte l c → Lib.indexByte l c < l.length)
  | [], c => by simp [Lib.indexByte]
  | b :: l, c => by
    have h := idx_lt l c
    unfold Lib.indexByte
    simp only [List.length_cons]
    split
    · omega
    · split
      · omega
      · rename_i h1 h2
        simp only [beq_iff_eq] at h2
        omega
/-- A text cut at its first point. -/
def cutS (s : List UInt8) : List UInt8 × List UInt8 × Bool := if 0 ≤ Lib.indexByte s 46 then (s.take (Lib.indexByte s 46).toNat, s.drop (Lib.indexByte s 46 + 1).toNat, true) else (s, [], false)
theorem label_cut {s : List UInt8} (hs : s.length ≤ 4611686018427387904) : M_strings_Cut s = some (cutS s) := by
  have hi : M_stringslite_Index s = some (Lib.indexByte s 46) := by
    unfold M_stringslite_Index
    by_cases h : [46] = s
    · rw [if_pos h, ← h]; rfl
    · rw [if_neg h]; rfl
  have hb := idx_lt s 46
  unfold M_strings_Cut M_stringslite_Cut cutS
  rw [hi, Option.bind_some]
  by_cases h : 0 ≤ Lib.indexByte s 46
  · rw [if_pos h, if_pos (by omega), if_pos (ok_small (by omega)), if_pos (by omega), if_pos h]; rfl
  · rw [if_neg h, if_neg h]; rfl
/-- The texts between points. -/
def partsF : Nat → List UInt8 → List (List UInt8)
  | 0, s => [s]
  | n + 1, s => if (cutS s).2.2 = true then (cutS s).1 :: partsF n (cutS s).2.1 else [s]
def partsS (s : List UInt8) : List (List UInt8) := partsF s.length s
theorem cutS_len (s : List UInt8) : (cutS s).1.length ≤ s.length ∧ ((cutS s).2.2 = true → (cutS s).2.1.length < s.length) ∧ ((cutS s).2.2 = false → (cutS s).1 = s) := by
  have hb := idx_lt s 46
  unfold cutS
  split
  · refine ⟨by simp only [List.length_take]; omega, fun _ => ?_, fun h => (by cases h)⟩
    simp only [List.length_drop]; omega
  · exact ⟨Nat.le_refl _, (fun h => by cases h), fun _ => rfl⟩
theorem parts_loop {σ ρ : Type} {f : σ → List UInt8 → Option (σ ⊕ ρ)} : ∀ (n : Nat) (s : List UInt8) (z : σ), s.length ≤ n → s.length ≤ 4611686018427387904 →
    loopO (fun z_ => M_label_parts_1_p_b1 f z_.1 z_.2) (z, s) = rangeO f (partsF n s) z := by
  have hb : ∀ (s : List UInt8) (z : σ), s.length ≤ 4611686018427387904 → M_label_parts_1_p_b1 f z s = (f z (cutS s).1).bind fun y => match y with
      | .inl z2 => if (cutS s).2.2 = true then some (.inl (z2, (cutS s).2.1)) else some (.inr (.inl z2))
      | .inr x => some (.inr (.inr x)) := by
    intro s z hs
    unfold M_label_parts_1_p_b1
    rw [label_cut hs, Option.bind_some]
    rfl
  intro n
  induction n with
  | zero =>
    intro s z hn hs
    obtain ⟨h1, h2, h3⟩ := cutS_len s
    have hc : (cutS s).2.2 = false := by
      cases h : (cutS s).2.2 with
      | false => rfl
      | true => have := h2 h; omega
    have hb1 := hb s z hs
    rw [hc, h3 hc] at hb1
    simp only [partsF, rangeO]
    cases hf : f z s with
    | none =>
      rw [hf] at hb1
      exact loopO_none hb1
    | some y =>
      rw [hf] at hb1
      cases y with
      | inl z2 => exact loopO_end hb1
      | inr x => exact loopO_end hb1
  | succ n ih =>
    intro s z hn hs
    obtain ⟨h1, h2, h3⟩ := cutS_len s
    have hb1 := hb s z hs
    unfold partsF
    cases hc : (cutS s).2.2 with
    | true =>
      rw [hc] at hb1
      simp only [if_pos, rangeO]
      cases hf : f z (cutS s).1 with
      | none => rw [hf] at hb1; exact loopO_none hb1
      | some y =>
        rw [hf] at hb1
        cases y with
        | inl z2 => rw [loopO_next hb1]; exact ih _ _ (by have := h2 hc; omega) (by have := h2 hc; omega)
        | inr x => exact loopO_end hb1
    | false =>
      rw [hc, h3 hc] at hb1
      simp only [Bool.false_eq_true, if_false, rangeO]
      cases hf : f z s with
      | none => rw [hf] at hb1; exact loopO_none hb1
      | some y =>
        rw [hf] at hb1
        cases y with
        | inl z2 => exact loopO_end hb1
        | inr x => exact loopO_end hb1
theorem label_parts {σ ρ : Type} {f : σ → List UInt8 → Option (σ ⊕ ρ)} {s : List UInt8} {z : σ} (hs : s.length ≤ 4611686018427387904) : M_label_parts_1_p f s z = rangeO f (partsS s) z := by
  unfold M_label_parts_1_p partsS
  rw [parts_loop s.length s z (Nat.le_refl _) hs]
  cases rangeO f (partsF s.length s) z <;> rfl
theorem partsF_len : ∀ (n : Nat) (s : List UInt8), ∀ p ∈ partsF n s, p.length ≤ s.length
  | 0, s, p, hp => by simp only [partsF, List.mem_singleton] at hp; subst hp; exact Nat.le_refl _
  | n + 1, s, p, hp => by
    obtain ⟨h1, h2, h3⟩ := cutS_len s
    unfold partsF at hp
    split at hp
    · rename_i hc
      rcases List.mem_cons.1 hp with rfl | hp
      · exact h1
      · have := partsF_len n _ p hp; have := h2 hc; omega
    · simp only [List.mem_singleton] at hp; subst hp; exact Nat.le_refl _
/-! ### parts -/
noncomputable def plainS (c : UInt8) : Bool := (M_label_plain c).getD false
theorem label_plain (c : UInt8) : M_label_plain c = some (plainS c) := by
  unfold plainS M_label_plain M_label_plain_k1 M_label_plain_k2
  repeat' split
  all_goals rfl
theorem plain_loop09 {s : List UInt8} (hs : s.length ≤ 140737488355328) : ∀ (d k : Nat), s.length = k + d →
    loopO (fun z_ => M_label_Part_b2 s z_) (k : Int) = some (if (s.drop k).all plainS = true then .inl () else .inr false) := by
  intro d
  induction d with
  | zero =>
    intro k h
    rw [loopO_end (r := .inl ()) (by unfold M_label_Part_b2; rw [if_neg (by omega)]), List.drop_of_length_le (by omega)]; rfl
  | succ d ih =>
    intro k h
    have hk : k < s.length := by omega
    have hb : M_label_Part_b2 s (k : Int) = if plainS s[k] = true then some (.inl ((k : Int) + 1)) else some (.inr (.inr false)) := by
      unfold M_label_Part_b2
      rw [if_pos (by omega), at?_in hk, Option.bind_some, label_plain, Option.bind_some, if_pos (ok_small (by omega))]
    rw [List.drop_eq_getElem_cons hk, List.all_cons]
    cases hp : plainS s[k] with
    | true => rw [loopO_next (s' := ((k + 1 : Nat) : Int)) (by show M_label_Part_b2 s (k : Int) = _; rw [hb, if_pos hp]; rfl), ih (k + 1) (by omega), Bool.true_and]
    | false => rw [loopO_end (r := .inr false) (by show M_label_Part_b2 s (k : Int) = _; rw [hb, if_neg (by rw [hp]; decide)])]; rfl
noncomputable def partS (s : List UInt8) : Bool := decide (1 ≤ s.length ∧ s.length ≤ 63) && (!decide (s[0]? = some 45) && (!decide (s[s.length - 1]? = some 45) && s.all plainS))
theorem label_part {s : List UInt8} (hs : s.length ≤ 140737488355328) : M_label_Part s = some (partS s) := by
  have hk1 : M_label_Part_k1 s true = some false := rfl
  have hk2 : M_label_Part_k1 s false = some (s.all plainS) := by
    have := plain_loop09 hs s.length 0 (by omega)
    rw [show ((0 : Nat) : Int) = 0 from rfl, List.drop_zero] at this
    unfold M_label_Part_k1
    rw [if_neg (by decide), if_pos hs, this, Option.bind_some]
    cases s.all plainS <;> rfl
  unfold M_label_Part partS
  by_cases h1 : (s.length : Int) < 1
  · rw [if_pos h1, hk1, decide_eq_false (by omega)]; rfl
  · rw [if_neg h1]
    by_cases h2 : (63 : Int) < s.length
    · rw [if_pos h2, hk1, decide_eq_false (by omega)]; rfl
    · have h0 : 0 < s.length := by omega
      have hl : s.length - 1 < s.length := by omega
      rw [if_neg h2, decide_eq_true (by omega), show (0 : Int) = ((0 : Nat) : Int) from rfl, at?_in h0, Option.bind_some, if_pos (ok_small (by omega)),
        show (s.length : Int) - 1 = ((s.length - 1 : Nat) : Int) by omega, at?_in hl, Option.bind_some, List.getElem?_eq_getElem h0, List.getElem?_eq_getElem hl]
      by_cases h3 : s[0] = 45
      · rw [if_pos h3, hk1]; simp [h3]
      · rw [if_neg h3]
        by_cases h4 : s[s.length - 1] = 45
        · rw [decide_eq_true h4, hk1]; simp [h4]
        · rw [decide_eq_false h4, hk2]; simp [h3, h4]
noncomputable def goodN (s : List UInt8) : Bool := decide (s.length ≤ 253) && (partsS s).all partS
theorem good_range : ∀ (l : List (List UInt8)), (∀ p ∈ l, p.length ≤ 140737488355328) → rangeO (fun (_ : Unit) x => M_label_Good_r1 x) l () = some (if l.all partS = true then .inl () else .inr ())
  | [], _ => rfl
  | p :: l, h => by
    have hp : M_label_Good_r1 p = some (if partS p = true then .inl () else .inr ()) := by
      unfold M_label_Good_r1
      rw [label_part (h p (List.mem_cons_self ..)), Option.bind_some]
      split <;> rfl
    rw [List.all_cons]
    unfold rangeO
    rw [hp]
    cases hh : partS p with
    | true => simp only [if_pos, Bool.true_and]; exact good_range l (fun q hq => h q (List.mem_cons_of_mem _ hq))
    | false => rfl
theorem label_good {s : List UInt8} (hs : s.length ≤ 140737488355328) : M_label_Good s = some (goodN s) := by
  unfold M_label_Good goodN
  by_cases h : (253 : Int) < s.length
  · rw [if_pos h, decide_eq_false (by omega)]; rfl
  · rw [if_neg h, decide_eq_true (by omega), show M_label_parts s = some () from rfl, Option.bind_some, label_parts (by omega), good_range _ (fun p hp => by have := partsF_len _ _ p hp; omega), Option.bind_some]
    cases (partsS s).all partS <;> rfl
/-! ### texts folded -/
def foldC (c : UInt8) : UInt8 := if 65 ≤ c ∧ c ≤ 90 then c ||| 32 else c
def foldS (s : List UInt8) : List UInt8 := s.map foldC
theorem fold_loop09 {s : List UInt8} (hs : s.length ≤ 140737488355328) : ∀ (d k : Nat), s.length = k + d →
    loopO (fun z_ => M_label_Fold_b1 s z_.1 z_.2) ((s.take k).map foldC ++ s.drop k, (k : Int)) = some (foldS s) := by
  intro d
  induction d with
  | zero =>
    intro k h
    rw [loopO_end (r := (s.take k).map foldC ++ s.drop k) (by unfold M_label_Fold_b1; rw [if_neg (by omega)]), List.drop_of_length_le (by omega), List.take_of_length_le (by omega), List.append_nil]; rfl
  | succ d ih =>
    intro k h
    have hk : k < s.length := by omega
    have hlen : ((s.take k).map foldC).length = k := by rw [List.length_map, List.length_take]; omega
    have hx : at? ((s.take k).map foldC ++ s.drop k) (k : Int) = some s[k] := by
      rw [at?_nat, List.getElem?_append_right (by omega), hlen, Nat.sub_self, List.getElem?_drop, Nat.add_zero, List.getElem?_eq_getElem hk]
    have hset : ∀ c : UInt8, ((s.take k).map foldC ++ s.drop k).set k c = (s.take k).map foldC ++ c :: s.drop (k + 1) := by
      intro c
      rw [List.set_append_right _ _ (by omega), hlen, Nat.sub_self, List.drop_eq_getElem_cons hk]; rfl
    have hnext : (s.take (k + 1)).map foldC ++ s.drop (k + 1) = (s.take k).map foldC ++ foldC s[k] :: s.drop (k + 1) := by
      rw [List.take_succ_eq_append_getElem hk, List.map_append, List.append_assoc]; rfl
    have hsame : (s.take k).map foldC ++ s.drop k = (s.take k).map foldC ++ s[k] :: s.drop (k + 1) := by rw [← List.drop_eq_getElem_cons hk]
    have hb : M_label_Fold_b1 s ((s.take k).map foldC ++ s.drop k) (k : Int) = some (.inl ((s.take (k + 1)).map foldC ++ s.drop (k + 1), ((k + 1 : Nat) : Int))) := by
      unfold M_label_Fold_b1 M_label_Fold_k2
      rw [if_pos (by omega), hx, Option.bind_some, hnext]
      by_cases h1 : 65 ≤ s[k]
      · rw [if_pos h1]
        by_cases h2 : s[k] ≤ 90
        · rw [if_pos (decide_eq_true h2), Option.bind_some, if_pos (ok_small (by omega)), show foldC s[k] = s[k] ||| 32 from if_pos ⟨h1, h2⟩, show ((k : Int)).toNat = k from rfl, hset]; rfl
        · rw [if_neg (by simpa using h2), if_pos (ok_small (by omega)), show foldC s[k] = s[k] from if_neg (fun hh => h2 hh.2), ← hsame]; rfl
      · rw [if_neg h1, if_neg (by decide), if_pos (ok_small (by omega)), show foldC s[k] = s[k] from if_neg (fun hh => h1 hh.1), ← hsame]; rfl
    rw [loopO_next hb]
    exact ih (k + 1) (by omega)
theorem label_fold {s : List UInt8} (hs : s.length ≤ 140737488355328) : M_label_Fold s = some (foldS s) := by
  unfold M_label_Fold
  have := fold_loop09 hs s.length 0 (by omega)
  rw [List.take_zero, List.map_nil, List.nil_append, List.drop_zero, show ((0 : Nat) : Int) = 0 from rfl] at this
  rw [if_pos hs, this]; rfl
theorem foldS_len (s : List UInt8) : (foldS s).length = s.length := by unfold foldS; rw [List.length_map]
/-! ### texts between points, byte by byte -/
/-- The texts between points; the first one has begun. -/
def spl (cur : List UInt8) : List UInt8 → List (List UInt8)
  | [] => [cur]
  | c :: t => if c = 46 then cur :: spl [] t else spl (cur ++ [c]) t
theorem spl_cut : ∀ (s cur : List UInt8), spl cur s = if 0 ≤ Lib.indexByte s 46 then (cur ++ s.take (Lib.indexByte s 46).toNat) :: spl [] (s.drop (Lib.indexByte s 46 + 1).toNat) else [cur ++ s]
  | [], cur => by simp [spl, Lib.indexByte]
  | c :: t, cur => by
    have h := spl_cut t (cur ++ [c])
    have hb := idx_lt t 46
    have e : Lib.indexByte (c :: t) 46 = if c = 46 then 0 else if Lib.indexByte t 46 = -1 then -1 else Lib.indexByte t 46 + 1 := by simp [Lib.indexByte]
    rw [e, spl]
    by_cases hc : c = 46
    · simp only [if_pos hc]; simp
    · simp only [if_neg hc]
      rw [h]
      by_cases hi : Lib.indexByte t 46 = -1
      · simp only [hi, reduceIte]; simp
      · simp only [if_neg hi]
        rw [if_pos (by omega), if_pos (by omega)]
        rw [show (Lib.indexByte t 46 + 1).toNat = (Lib.indexByte t 46).toNat + 1 by omega, show (Lib.indexByte t 46 + 1 + 1).toNat = (Lib.indexByte t 46).toNat + 1 + 1 by omega]
        simp
theorem partsF_spl : ∀ (n : Nat) (s : List UInt8), s.length ≤ n → partsF n s = spl [] s
  | 0, s, h => by
    have : s = [] := List.length_eq_zero_iff.1 (by omega)
    subst this; rfl
  | n + 1, s, h => by
    have hb := idx_lt s 46
    rw [spl_cut]
    unfold partsF cutS
    by_cases hi : 0 ≤ Lib.indexByte s 46
    · rw [if_pos hi, if_pos hi, if_pos rfl, partsF_spl n _ (by simp only [List.length_drop]; omega)]; rfl
    · rw [if_neg hi, if_neg hi, if_neg Bool.false_ne_true]; rfl
theorem partsS_spl (s : List UInt8) : partsS s = spl [] s := partsF_spl _ s (Nat.le_refl _)
theorem spl_count : ∀ (s cur : List UInt8), (spl cur s).length ≤ s.length + 1
  | [], cur => by simp [spl]
  | c :: t, cur => by
    unfold spl
    split
    · have := spl_count t []; simp only [List.length_cons]; omega
    · have := spl_count t (cur ++ [c]); simp only [List.length_cons]; omega
theorem partsS_count (s : List UInt8) : (partsS s).length ≤ s.length + 1 := by rw [partsS_spl]; exact spl_count s []
theorem part_len {p : List UInt8} (h : partS p = true) : 1 ≤ p.length ∧ p.length ≤ 63 := by
  unfold partS at h
  rw [Bool.and_eq_true, decide_eq_true_eq] at h
  exact h.1
theorem goodN_iff {s : List UInt8} : goodN s = true ↔ s.length ≤ 253 ∧ ∀ p ∈ partsS s, partS p = true := by
  unfold goodN
  rw [Bool.and_eq_true, decide_eq_true_eq, List.all_eq_true]
/-- The bytes of texts, each behind its length. -/
def wireL : List (List UInt8) → List UInt8
  | [] => []
  | p :: l => UInt8.ofInt (p.length : Int) :: p ++ wireL l
theorem wireL_fold : ∀ (l : List (List UInt8)) (o : List UInt8), l.foldl (fun o p => o ++ UInt8.ofInt (p.length : Int) :: p) o = o ++ wireL l
  | [], o => by simp [wireL]
  | p :: l, o => by
    rw [List.foldl_cons, wireL_fold l]; simp [wireL, List.append_assoc]
theorem wireL_len : ∀ (l : List (List UInt8)), (∀ p ∈ l, p.length ≤ 63) → (wireL l).length ≤ 64 * l.length
  | [], _ => by simp [wireL]
  | p :: l, h => by
    have := wireL_len l (fun q hq => h q (List.mem_cons_of_mem _ hq))
    have := h p (List.mem_cons_self ..)
    simp only [wireL, List.length_cons, List.length_append, List.cons_append]; omega
/-- A name's bytes. -/
def wireS (s : List UInt8) : List UInt8 := wireL (partsS s) ++ [0]
/-! ### signpostref09 -/
theorem ref09_parts_loop {s : List UInt8} (hs : s.length ≤ 1000000) : ∀ (d : Nat) (out : List (List UInt8)) (f i : Nat), s.length = i + d → f ≤ i → out.length ≤ i →
    loopO (fun z_ => M_signpostref09_Parts_b1 s z_.1 z_.2.1 z_.2.2) (out, (f : Int), (i : Int)) = some (out ++ spl ((s.take i).drop f) (s.drop i)) := by
  intro d
  induction d with
  | zero =>
    intro out f i h hf ho
    rw [loopO_next (s' := (out ++ [(s.take i).drop f], ((i + 1 : Nat) : Int), ((i + 1 : Nat) : Int))) (by
        show M_signpostref09_Parts_b1 s out (f : Int) (i : Int) = _
        unfold M_signpostref09_Parts_b1 M_signpostref09_Parts_k2
        rw [if_pos (by omega), if_pos (by omega), if_pos rfl, if_pos (by omega), if_pos (by omega), if_pos (ok_small (by omega)), if_pos (ok_small (by omega))]; rfl),
      loopO_end (r := out ++ [(s.take i).drop f]) (by show M_signpostref09_Parts_b1 s _ ((i + 1 : Nat) : Int) ((i + 1 : Nat) : Int) = _; unfold M_signpostref09_Parts_b1; rw [if_neg (by omega)]), List.drop_of_length_le (by omega : s.length ≤ i)]
    rfl
  | succ d ih =>
    intro out f i h hf ho
    have hk : i < s.length := by omega
    have hb : M_signpostref09_Parts_b1 s out (f : Int) (i : Int) = M_signpostref09_Parts_k2 (f : Int) (i : Int) out s (decide (s[i] = 46)) := by
      unfold M_signpostref09_Parts_b1
      rw [if_pos (by omega), if_neg (by omega), at?_in hk, Option.bind_some]
    rw [List.drop_eq_getElem_cons hk]
    unfold spl
    by_cases hc : s[i] = 46
    · rw [loopO_next (s' := (out ++ [(s.take i).drop f], ((i + 1 : Nat) : Int), ((i + 1 : Nat) : Int))) (by
        show M_signpostref09_Parts_b1 s out (f : Int) (i : Int) = _
        rw [hb, decide_eq_true hc]
        unfold M_signpostref09_Parts_k2
        rw [if_pos rfl, if_pos (by omega), if_pos (by omega), if_pos (ok_small (by omega)), if_pos (ok_small (by omega))]; rfl), ih _ _ _ (by omega) (Nat.le_refl _) (by simp; omega), if_pos hc, show (s.take (i + 1)).drop (i + 1) = [] from List.drop_of_length_le (by rw [List.length_take]; omega), List.append_assoc]
      rfl
    · rw [loopO_next (s' := (out, (f : Int), ((i + 1 : Nat) : Int))) (by
        show M_signpostref09_Parts_b1 s out (f : Int) (i : Int) = _
        rw [hb, decide_eq_false hc]
        unfold M_signpostref09_Parts_k2
        rw [if_neg (by decide), if_pos (ok_small (by omega))]; rfl), ih _ _ _ (by omega) (by omega) (by omega), if_neg hc,
        show (s.take (i + 1)).drop f = (s.take i).drop f ++ [s[i]] by
          rw [List.take_succ_eq_append_getElem hk, List.drop_append_of_le_length (by rw [List.length_take]; omega)]]
theorem ref09_parts {s : List UInt8} (hs : s.length ≤ 1000000) : M_signpostref09_Parts s = some (partsS s) := by
  unfold M_signpostref09_Parts
  have := ref09_parts_loop hs s.length [] 0 0 (by omega) (by omega) (by simp)
  rw [show ((0 : Nat) : Int) = 0 from rfl] at this
  rw [this, Option.bind_some, partsS_spl]
  rfl
theorem ref09_part_step {s : List UInt8} {k : Nat} (hs : s.length ≤ 140737488355328) (hk : k < s.length) : M_signpostref09_Part_b1 s (k : Int) = if plainS s[k] = true then some (.inl ((k : Int) + 1)) else some (.inr (.inr false)) := by
  have hp := label_plain s[k]
  unfold M_label_plain M_label_plain_k1 M_label_plain_k2 at hp
  unfold M_signpostref09_Part_b1 M_signpostref09_letter M_signpostref09_Part_k3 M_signpostref09_Part_k2
  rw [if_pos (by omega), at?_in hk]
  simp only [Option.bind_some]
  rw [if_pos (ok_small (by omega))]
  by_cases h1 : 97 ≤ s[k] <;> by_cases h2 : s[k] ≤ 122 <;> by_cases h3 : 65 ≤ s[k] <;> by_cases h4 : s[k] ≤ 90 <;> by_cases h5 : 48 ≤ s[k] <;> by_cases h6 : s[k] ≤ 57 <;> by_cases h7 : s[k] = 45 <;>
    simp only [h1, h2, h3, h4, h5, h6, h7, if_true, if_false, Option.some.injEq] at hp <;>
    simp only [h1, h2, h3, h4, h5, h6, h7, ← hp, if_true, if_false, Option.bind_some, decide_true, decide_false, Bool.false_eq_true, Bool.not_eq_true', decide_eq_false_iff_not, decide_eq_true_eq, Bool.not_true, Bool.not_false, reduceIte] <;> (try split) <;> simp_all
theorem ref09_part_loop {s : List UInt8} (hs : s.length ≤ 140737488355328) : ∀ (d k : Nat), s.length = k + d →
    loopO (fun z_ => M_signpostref09_Part_b1 s z_) (k : Int) = some (if (s.drop k).all plainS = true then .inl () else .inr false) := by
  intro d
  induction d with
  | zero =>
    intro k h
    rw [loopO_end (r := .inl ()) (by unfold M_signpostref09_Part_b1; rw [if_neg (by omega)]), List.drop_of_length_le (by omega)]; rfl
  | succ d ih =>
    intro k h
    have hk : k < s.length := by omega
    have hb := ref09_part_step hs hk
    rw [List.drop_eq_getElem_cons hk, List.all_cons]
    cases hp : plainS s[k] with
    | true => rw [loopO_next (s' := ((k + 1 : Nat) : Int)) (by show M_signpostref09_Part_b1 s (k : Int) = _; rw [hb, if_pos hp]; rfl), ih (k + 1) (by omega), Bool.true_and]
    | false => rw [loopO_end (r := .inr false) (by show M_signpostref09_Part_b1 s (k : Int) = _; rw [hb, if_neg (by rw [hp]; decide)])]; rfl
theorem ref09_part {s : List UInt8} (hs : s.length ≤ 140737488355328) : M_signpostref09_Part s = some (partS s) := by
  unfold M_signpostref09_Part
  have := ref09_part_loop hs s.length 0 (by omega)
  rw [show ((0 : Nat) : Int) = 0 from rfl, List.drop_zero] at this
  rw [this, Option.bind_some]
  unfold partS
  cases ha : s.all plainS with
  | false => simp
  | true =>
    rw [if_pos rfl]
    simp only []
    by_cases h1 : (1 : Int) ≤ s.length
    · rw [if_pos h1]
      by_cases h2 : (s.length : Int) ≤ 63
      · have h0 : 0 < s.length := by omega
        have hl : s.length - 1 < s.length := by omega
        rw [if_pos h2, decide_eq_true (by omega), show (0 : Int) = ((0 : Nat) : Int) from rfl, at?_in h0, Option.bind_some, if_pos (ok_small (by omega)),
          show (s.length : Int) - 1 = ((s.length - 1 : Nat) : Int) by omega, at?_in hl, Option.bind_some, List.getElem?_eq_getElem h0, List.getElem?_eq_getElem hl]
        by_cases h3 : s[0] = 45
        · rw [if_pos h3]; simp [h3]
        · rw [if_neg h3]; simp [h3]
      · rw [if_neg h2, decide_eq_false (by omega)]; rfl
    · rw [if_neg h1, decide_eq_false (by omega)]; rfl
theorem ref09_good_loop {l : List (List UInt8)} (hl : l.length ≤ 1000001) (h : ∀ p ∈ l, p.length ≤ 140737488355328) : ∀ (d k : Nat), l.length = k + d →
    loopO (fun z_ => M_signpostref09_Good_b1 l z_) (k : Int) = some (if (l.drop k).all partS = true then .inl () else .inr false) := by
  intro d
  induction d with
  | zero =>
    intro k h
    rw [loopO_end (r := .inl ()) (by unfold M_signpostref09_Good_b1; rw [if_neg (by omega)]), List.drop_of_length_le (by omega)]; rfl
  | succ d ih =>
    intro k h1
    have hk : k < l.length := by omega
    have hb : M_signpostref09_Good_b1 l (k : Int) = if partS l[k] = true then some (.inl ((k : Int) + 1)) else some (.inr (.inr false)) := by
      unfold M_signpostref09_Good_b1
      rw [if_pos (by omega), at?_in hk, Option.bind_some, ref09_part (h _ (List.getElem_mem hk)), Option.bind_some, if_pos (ok_small (by omega))]
    rw [List.drop_eq_getElem_cons hk, List.all_cons]
    cases hp : partS l[k] with
    | true => rw [loopO_next (s' := ((k + 1 : Nat) : Int)) (by show M_signpostref09_Good_b1 l (k : Int) = _; rw [hb, if_pos hp]; rfl), ih (k + 1) (by omega), Bool.true_and]
    | false => rw [loopO_end (r := .inr false) (by show M_signpostref09_Good_b1 l (k : Int) = _; rw [hb, if_neg (by rw [hp]; decide)])]; rfl
theorem ref09_good {s : List UInt8} (hs : s.length ≤ 1000000) : M_signpostref09_Good s = some (goodN s) := by
  have hc := partsS_count s
  unfold M_signpostref09_Good
  have := ref09_good_loop (l := partsS s) (by omega) (fun p hp => by have := partsF_len _ _ p hp; omega) (partsS s).length 0 (by omega)
  rw [show ((0 : Nat) : Int) = 0 from rfl, List.drop_zero] at this
  rw [ref09_parts hs, Option.bind_some, this, Option.bind_some]
  unfold goodN
  cases (partsS s).all partS with
  | false => simp
  | true =>
    rw [if_pos rfl]
    simp only []
    rw [if_pos (ok_small (by omega)), Bool.and_true]
    exact congrArg some (decide_eq_decide.2 (by omega))
theorem fold09_byte (c : UInt8) (h1 : 65 ≤ c) (h2 : c ≤ 90) : c + 97 - 65 = c ||| 32 := by
  have key : ∀ n : Fin 256, 65 ≤ n.val → n.val ≤ 90 → UInt8.ofNat n.val + 97 - 65 = UInt8.ofNat n.val ||| 32 := by decide +kernel
  have hc := c.toNat_lt
  have := key ⟨c.toNat, hc⟩ (UInt8.le_iff_toNat_le.1 h1) (UInt8.le_iff_toNat_le.1 h2)
  simpa using this
theorem ref09_fold_loop {s : List UInt8} (hs : s.length ≤ 140737488355328) : ∀ (d k : Nat), s.length = k + d →
    loopO (fun z_ => M_signpostref09_Fold_b1 s z_.1 z_.2) ((s.take k).map foldC ++ s.drop k, (k : Int)) = some (foldS s) := by
  intro d
  induction d with
  | zero =>
    intro k h
    rw [loopO_end (r := (s.take k).map foldC ++ s.drop k) (by unfold M_signpostref09_Fold_b1; rw [if_neg (by omega)]), List.drop_of_length_le (by omega), List.take_of_length_le (by omega), List.append_nil]; rfl
  | succ d ih =>
    intro k h
    have hk : k < s.length := by omega
    have hlen : ((s.take k).map foldC).length = k := by rw [List.length_map, List.length_take]; omega
    have hx : at? ((s.take k).map foldC ++ s.drop k) (k : Int) = some s[k] := by
      rw [at?_nat, List.getElem?_append_right (by omega), hlen, Nat.sub_self, List.getElem?_drop, Nat.add_zero, List.getElem?_eq_getElem hk]
    have hset : ∀ c : UInt8, ((s.take k).map foldC ++ s.drop k).set k c = (s.take k).map foldC ++ c :: s.drop (k + 1) := by
      intro c
      rw [List.set_append_right _ _ (by omega), hlen, Nat.sub_self, List.drop_eq_getElem_cons hk]; rfl
    have hnext : (s.take (k + 1)).map foldC ++ s.drop (k + 1) = (s.take k).map foldC ++ foldC s[k] :: s.drop (k + 1) := by
      rw [List.take_succ_eq_append_getElem hk, List.map_append, List.append_assoc]; rfl
    have hsame : (s.take k).map foldC ++ s.drop k = (s.take k).map foldC ++ s[k] :: s.drop (k + 1) := by rw [← List.drop_eq_getElem_cons hk]
    have hb : M_signpostref09_Fold_b1 s ((s.take k).map foldC ++ s.drop k) (k : Int) = some (.inl ((s.take (k + 1)).map foldC ++ s.drop (k + 1), ((k + 1 : Nat) : Int))) := by
      unfold M_signpostref09_Fold_b1 M_signpostref09_Fold_k2
      rw [if_pos (by omega), hx, Option.bind_some, hnext]
      by_cases h1 : 65 ≤ s[k]
      · rw [if_pos h1]
        by_cases h2 : s[k] ≤ 90
        · rw [if_pos (decide_eq_true h2), Option.bind_some, if_pos (ok_small (by omega)), fold09_byte _ h1 h2, show foldC s[k] = s[k] ||| 32 from if_pos ⟨h1, h2⟩, show ((k : Int)).toNat = k from rfl, hset]; rfl
        · rw [if_neg (by simpa using h2), if_pos (ok_small (by omega)), show foldC s[k] = s[k] from if_neg (fun hh => h2 hh.2), ← hsame]; rfl
      · rw [if_neg h1, if_neg (by decide), if_pos (ok_small (by omega)), show foldC s[k] = s[k] from if_neg (fun hh => h1 hh.1), ← hsame]; rfl
    rw [loopO_next hb]
    exact ih (k + 1) (by omega)
theorem ref09_fold {s : List UInt8} (hs : s.length ≤ 140737488355328) : M_signpostref09_Fold s = some (foldS s) := by
  unfold M_signpostref09_Fold
  have := ref09_fold_loop hs s.length 0 (by omega)
  rw [List.take_zero, List.map_nil, List.nil_append, List.drop_zero, show ((0 : Nat) : Int) = 0 from rfl] at this
  rw [if_pos hs, this]; rfl
/-! ### octet -/
theorem octet_may (w : Int) : M_octet_may w = some (decide (1 ≤ w ∧ w ≤ 8)) := by
  unfold M_octet_may
  by_cases h : 1 ≤ w <;> simp [h]
/-! ### numbers put -/
/-- The bytes of a number, so many, the most significant first. -/
def putF (n : UInt64) : Nat → List UInt8
  | 0 => []
  | d + 1 => (shr64 n (8 * d)).toUInt8 :: putF n d
theorem putF_len (n : UInt64) : ∀ d, (putF n d).length = d
  | 0 => rfl
  | d + 1 => by rw [putF, List.length_cons, putF_len n d]
theorem put_loop {n : UInt64} {w : Nat} (hw : w ≤ 8) : ∀ (d k : Nat) (out : List UInt8), w = k + d → out.length + d ≤ 140737488355328 →
    loopO (fun z_ => M_octet_Put_v_b1 n (w : Int) z_.1 z_.2) (out, (k : Int)) = some (out ++ putF n d) := by
  intro d
  induction d with
  | zero =>
    intro k out h ho
    rw [loopO_end (r := out) (by unfold M_octet_Put_v_b1; rw [if_neg (by omega)]), putF, List.append_nil]
  | succ d ih =>
    intro k out h ho
    have e : (UInt64.ofInt (8 * (((w : Int) - 1) - (k : Int)))).toNat = 8 * d := by
      rw [show (8 * (((w : Int) - 1) - (k : Int)) : Int) = ((8 * d : Nat) : Int) by omega]
      rw [show UInt64.ofInt ((8 * d : Nat) : Int) = UInt64.ofNat (8 * d) by
        apply UInt64.toNat_inj.1
        simp [UInt64.ofInt, UInt64.toNat_ofNat']; omega, UInt64.toNat_ofNat']
      omega
    rw [loopO_next (s' := (out ++ [(shr64 n (8 * d)).toUInt8], ((k + 1 : Nat) : Int))) (by
      show M_octet_Put_v_b1 n (w : Int) out (k : Int) = _
      unfold M_octet_Put_v_b1
      rw [if_pos (by omega), if_pos (ok_small (by omega)), if_pos (ok_small (by omega)), if_pos (ok_small (by omega)), if_pos (by omega), if_pos (ok_small (by omega)), e]; rfl),
      ih (k + 1) _ (by omega) (by rw [List.length_append, List.length_singleton]; omega), putF, List.append_assoc]
    rfl
theorem octet_put {b : List UInt8} {n : UInt64} {w : Int} (hb : b.length ≤ 140737488355320) : M_octet_Put_v b n w = some (if 1 ≤ w ∧ w ≤ 8 then b ++ putF n w.toNat else b) := by
  unfold M_octet_Put_v
  rw [if_pos (by omega), octet_may, Option.bind_some]
  by_cases h : 1 ≤ w ∧ w ≤ 8
  · have hl := put_loop (n := n) (w := w.toNat) (by omega) w.toNat 0 b (by omega) (by omega)
    rw [show ((w.toNat : Nat) : Int) = w by omega, show ((0 : Nat) : Int) = 0 from rfl] at hl
    rw [if_pos (decide_eq_true h), if_pos h, List.nil_append, hl]
    rfl
  · rw [if_neg (by simpa using h), if_neg h]; rfl
theorem num_put (n : UInt64) : ∀ (d : Nat) (s : UInt64), ((putF n d).foldl (fun n x => n * 256 + x.toUInt64) s).toNat = (s.toNat * 256 ^ d + n.toNat % 256 ^ d) % 18446744073709551616
  | 0, s => by
    have := s.toNat_lt
    simp [putF, Nat.mod_one]
  | d + 1, s => by
    have hn := n.toNat_lt
    rw [putF, List.foldl_cons, num_put n d]
    have e0 : (256 : Nat) ^ d = 2 ^ (8 * d) := by rw [Nat.pow_mul]
    have e1 : ((shr64 n (8 * d)).toUInt8).toUInt64.toNat = n.toNat / 256 ^ d % 256 := by
      rw [e0]
      have : n.toNat / 2 ^ (8 * d) ≤ n.toNat := Nat.div_le_self _ _
      simp [shr64]
    rw [UInt64.toNat_add, UInt64.toNat_mul, e1, show (256 : UInt64).toNat = 256 from rfl]
    have e2 : n.toNat % 256 ^ (d + 1) = n.toNat % 256 ^ d + 256 ^ d * (n.toNat / 256 ^ d % 256) := by rw [Nat.pow_succ, Nat.mod_mul]
    rw [e2]
    have e3 : (s.toNat * 256 % 2 ^ 64 + n.toNat / 256 ^ d % 256) % 2 ^ 64 = (s.toNat * 256 + n.toNat / 256 ^ d % 256) % 18446744073709551616 := by omega
    rw [e3, Nat.add_mod, Nat.mul_mod, Nat.mod_mod, ← Nat.mul_mod, ← Nat.add_mod]
    congr 1
    rw [Nat.pow_succ, Nat.add_mul]
    generalize 256 ^ d = q
    generalize n.toNat / q % 256 = y
    generalize n.toNat % q = z
    rw [Nat.mul_comm q y, Nat.mul_comm q 256, ← Nat.mul_assoc]
    omega
theorem ref01_put_loop {n : UInt64} : ∀ (d : Nat) (out : List UInt8), d ≤ 8 → out.length + d ≤ 140737488355328 →
    loopO (fun z_ => M_signpostref01_Put_v_b2 n z_.1 z_.2) (out, (d : Int) - 1) = some (out ++ putF n d)
  | 0, out, _, _ => by
    rw [loopO_end (r := out) (by show M_signpostref01_Put_v_b2 n out (((0 : Nat) : Int) - 1) = _; unfold M_signpostref01_Put_v_b2; rw [if_neg (by decide)]), putF, List.append_nil]
  | d + 1, out, h, ho => by
    have e : (UInt64.ofInt (8 * (((d + 1 : Nat) : Int) - 1))).toNat = 8 * d := by
      rw [show (8 * (((d + 1 : Nat) : Int) - 1) : Int) = ((8 * d : Nat) : Int) by omega]
      rw [show UInt64.ofInt ((8 * d : Nat) : Int) = UInt64.ofNat (8 * d) by
        apply UInt64.toNat_inj.1
        simp [UInt64.ofInt, UInt64.toNat_ofNat']; omega, UInt64.toNat_ofNat']
      omega
    rw [loopO_next (s' := (out ++ [(shr64 n (8 * d)).toUInt8], (d : Int) - 1)) (by
      show M_signpostref01_Put_v_b2 n out (((d + 1 : Nat) : Int) - 1) = _
      unfold M_signpostref01_Put_v_b2
      rw [if_pos (by omega), if_pos (ok_small (by omega)), if_pos (by omega), if_pos (ok_small (by omega)), e, show ((d + 1 : Nat) : Int) - 1 - 1 = (d : Int) - 1 by omega]),
      ref01_put_loop d _ (by omega) (by rw [List.length_append, List.length_singleton]; omega), putF, List.append_assoc]
    rfl
theorem ref01_put {b : List UInt8} {n : UInt64} {w : Int} (hb : b.length ≤ 1000000) (hw : 1 ≤ w ∧ w ≤ 8) : M_signpostref01_Put_v b n w = some (b ++ putF n w.toNat) := by
  unfold M_signpostref01_Put_v
  rw [if_pos (by omega), if_neg (by omega), decide_eq_false (by omega)]
  unfold M_signpostref01_Put_v_k1
  have hl := ref01_put_loop (n := n) w.toNat b (by omega) (by omega)
  rw [show ((w.toNat : Nat) : Int) = w by omega] at hl
  rw [if_neg (by decide), if_pos (ok_small (by omega)), List.nil_append, hl]; rfl
theorem ref01_text {b s : List UInt8} (hb : b.length ≤ 1000000) (hs : s.length ≤ 1024) : M_signpostref01_Text_v b s = some (b ++ putF (UInt64.ofInt (s.length : Int)) 2 ++ s, 0) := by
  unfold M_signpostref01_Text_v
  rw [if_neg (by omega), ref01_put (by omega) (by decide), Option.bind_some, if_pos (by rw [List.length_append, putF_len]; simp only [show (2 : Int).toNat = 2 from rfl]; omega)]; rfl
/-! ### instances -/
noncomputable def goodI (i : G_api_Instance) : Bool := decide (1 ≤ i.Life ∧ i.Life ≤ 2147483647) && (if i.Gone = true then decide (i.Priority = 0 ∧ i.Weight = 0 ∧ i.Port = 0 ∧ i.Target = []) else !decide (i.Port = 0) && (goodN i.Target && decide (foldS i.Target = i.Target)))
theorem inst_good {i : G_api_Instance} (h : i.Target.length ≤ 140737488355328) : M_inst_Good i = some (goodI i) := by
  have hk1 : M_inst_Good_k1 i true = some false := rfl
  have hm : i.Target.length ≤ maxLen := by simp only [maxLen]; omega
  unfold M_inst_Good goodI
  by_cases h1 : i.Life < 1
  · rw [if_pos h1, hk1, decide_eq_false (fun hh => absurd h1 (UInt32.not_lt.2 hh.1))]; rfl
  · rw [if_neg h1]
    by_cases h2 : 2147483647 < i.Life
    · rw [decide_eq_true h2, hk1, decide_eq_false (fun hh => absurd h2 (UInt32.not_lt.2 hh.2))]; rfl
    · rw [decide_eq_false h2, decide_eq_true ⟨UInt32.not_lt.1 h1, UInt32.not_lt.1 h2⟩, Bool.true_and]
      unfold M_inst_Good_k1
      rw [if_neg (by decide)]
      by_cases hg : i.Gone = true
      · rw [if_pos hg, if_pos hg, if_pos hm]
        refine congrArg some (decide_eq_decide.2 ?_)
        cases i
        simp only [G_api_Instance.mk.injEq, true_and]
        constructor
        · rintro ⟨a, b, c, d⟩; exact ⟨a.symm, b.symm, c.symm, d.symm⟩
        · rintro ⟨a, b, c, d⟩; exact ⟨a.symm, b.symm, c.symm, d.symm⟩
      · rw [if_neg hg, if_neg hg]
        by_cases hp : i.Port = 0
        · rw [if_pos hp, decide_eq_true hp]; rfl
        · rw [if_neg hp, decide_eq_false hp, label_good h, Option.bind_some]
          cases goodN i.Target with
          | false => rfl
          | true => rw [if_pos rfl, label_fold h, Option.bind_some]; rfl
/-- What a target may at most be. -/
theorem goodI_len {i : G_api_Instance} (h : goodI i = true) : i.Target.length ≤ 253 := by
  unfold goodI at h
  rw [Bool.and_eq_true] at h
  by_cases hg : i.Gone = true
  · rw [if_pos hg] at h
    rw [(of_decide_eq_true h.2).2.2.2]; simp
  · rw [if_neg hg, Bool.and_eq_true, Bool.and_eq_true] at h
    exact (goodN_iff.1 h.2.2.1).1
/-! ### their bytes -/
def tailI (i : G_api_Instance) : List UInt8 := if i.Gone = true then putF 1 1 else putF 0 1 ++ (putF i.Priority.toUInt64 2 ++ (putF i.Weight.toUInt64 2 ++ (putF i.Port.toUInt64 2 ++ (putF (UInt64.ofInt (i.Target.length : Int)) 2 ++ i.Target))))
def bytesI (i : G_api_Instance) : List UInt8 := List.ofFn i.Publisher ++ (putF i.Seq 8 ++ (putF i.Born 8 ++ (putF i.Life.toUInt64 4 ++ tailI i)))
theorem inst_put {x : List UInt8} {n : UInt64} {w : Int} (hx : x.length ≤ 1000000) (hw : 1 ≤ w ∧ w ≤ 8) : M_inst_Bytes_1_po n w x = some (x ++ putF n w.toNat) := by
  unfold M_inst_Bytes_1_po
  rw [octet_put (by omega), if_pos hw]; rfl
theorem octet_text {b s : List UInt8} (hb : b.length ≤ 1000000) (hs : s.length ≤ 1024) : M_octet_Text_v b s = some (b ++ putF (UInt64.ofInt (s.length : Int)) 2 ++ s, 0) := by
  unfold M_octet_Text_v
  rw [if_neg (by omega), octet_put (by omega), if_pos (by decide), Option.bind_some, if_pos (by rw [List.length_append, putF_len]; simp only [show (2 : Int).toNat = 2 from rfl]; omega)]; rfl
theorem inst_bytes {i : G_api_Instance} (h : i.Target.length ≤ 140737488355328) : M_inst_Bytes i = some (if goodI i = true then (bytesI i, 0) else ([], 2)) := by
  unfold M_inst_Bytes
  rw [inst_good h, Option.bind_some]
  by_cases hg : goodI i = true
  · have hl := goodI_len hg
    have h20 : (List.ofFn i.Publisher).length = 20 := by simp
    rw [if_pos hg, if_pos hg]
    unfold M_bytes_Clone_v
    rw [if_pos (by rw [h20]; decide), Option.bind_some, List.nil_append, inst_put (by omega) (by decide), Option.bind_some, inst_put (by simp [putF_len]) (by decide), Option.bind_some, inst_put (by simp [putF_len]) (by decide), Option.bind_some]
    unfold bytesI tailI
    by_cases hgo : i.Gone = true
    · rw [if_pos hgo, if_pos hgo, inst_put (by simp [putF_len]) (by decide), Option.bind_some]
      simp only [List.append_assoc]; rfl
    · rw [if_neg hgo, if_neg hgo, inst_put (by simp [putF_len]) (by decide), Option.bind_some, inst_put (by simp [putF_len]) (by decide), Option.bind_some, inst_put (by simp [putF_len]) (by decide), Option.bind_some, inst_put (by simp [putF_len]) (by decide), Option.bind_some,
        octet_text (by simp [putF_len]) (by omega), Option.bind_some]
      simp only [List.append_assoc]; rfl
  · rw [if_neg hg, if_neg hg]
/-! ### signpostref11 -/
theorem ref11_good {i : G_api_Instance} (h : i.Target.length ≤ 1000000) : M_signpostref11_Good i = some (goodI i) := by
  have hk1 : M_signpostref11_Good_k1 i true = some false := rfl
  unfold M_signpostref11_Good goodI
  by_cases h1 : i.Life < 1
  · rw [if_pos h1, hk1, decide_eq_false (fun hh => absurd h1 (UInt32.not_lt.2 hh.1))]; rfl
  · rw [if_neg h1]
    by_cases h2 : 2147483647 < i.Life
    · rw [decide_eq_true h2, hk1, decide_eq_false (fun hh => absurd h2 (UInt32.not_lt.2 hh.2))]; rfl
    · rw [decide_eq_false h2, decide_eq_true ⟨UInt32.not_lt.1 h1, UInt32.not_lt.1 h2⟩, Bool.true_and]
      unfold M_signpostref11_Good_k1 M_signpostref11_Good_k2
      rw [if_neg (by decide)]
      by_cases hg : i.Gone = true
      · rw [if_pos hg, if_pos hg]
        by_cases h3 : i.Priority = 0
        · by_cases h4 : i.Weight = 0
          · by_cases h5 : i.Port = 0
            · simp [h3, h4, h5]
            · simp [h3, h4, h5]
          · simp [h3, h4]
        · simp [h3]
      · rw [if_neg hg, if_neg hg]
        by_cases hp : i.Port = 0
        · rw [if_pos hp, decide_eq_true hp]; rfl
        · rw [if_neg hp, decide_eq_false hp, ref09_good h, Option.bind_some]
          cases goodN i.Target with
          | false => rfl
          | true => rw [if_pos rfl, ref09_fold (by omega), Option.bind_some]; rfl
theorem ref11_bytes {i : G_api_Instance} (h : i.Target.length ≤ 1000000) : M_signpostref11_Bytes i = some (if goodI i = true then (bytesI i, 0) else ([], 2)) := by
  unfold M_signpostref11_Bytes
  rw [ref11_good h, Option.bind_some]
  by_cases hg : goodI i = true
  · have hl := goodI_len hg
    have h20 : (List.ofFn i.Publisher).length = 20 := by simp
    rw [if_pos hg, if_pos hg]
    rw [if_pos (by decide), List.nil_append, ref01_put (by omega) (by decide), Option.bind_some, ref01_put (by simp [putF_len]) (by decide), Option.bind_some, ref01_put (by simp [putF_len]) (by decide), Option.bind_some]
    unfold bytesI tailI
    by_cases hgo : i.Gone = true
    · rw [if_pos hgo, if_pos hgo, if_pos (by simp [putF_len])]
      simp only [List.append_assoc]; rfl
    · rw [if_neg hgo, if_neg hgo, if_pos (by simp [putF_len]), ref01_put (by simp [putF_len]) (by decide), Option.bind_some, ref01_put (by simp [putF_len]) (by decide), Option.bind_some, ref01_put (by simp [putF_len]) (by decide), Option.bind_some,
        ref01_text (by simp [putF_len]) (by omega), Option.bind_some]
      simp only [List.append_assoc]; rfl
  · rw [if_neg hg, if_neg hg]
/-- What an order tells. -/
def OrdI {α : Type} (c : α → α → Int) : Prop := (∀ a b, c a b = - c b a) ∧ (∀ a b, -1 ≤ c a b ∧ c a b ≤ 1) ∧ ∀ a b d, 0 ≤ c a b → 0 ≤ c b d → 0 ≤ c a d ∧ (0 < c a b ∨ 0 < c b d → 0 < c a d)
def cmpN (x y : Nat) : Int := if x < y then -1 else if y < x then 1 else 0
theorem cmpN_ord : OrdI cmpN := by
  refine ⟨fun a b => ?_, fun a b => ?_, fun a b d => ?_⟩ <;> unfold cmpN <;> (repeat' split) <;> omega
theorem OrdI.on {α β : Type} {c : β → β → Int} (h : OrdI c) (f : α → β) : OrdI fun a b => c (f a) (f b) := ⟨fun a b => h.1 _ _, fun a b => h.2.1 _ _, fun a b d => h.2.2 _ _ _⟩
def elseI (x y : Int) : Int := if x = 0 then y else x
theorem OrdI.or {α : Type} {c d : α → α → Int} (hc : OrdI c) (hd : OrdI d) : OrdI fun a b => elseI (c a b) (d a b) := by
  refine ⟨fun a b => ?_, fun a b => ?_, fun a b e => ?_⟩
  · have h1 := hc.1 a b
    have h2 := hd.1 a b
    simp only [elseI]
    split <;> split <;> omega
  · have h1 := hc.2.1 a b
    have h2 := hd.2.1 a b
    simp only [elseI]
    split <;> omega
  · have h1 := hc.2.2 a b e
    have h2 := hd.2.2 a b e
    have h3 := hc.2.2 e b a
    have h4 := hc.1 a b
    have h5 := hc.1 b e
    have h6 := hc.1 a e
    simp only [elseI]
    intro p q
    split at p <;> split at q <;> split <;> first | omega | (constructor <;> first | omega | (intro; omega))
theorem bytes_ord : OrdI Lib.compareBytes := by
  have anti : ∀ a b, Lib.compareBytes a b = - Lib.compareBytes b a := by
    intro a
    induction a with
    | nil => intro b; cases b <;> simp [Lib.compareBytes]
    | cons x a ih =>
      intro b
      cases b with
      | nil => simp [Lib.compareBytes]
      | cons y b =>
        have h := ih b
        simp only [Lib.compareBytes, UInt8.lt_iff_toNat_lt]
        split <;> split <;> omega
  have rng : ∀ a b, -1 ≤ Lib.compareBytes a b ∧ Lib.compareBytes a b ≤ 1 := by
    intro a
    induction a with
    | nil => intro b; cases b <;> simp [Lib.compareBytes]
    | cons x a ih =>
      intro b
      cases b with
      | nil => simp [Lib.compareBytes]
      | cons y b =>
        have h := ih b
        simp only [Lib.compareBytes, UInt8.lt_iff_toNat_lt]
        split
        · omega
        · split <;> omega
  refine ⟨anti, rng, ?_⟩
  intro a
  induction a with
  | nil => intro b d; cases b <;> cases d <;> simp [Lib.compareBytes]
  | cons x a ih =>
    intro b d
    cases b with
    | nil => cases d <;> simp [Lib.compareBytes]
    | cons y b =>
      cases d with
      | nil => simp [Lib.compareBytes]
      | cons z d =>
        have h := ih b d
        simp only [Lib.compareBytes, UInt8.lt_iff_toNat_lt]
        intro p q
        split at p
        · omega
        · split at p
          · split at q
            · omega
            · split at q
              · rw [if_neg (by omega), if_pos (by omega)]; omega
              · rw [if_neg (by omega), if_pos (by omega)]; omega
          · split at q
            · omega
            · split at q
              · rw [if_neg (by omega), if_pos (by omega)]; omega
              · rw [if_neg (by omega), if_neg (by omega)]
                have h2 := h p q
                refine ⟨h2.1, fun hh => h2.2 ?_⟩
                rcases hh with hh | hh
                · rw [if_neg (by omega), if_neg (by omega)] at hh; exact .inl hh
                · rw [if_neg (by omega), if_neg (by omega)] at hh; exact .inr hh
theorem bytes_zero : ∀ a b, Lib.compareBytes a b = 0 ↔ a = b
  | [], [] => by simp [Lib.compareBytes]
  | [], _ :: _ => by simp [Lib.compareBytes]
  | _ :: _, [] => by simp [Lib.compareBytes]
  | x :: a, y :: b => by
    have h := bytes_zero a b
    simp only [Lib.compareBytes, UInt8.lt_iff_toNat_lt, List.cons.injEq, ← UInt8.toNat_inj]
    split
    · constructor
      · intro e; omega
      · rintro ⟨e, _⟩; omega
    · split
      · constructor
        · intro e; omega
        · rintro ⟨e, _⟩; omega
      · rw [h]
        constructor
        · intro e; exact ⟨by omega, e⟩
        · exact fun e => e.2
theorem compare_ltS : ∀ (a b : List UInt8), Lib.compareBytes a b = if ltS a b = true then -1 else if (ltS a b || decide (a = b)) = true then 0 else 1
  | [], [] => by decide
  | [], _ :: _ => by simp [Lib.compareBytes, ltS, Op.bytesLess]
  | _ :: _, [] => by simp [Lib.compareBytes, ltS, Op.bytesLess]
  | a :: x, b :: y => by
    have h := compare_ltS x y
    unfold ltS at h ⊢
    unfold Lib.compareBytes
    rw [Op.bytesLess]
    by_cases h1 : a < b
    · simp [h1]
    · by_cases h2 : b < a
      · have h3 : a ≠ b := fun e => by subst e; exact UInt8.lt_irrefl _ h2
        simp [h1, h2, h3]
      · have h3 : a = b := UInt8.le_antisymm (UInt8.not_lt.1 h2) (UInt8.not_lt.1 h1)
        subst h3
        simp [h1, h]
abbrev pubI (i : G_api_Instance) : List UInt8 := List.ofFn i.Publisher
def befI (a b : G_api_Instance) : Prop := ltS (pubI a) (pubI b) = true
theorem ltS_cmp (a b : List UInt8) : ltS a b = true ↔ Lib.compareBytes a b < 0 := by
  rw [compare_ltS]
  cases ltS a b with
  | true => simp
  | false =>
    simp only [Bool.false_eq_true, if_false, Bool.false_or]
    split <;> simp
theorem ltS_irr (a : List UInt8) : ltS a a = false := by
  have h := ltS_cmp a a
  rw [(bytes_zero a a).2 rfl] at h
  cases hh : ltS a a with
  | true => exact absurd (h.1 hh) (by decide)
  | false => rfl
theorem ltS_trans {a b c : List UInt8} (h : ltS a b = true) (k : ltS b c = true) : ltS a c = true := by
  rw [ltS_cmp] at h k ⊢
  have h1 := bytes_ord.1 a b
  have h2 := bytes_ord.1 b c
  have h3 := bytes_ord.1 a c
  have := (bytes_ord.2.2 c b a (by omega) (by omega)).2 (.inl (by omega))
  omega
theorem ltS_tri (a b : List UInt8) : ltS a b = true ∨ ltS b a = true ∨ a = b := by
  rw [ltS_cmp, ltS_cmp, ← bytes_zero]
  have h1 := bytes_ord.1 a b
  omega
theorem ltS_asymm {a b : List UInt8} (h : ltS a b = true) : ltS b a = false := by
  cases k : ltS b a with
  | false => rfl
  | true => have := ltS_trans h k; rw [ltS_irr] at this; cases this
structure GoodR (l : List G_api_Instance) : Prop where
  good : ∀ x ∈ l, goodI x = true
  sorted : l.Pairwise befI
  few : l.length ≤ 16
theorem goodR_nil : GoodR [] := GoodR.mk (fun x h => absurd h List.not_mem_nil) List.Pairwise.nil (by decide)
theorem pairwise_adj {l : List G_api_Instance} (h : ∀ j (hj : j + 1 < l.length), befI l[j] l[j + 1]) : l.Pairwise befI := by
  have key : ∀ (d i : Nat) (hj : i + d + 1 < l.length), befI l[i] l[i + d + 1] := by
    intro d
    induction d with
    | zero => intro i hj; exact h i hj
    | succ d ih => intro i hj; exact ltS_trans (ih i (by omega)) (h (i + d + 1) (by omega))
  refine List.pairwise_iff_getElem.2 fun i j hi hj hij => ?_
  have := key (j - i - 1) i (by omega)
  simp only [show i + (j - i - 1) + 1 = j by omega] at this
  exact this
noncomputable def isGoodR (l : List G_api_Instance) : Bool := @decide (GoodR l) (Classical.propDecidable _)
theorem isGoodR_iff {l : List G_api_Instance} : isGoodR l = true ↔ GoodR l := @decide_eq_true_iff _ (Classical.propDecidable _)
theorem isGoodR_neg {l : List G_api_Instance} : isGoodR l = false ↔ ¬ GoodR l := @decide_eq_false_iff_not _ (Classical.propDecidable _)
def ChkR (l : List G_api_Instance) (j : Nat) : Prop := ∀ hj : j < l.length, goodI l[j] = true ∧ (0 < j → befI l[j - 1] l[j])
theorem chkR_all {l : List G_api_Instance} : (∀ j, 0 ≤ j → ChkR l j) ∧ l.length ≤ 16 ↔ GoodR l := by
  constructor
  · rintro ⟨h, hn⟩
    refine GoodR.mk (fun x hx => ?_) (pairwise_adj fun j hj => ?_) hn
    · obtain ⟨j, hj, rfl⟩ := List.getElem_of_mem hx
      exact (h j (Nat.zero_le _) hj).1
    · have := (h (j + 1) (Nat.zero_le _) hj).2 (Nat.succ_pos _)
      simpa using this
  · intro h
    exact ⟨fun j _ hj => ⟨h.good _ (List.getElem_mem hj), fun h0 => List.pairwise_iff_getElem.1 h.sorted _ _ (by omega) hj (by omega)⟩, h.few⟩
theorem le_compareR (a b : List UInt8) : (0 : Int) ≤ Lib.compareBytes a b ↔ ltS a b = false := by
  have h := ltS_cmp a b
  cases hh : ltS a b with
  | true => have := h.1 hh; constructor
            · intro; omega
            · intro e; cases e
  | false => have : ¬ Lib.compareBytes a b < 0 := fun e => by rw [h.2 e] at hh; cases hh
             constructor
             · intro; rfl
             · intro; omega
theorem goodR_sim {l : List G_api_Instance} (hl : ∀ x ∈ l, x.Target.length ≤ 140737488355328) (hn : l.length ≤ 1000000) : ∀ (d k : Nat), l.length = k + d →
    ∃ r, loopO (fun z_ => M_roster_Good_v_b1 l z_) (k : Int) = some r ∧ ((r = .inl () ∧ ∀ j, k ≤ j → ChkR l j) ∨ (r = .inr false ∧ ¬ ∀ j, k ≤ j → ChkR l j)) := by
  intro d
  induction d with
  | zero =>
    intro k h
    exact ⟨.inl (), loopO_end (by unfold M_roster_Good_v_b1; rw [if_neg (by omega)]), .inl ⟨rfl, fun j hj hh => absurd hh (by omega)⟩⟩
  | succ d ih =>
    intro k h
    have hk : k < l.length := by omega
    have key : (M_roster_Good_v_b1 l (k : Int) = some (.inl ((k : Int) + 1)) ∧ ChkR l k) ∨ (M_roster_Good_v_b1 l (k : Int) = some (.inr (.inr false)) ∧ ¬ ChkR l k) := by
      have c1 : (k : Int) < (l.length : Int) := by omega
      have c2 : ok64 ((k : Int) + 1) := ok_small (by omega)
      have c4 : ok64 ((k : Int) - 1) := ok_small (by omega)
      unfold M_roster_Good_v_b1
      rw [if_pos c1, at?_in hk, some_bindP, inst_good (hl _ (List.getElem_mem hk)), some_bindP]
      cases hg : goodI l[k] with
      | false =>
        rw [if_neg (by decide)]
        exact .inr ⟨rfl, fun hc => by have := (hc hk).1; rw [hg] at this; cases this⟩
      | true =>
        rw [if_pos rfl]
        by_cases h0 : k = 0
        · have c3 : ¬ ((0 : Int) < (k : Int)) := by omega
          rw [if_neg c3, if_pos c2]
          exact .inl ⟨rfl, fun _ => ⟨hg, fun hh => absurd hh (by omega)⟩⟩
        · have c3 : (0 : Int) < (k : Int) := by omega
          have ea : at? l ((k : Int) - 1) = some l[k - 1] := by rw [show (k : Int) - 1 = ((k - 1 : Nat) : Int) by omega, at?_in (by omega : k - 1 < l.length)]
          have e3 : M_roster_order l[k - 1] l[k].Publisher = some () := rfl
          rw [if_pos c3, if_pos c4, ea, some_bindP, e3, some_bindP]
          cases hc : ltS (pubI l[k - 1]) (pubI l[k]) with
          | true =>
            rw [if_neg (fun e => by rw [le_compareR, hc] at e; cases e), if_pos c2]
            exact .inl ⟨rfl, fun _ => ⟨hg, fun _ => hc⟩⟩
          | false =>
            rw [if_pos ((le_compareR _ _).2 hc)]
            exact .inr ⟨rfl, fun hh => by have := (hh hk).2 (by omega); unfold befI at this; rw [hc] at this; cases this⟩
    rcases key with ⟨h1, h2⟩ | ⟨h1, h2⟩
    · obtain ⟨r, h3, h4⟩ := ih (k + 1) (by omega)
      refine ⟨r, ?_, ?_⟩
      · rw [loopO_next (s' := ((k + 1 : Nat) : Int)) (by show M_roster_Good_v_b1 l (k : Int) = _; rw [h1]; rfl)]; exact h3
      · rcases h4 with ⟨e, h4⟩ | ⟨e, h4⟩
        · refine .inl ⟨e, fun j hj => ?_⟩
          by_cases hjk : j = k
          · rw [hjk]; exact h2
          · exact h4 j (by omega)
        · exact .inr ⟨e, fun hh => h4 fun j hj => hh j (by omega)⟩
    · exact ⟨.inr false, loopO_end (by show M_roster_Good_v_b1 l (k : Int) = _; rw [h1]), .inr ⟨rfl, fun hh => h2 (hh k (Nat.le_refl _))⟩⟩
theorem roster_goodR {l : List G_api_Instance} (hl : ∀ x ∈ l, x.Target.length ≤ 140737488355328) (hn : l.length ≤ 1000000) : M_roster_Good_v l = some (isGoodR l) := by
  obtain ⟨r, h1, h2⟩ := goodR_sim hl hn l.length 0 (by omega)
  rw [show ((0 : Nat) : Int) = 0 from rfl] at h1
  unfold M_roster_Good_v
  rw [h1, some_bindP]
  rcases h2 with ⟨rfl, h2⟩ | ⟨rfl, h2⟩
  · simp only []
    by_cases h16 : l.length ≤ 16
    · rw [isGoodR_iff.2 (chkR_all.1 ⟨h2, h16⟩), decide_eq_true (by omega)]
    · rw [isGoodR_neg.2 (fun hg => h16 hg.few), decide_eq_false (by omega)]
  · simp only []
    rw [isGoodR_neg.2 (fun hg => h2 (chkR_all.2 hg).1)]
theorem goodR_len {l : List G_api_Instance} (h : GoodR l) : ∀ x ∈ l, x.Target.length ≤ 140737488355328 := fun x hx => by have := goodI_len (h.good x hx); omega
/-! ### rosters -/
theorem le_compare (a b : List UInt8) : (0 : Int) ≤ Lib.compareBytes a b ↔ ltS a b = false := by
  rw [compare_ltS]
  cases ltS a b with
  | true => simp
  | false =>
    simp only [Bool.false_eq_true, if_false, Bool.false_or]
    split <;> simp
theorem good_sim {l : List G_api_Instance} (hl : ∀ x ∈ l, x.Target.length ≤ 1000000) (hn : l.length ≤ 1000000) : ∀ (d k : Nat), l.length = k + d →
    ∃ r, loopO (fun z_ => M_roster_Good_v_b1 l z_) (k : Int) = some r ∧ loopO (fun z_ => M_signpostref12_Good_v_b1 l z_) (k : Int) = some r := by
  intro d
  induction d with
  | zero =>
    intro k h
    exact ⟨.inl (), loopO_end (by unfold M_roster_Good_v_b1; rw [if_neg (by omega)]), loopO_end (by unfold M_signpostref12_Good_v_b1; rw [if_neg (by omega)])⟩
  | succ d ih =>
    intro k h
    have hk : k < l.length := by omega
    have ht := hl _ (List.getElem_mem hk)
    have key : ∃ c : Bool, M_roster_Good_v_b1 l (k : Int) = (if c = true then some (.inl ((k : Int) + 1)) else some (.inr (.inr false))) ∧ M_signpostref12_Good_v_b1 l (k : Int) = (if c = true then some (.inl ((k : Int) + 1)) else some (.inr (.inr false))) := by
      have c1 : (k : Int) < (l.length : Int) := by omega
      have c2 : ok64 ((k : Int) + 1) := ok_small (by omega)
      have c4 : ok64 ((k : Int) - 1) := ok_small (by omega)
      have i1 := inst_good (i := l[k]) (by omega)
      have i2 := ref11_good (i := l[k]) ht
      unfold M_roster_Good_v_b1 M_signpostref12_Good_v_b1
      simp only [if_pos c1, at?_in hk, some_bindP, i1, i2]
      cases goodI l[k] with
      | false => exact ⟨false, rfl, rfl⟩
      | true =>
        by_cases h0 : k = 0
        · have c3 : ¬ ((0 : Int) < (k : Int)) := by omega
          simp only [if_neg c3, if_pos c2, if_true]
          exact ⟨true, rfl, rfl⟩
        · have c3 : (0 : Int) < (k : Int) := by omega
          have ea : at? l ((k : Int) - 1) = some l[k - 1] := by rw [show (k : Int) - 1 = ((k - 1 : Nat) : Int) by omega, at?_in (by omega : k - 1 < l.length)]
          have e3 : M_roster_order l[k - 1] l[k].Publisher = some () := rfl
          have e4 : M_signpostref12_before l[k - 1] l[k] = some () := rfl
          simp only [if_pos c3, if_pos c2, if_pos c4, ea, some_bindP, e3, e4, if_true]
          cases hc : ltS (List.ofFn l[k - 1].Publisher) (List.ofFn l[k].Publisher) with
          | true => exact ⟨true, by rw [if_neg (fun e => by rw [le_compare, hc] at e; cases e)] <;> rfl, by rw [if_pos rfl] <;> rfl⟩
          | false => exact ⟨false, by rw [if_pos ((le_compare _ _).2 hc)] <;> rfl, by rw [if_neg Bool.false_ne_true] <;> rfl⟩
    obtain ⟨c, h1, h2⟩ := key
    cases c with
    | true =>
      obtain ⟨r, h3, h4⟩ := ih (k + 1) (by omega)
      refine ⟨r, ?_, ?_⟩
      · rw [loopO_next (s' := ((k + 1 : Nat) : Int)) (by show M_roster_Good_v_b1 l (k : Int) = _; rw [h1]; rfl)]; exact h3
      · rw [loopO_next (s' := ((k + 1 : Nat) : Int)) (by show M_signpostref12_Good_v_b1 l (k : Int) = _; rw [h2]; rfl)]; exact h4
    | false =>
      refine ⟨.inr false, loopO_end ?_, loopO_end ?_⟩
      · show M_roster_Good_v_b1 l (k : Int) = _; rw [h1]; rfl
      · show M_signpostref12_Good_v_b1 l (k : Int) = _; rw [h2]; rfl
theorem roster_good {l : List G_api_Instance} (hl : ∀ x ∈ l, x.Target.length ≤ 1000000) (hn : l.length ≤ 1000000) : ∃ g, M_roster_Good_v l = some g ∧ M_signpostref12_Good_v l = some g := by
  obtain ⟨r, h1, h2⟩ := good_sim hl hn l.length 0 (by omega)
  rw [show ((0 : Nat) : Int) = 0 from rfl] at h1 h2
  unfold M_roster_Good_v M_signpostref12_Good_v
  rw [h1, h2]
  cases r <;> exact ⟨_, rfl, rfl⟩
theorem good_nil : M_roster_Good_v [] = some true := by
  unfold M_roster_Good_v
  rw [loopO_end (r := .inl ()) (by unfold M_roster_Good_v_b1; rw [if_neg (by decide)]), some_bindP]; rfl
def bytesL (l : List G_api_Instance) : List UInt8 := (l.map bytesI).flatten
def bytesR (l : List G_api_Instance) : List UInt8 := putF (UInt64.ofInt (l.length : Int)) 1 ++ bytesL l
theorem bytesL_cons (x : G_api_Instance) (l : List G_api_Instance) : bytesL (x :: l) = bytesI x ++ bytesL l := rfl
theorem bytesI_len {i : G_api_Instance} (h : i.Target.length ≤ 1000) : (bytesI i).length ≤ 2000 := by
  unfold bytesI tailI
  simp only [List.length_append, List.length_ofFn, putF_len]
  split <;> simp only [List.length_append, putF_len] <;> omega
theorem bytesL_len {l : List G_api_Instance} (h : ∀ x ∈ l, x.Target.length ≤ 1000) : (bytesL l).length ≤ 2000 * l.length := by
  induction l with
  | nil => exact Nat.le_refl _
  | cons x l ih =>
    have h1 := bytesI_len (h x List.mem_cons_self)
    have h2 := ih fun y hy => h y (List.mem_cons_of_mem _ hy)
    rw [bytesL_cons, List.length_append, List.length_cons]; omega
theorem bytes_loop {l : List G_api_Instance} (hg : GoodR l) : ∀ (d k : Nat) (out : List UInt8), l.length = k + d → out.length ≤ 100 + 2000 * k →
    loopO (fun z_ => M_roster_Bytes_v_b1 l z_.1 z_.2) (out, (k : Int)) = some (out ++ bytesL (l.drop k)) := by
  have hfew := hg.few
  intro d
  induction d with
  | zero =>
    intro k out h _
    rw [List.drop_of_length_le (by omega), show bytesL [] = [] from rfl, List.append_nil]
    exact loopO_end (by
      show M_roster_Bytes_v_b1 l out (k : Int) = _
      unfold M_roster_Bytes_v_b1
      rw [if_neg (by omega)])
  | succ d ih =>
    intro k out h ho
    have hk : k < l.length := by omega
    have hgk := hg.good _ (List.getElem_mem hk)
    have htl := goodI_len hgk
    have hbl := bytesI_len (i := l[k]) (by omega)
    rw [List.drop_eq_getElem_cons hk, bytesL_cons, ← List.append_assoc]
    rw [loopO_next (s' := (out ++ bytesI l[k], ((k + 1 : Nat) : Int))) (by
      show M_roster_Bytes_v_b1 l out (k : Int) = _
      unfold M_roster_Bytes_v_b1
      rw [if_pos (by omega), at?_in hk, some_bindP, inst_bytes (by omega), if_pos hgk, some_bindP]
      simp only []
      rw [if_pos (by omega), if_pos (ok_small (by omega)), Int.natCast_add, Int.natCast_one])]
    exact ih (k + 1) _ (by omega) (by rw [List.length_append]; omega)
theorem roster_bytes {l : List G_api_Instance} (hl : ∀ x ∈ l, x.Target.length ≤ 140737488355328) (hn : l.length ≤ 1000000) : M_roster_Bytes_v l = some (if isGoodR l = true then (bytesR l, 0) else ([], 2)) := by
  unfold M_roster_Bytes_v
  rw [roster_goodR hl hn, some_bindP]
  by_cases h : isGoodR l = true
  · have hg := isGoodR_iff.1 h
    have hp := octet_put (b := []) (n := UInt64.ofInt (l.length : Int)) (w := 1) (by simp)
    rw [if_pos (by decide), List.nil_append, show (1 : Int).toNat = 1 from rfl] at hp
    have hb := bytes_loop hg l.length 0 (putF (UInt64.ofInt (l.length : Int)) 1) (by omega) (by rw [putF_len]; omega)
    rw [show ((0 : Nat) : Int) = 0 from rfl, List.drop_zero] at hb
    rw [if_pos h, if_pos h, hp, some_bindP, hb, some_bindP]
    rfl
  · rw [if_neg h, if_neg h]
/-- The host and the port that six bytes tell. -/
def hostS (b : List UInt8) : UInt32 := (num (b.take 4)).toUInt32
def portS (b : List UInt8) : UInt16 := (num ((b.drop 4).take 2)).toUInt16
/-- A contact, whoever's. -/
structure CT where
  id : Fin 20 → UInt8
  host : UInt32
  port : UInt16
def CT.p (c : CT) : G_api_Contact := ⟨c.id, ⟨c.host, c.port⟩⟩
def idS (b : List UInt8) : Fin 20 → UInt8 := copyA (fun _ => 0) b
def contS (b : List UInt8) : Option CT := if b.length = 26 ∧ hostS (b.drop 20) ≠ 0 ∧ portS (b.drop 20) ≠ 0 then some ⟨idS b, hostS (b.drop 20), portS (b.drop 20)⟩ else none
def CT.r (c : CT) : G_signpostref08_Contact := ⟨c.id, ⟨c.host, c.port⟩⟩
theorem addr_good (a : G_api_Addr) : M_addr_Good a = some (decide (a.Host ≠ 0 ∧ a.Port ≠ 0)) := by
  unfold M_addr_Good
  by_cases h : a.Host = 0
  · simp [h]
  · rw [if_neg h]
    by_cases h2 : a.Port = 0
    · simp [h2]
    · rw [if_neg h2]
      have : ¬ a = ⟨0, 0⟩ := fun e => h (by rw [e])
      simp [h, h2, this]
theorem ref06_good (a : G_signpostref06_Addr) : M_signpostref06_Good a = some (decide (a.Host ≠ 0 ∧ a.Port ≠ 0)) := by
  unfold M_signpostref06_Good
  by_cases h : a.Host = 0
  · simp [h]
  · rw [if_neg h]
    simp [h]
/-- The place of the first contact of an ID, from a place on; or -1. -/
def findF (id : Fin 20 → UInt8) : Int → List CT → Int
  | _, [] => -1
  | k, c :: l => if c.id = id then k else findF id (k + 1) l
theorem find_loopP {l : List CT} {id : Fin 20 → UInt8} (hl : l.length ≤ 4611686018427387904) : ∀ (d k : Nat), l.length = k + d →
    loopO (fun z_ => M_slices_IndexFunc_Contact_v_contact_Find_1p_b1 id (l.map CT.p) z_) (k : Int) = some (if findF id k (l.drop k) = -1 then .inl () else .inr (findF id k (l.drop k))) := by
  intro d
  induction d with
  | zero =>
    intro k h
    rw [loopO_end (r := .inl ()) (by unfold M_slices_IndexFunc_Contact_v_contact_Find_1p_b1; rw [if_neg (by rw [List.length_map]; omega)]), List.drop_of_length_le (by omega)]; rfl
  | succ d ih =>
    intro k h
    have hk : k < l.length := by omega
    have hx : at? (l.map CT.p) (k : Int) = some (l[k].p) := by rw [at?_in (by rw [List.length_map]; exact hk)]; simp
    rw [List.drop_eq_getElem_cons hk]
    unfold findF
    by_cases hc : l[k].id = id
    · rw [if_pos hc, if_neg (by omega)]
      exact loopO_end (by
        unfold M_slices_IndexFunc_Contact_v_contact_Find_1p_b1 M_contact_Find_1_p
        rw [if_pos (by rw [List.length_map]; omega), hx, Option.bind_some, Option.bind_some, if_pos (show l[k].p.ID = id from hc)])
    · rw [if_neg hc, loopO_next (s' := ((k + 1 : Nat) : Int)) (by
        unfold M_slices_IndexFunc_Contact_v_contact_Find_1p_b1 M_contact_Find_1_p
        rw [if_pos (by rw [List.length_map]; omega), hx, Option.bind_some, Option.bind_some, if_neg (show ¬ l[k].p.ID = id from hc), if_pos (ok_small (by omega))]; rfl), ih (k + 1) (by omega)]
      rfl
def findS (l : List CT) (id : Fin 20 → UInt8) : Int := findF id 0 l
theorem contact_find {l : List CT} {id : Fin 20 → UInt8} (hl : l.length ≤ 4611686018427387904) : M_contact_Find_v (l.map CT.p) id = some (findS l id) := by
  unfold M_contact_Find_v M_slices_IndexFunc_Contact_v_contact_Find_1p
  have := find_loopP (id := id) hl l.length 0 (by omega)
  rw [show ((0 : Nat) : Int) = 0 from rfl] at this
  rw [this, Option.bind_some]
  unfold findS
  rw [List.drop_zero]
  by_cases h : findF id 0 l = -1
  · rw [if_pos h, h]; rfl
  · rw [if_neg h]; rfl
theorem find_loopR {l : List CT} {id : Fin 20 → UInt8} (hl : l.length ≤ 4611686018427387904) : ∀ (d k : Nat), l.length = k + d →
    loopO (fun z_ => M_signpostref08_Find_v_b1 id (l.map CT.r) z_) (k : Int) = some (if findF id k (l.drop k) = -1 then .inl () else .inr (findF id k (l.drop k))) := by
  intro d
  induction d with
  | zero =>
    intro k h
    rw [loopO_end (r := .inl ()) (by unfold M_signpostref08_Find_v_b1; rw [if_neg (by rw [List.length_map]; omega)]), List.drop_of_length_le (by omega)]; rfl
  | succ d ih =>
    intro k h
    have hk : k < l.length := by omega
    have hx : at? (l.map CT.r) (k : Int) = some (l[k].r) := by rw [at?_in (by rw [List.length_map]; exact hk)]; simp
    rw [List.drop_eq_getElem_cons hk]
    unfold findF
    by_cases hc : l[k].id = id
    · rw [if_pos hc, if_neg (by omega)]
      exact loopO_end (by
        unfold M_signpostref08_Find_v_b1
        rw [if_pos (by rw [List.length_map]; omega), hx, Option.bind_some, if_pos (show l[k].r.ID = id from hc)])
    · rw [if_neg hc, loopO_next (s' := ((k + 1 : Nat) : Int)) (by
        unfold M_signpostref08_Find_v_b1
        rw [if_pos (by rw [List.length_map]; omega), hx, Option.bind_some, if_neg (show ¬ l[k].r.ID = id from hc), if_pos (ok_small (by omega))]; rfl), ih (k + 1) (by omega)]
      rfl
theorem ref08_find {l : List CT} {id : Fin 20 → UInt8} (hl : l.length ≤ 4611686018427387904) : M_signpostref08_Find_v (l.map CT.r) id = some (findS l id) := by
  unfold M_signpostref08_Find_v
  have := find_loopR (id := id) hl l.length 0 (by omega)
  rw [show ((0 : Nat) : Int) = 0 from rfl] at this
  rw [this, Option.bind_some]
  unfold findS
  rw [List.drop_zero]
  by_cases h : findF id 0 l = -1
  · rw [if_pos h, h]
  · rw [if_neg h]
/-- Whether the contacts of a list, from a place on, are good, and first of their IDs. -/
def goodF (l : List CT) : Int → List CT → Bool
  | _, [] => true
  | k, c :: r => decide (c.host ≠ 0 ∧ c.port ≠ 0) && decide (findS l c.id = k) && goodF l (k + 1) r
theorem good_loopP {l : List CT} (hl : l.length ≤ 4611686018427387904) : ∀ (d k : Nat), l.length = k + d →
    loopO (fun z_ => M_contact_good_v_b1 (l.map CT.p) z_) (k : Int) = some (if goodF l k (l.drop k) = true then .inl () else .inr false) := by
  intro d
  induction d with
  | zero =>
    intro k h
    rw [loopO_end (r := .inl ()) (by unfold M_contact_good_v_b1; rw [if_neg (by rw [List.length_map]; omega)]), List.drop_of_length_le (by omega)]; rfl
  | succ d ih =>
    intro k h
    have hk : k < l.length := by omega
    have hx : at? (l.map CT.p) (k : Int) = some (l[k].p) := by rw [at?_in (by rw [List.length_map]; exact hk)]; simp
    have hb : M_contact_good_v_b1 (l.map CT.p) (k : Int) = if l[k].host ≠ 0 ∧ l[k].port ≠ 0 then if findS l l[k].id = k then some (.inl ((k : Int) + 1)) else some (.inr (.inr false)) else some (.inr (.inr false)) := by
      unfold M_contact_good_v_b1 M_contact_Good
      rw [if_pos (by rw [List.length_map]; omega), hx, Option.bind_some, addr_good, Option.bind_some, Option.bind_some]
      simp only [decide_eq_true_eq]
      have e : (l[k].p.Addr.Host ≠ 0 ∧ l[k].p.Addr.Port ≠ 0) ↔ (l[k].host ≠ 0 ∧ l[k].port ≠ 0) := Iff.rfl
      by_cases hg : l[k].host ≠ 0 ∧ l[k].port ≠ 0
      · rw [if_pos (e.2 hg), if_pos hg, show l[k].p.ID = l[k].id from rfl, contact_find hl, Option.bind_some, if_pos (ok_small (by omega))]
      · rw [if_neg (fun hh => hg (e.1 hh)), if_neg hg]
    rw [List.drop_eq_getElem_cons hk]
    unfold goodF
    by_cases hg : l[k].host ≠ 0 ∧ l[k].port ≠ 0
    · by_cases hf : findS l l[k].id = k
      · rw [loopO_next (s' := ((k + 1 : Nat) : Int)) (by show M_contact_good_v_b1 (l.map CT.p) (k : Int) = _; rw [hb, if_pos hg, if_pos hf]; rfl), ih (k + 1) (by omega), decide_eq_true hg, decide_eq_true hf]
        simp
      · rw [loopO_end (r := .inr false) (by show M_contact_good_v_b1 (l.map CT.p) (k : Int) = _; rw [hb, if_pos hg, if_neg hf]), decide_eq_false hf]
        simp
    · rw [loopO_end (r := .inr false) (by show M_contact_good_v_b1 (l.map CT.p) (k : Int) = _; rw [hb, if_neg hg]), decide_eq_false hg]
      simp
def goodS (l : List CT) : Bool := goodF l 0 l && decide ((l.length : Int) ≤ 64)
theorem contact_good {l : List CT} (hl : l.length ≤ 4611686018427387904) : M_contact_good_v (l.map CT.p) = some (goodS l) := by
  unfold M_contact_good_v goodS
  have := good_loopP hl l.length 0 (by omega)
  rw [show ((0 : Nat) : Int) = 0 from rfl] at this
  rw [this, Option.bind_some, List.drop_zero]
  cases h : goodF l 0 l <;> simp
theorem good_loopR {l : List CT} (hl : l.length ≤ 4611686018427387904) : ∀ (d k : Nat), l.length = k + d →
    loopO (fun z_ => M_signpostref08_GoodList_v_b1 (l.map CT.r) z_) (k : Int) = some (if goodF l k (l.drop k) = true then .inl () else .inr false) := by
  intro d
  induction d with
  | zero =>
    intro k h
    rw [loopO_end (r := .inl ()) (by unfold M_signpostref08_GoodList_v_b1; rw [if_neg (by rw [List.length_map]; omega)]), List.drop_of_length_le (by omega)]; rfl
  | succ d ih =>
    intro k h
    have hk : k < l.length := by omega
    have hx : at? (l.map CT.r) (k : Int) = some (l[k].r) := by rw [at?_in (by rw [List.length_map]; exact hk)]; simp
    have hb : M_signpostref08_GoodList_v_b1 (l.map CT.r) (k : Int) = if l[k].host ≠ 0 ∧ l[k].port ≠ 0 then if findS l l[k].id = k then some (.inl ((k : Int) + 1)) else some (.inr (.inr false)) else some (.inr (.inr false)) := by
      unfold M_signpostref08_GoodList_v_b1 M_signpostref08_Good
      rw [if_pos (by rw [List.length_map]; omega), hx, Option.bind_some, ref06_good, Option.bind_some, Option.bind_some]
      simp only [decide_eq_true_eq]
      have e : (l[k].r.Addr.Host ≠ 0 ∧ l[k].r.Addr.Port ≠ 0) ↔ (l[k].host ≠ 0 ∧ l[k].port ≠ 0) := Iff.rfl
      by_cases hg : l[k].host ≠ 0 ∧ l[k].port ≠ 0
      · rw [if_pos (e.2 hg), if_pos hg, show l[k].r.ID = l[k].id from rfl, ref08_find hl, Option.bind_some, if_pos (ok_small (by omega))]
      · rw [if_neg (fun hh => hg (e.1 hh)), if_neg hg]
    rw [List.drop_eq_getElem_cons hk]
    unfold goodF
    by_cases hg : l[k].host ≠ 0 ∧ l[k].port ≠ 0
    · by_cases hf : findS l l[k].id = k
      · rw [loopO_next (s' := ((k + 1 : Nat) : Int)) (by show M_signpostref08_GoodList_v_b1 (l.map CT.r) (k : Int) = _; rw [hb, if_pos hg, if_pos hf]; rfl), ih (k + 1) (by omega), decide_eq_true hg, decide_eq_true hf]
        simp
      · rw [loopO_end (r := .inr false) (by show M_signpostref08_GoodList_v_b1 (l.map CT.r) (k : Int) = _; rw [hb, if_pos hg, if_neg hf]), decide_eq_false hf]
        simp
    · rw [loopO_end (r := .inr false) (by show M_signpostref08_GoodList_v_b1 (l.map CT.r) (k : Int) = _; rw [hb, if_neg hg]), decide_eq_false hg]
      simp
theorem ref08_good {l : List CT} (hl : l.length ≤ 4611686018427387904) : M_signpostref08_GoodList_v (l.map CT.r) = some (goodS l) := by
  unfold M_signpostref08_GoodList_v goodS
  have := good_loopR hl l.length 0 (by omega)
  rw [show ((0 : Nat) : Int) = 0 from rfl] at this
  rw [this, Option.bind_some, List.drop_zero]
  cases h : goodF l 0 l <;> simp
/-- The bytes of a contact; of contacts. -/
def bytesC (c : CT) : List UInt8 := List.ofFn c.id ++ (putF c.host.toUInt64 4 ++ putF c.port.toUInt64 2)
def flatC : List CT → List UInt8
  | [] => []
  | c :: l => bytesC c ++ flatC l
theorem bytesC_len (c : CT) : (bytesC c).length = 26 := by
  unfold bytesC
  rw [List.length_append, List.length_append, List.length_ofFn, putF_len, putF_len]
theorem flatC_len : ∀ l : List CT, (flatC l).length = l.length * 26
  | [] => rfl
  | c :: l => by rw [flatC, List.length_append, bytesC_len, flatC_len l, List.length_cons]; omega
theorem flatC_append : ∀ l l' : List CT, flatC (l ++ l') = flatC l ++ flatC l'
  | [], l' => rfl
  | c :: l, l' => by rw [List.cons_append, flatC, flatC, flatC_append l l', List.append_assoc]
theorem goodF_mem (l : List CT) : ∀ (r : List CT) (k : Int), goodF l k r = true → ∀ c ∈ r, c.host ≠ 0 ∧ c.port ≠ 0
  | [], _, _, c, hc => by cases hc
  | x :: r, k, h, c, hc => by
    simp only [goodF, Bool.and_eq_true, decide_eq_true_eq] at h
    rcases List.mem_cons.1 hc with rfl | hc
    · exact h.1.1
    · exact goodF_mem l r (k + 1) h.2 c hc
theorem goodS_mem {l : List CT} (h : goodS l = true) : l.length ≤ 64 ∧ ∀ c ∈ l, c.host ≠ 0 ∧ c.port ≠ 0 := by
  unfold goodS at h
  rw [Bool.and_eq_true, decide_eq_true_eq] at h
  exact ⟨by omega, goodF_mem l l 0 h.1⟩
/-! ### contacts to bytes -/
theorem num_put_toNat (n : UInt64) (d : Nat) : (num (putF n d)).toNat = n.toNat % 256 ^ d % 18446744073709551616 := by
  have := num_put n d 0
  rw [show (0 : UInt64).toNat = 0 from rfl, Nat.zero_mul, Nat.zero_add] at this
  exact this
theorem addr_bytes (a : G_api_Addr) : M_addr_Bytes a = some (putF a.Host.toUInt64 4 ++ putF a.Port.toUInt64 2) := by
  unfold M_addr_Bytes
  rw [octet_put (by simp), Option.bind_some, if_pos (by decide), octet_put (by rw [List.nil_append, putF_len]; decide), Option.bind_some, if_pos (by decide)]
  rfl
theorem contact_bytes (c : G_api_Contact) : M_contact_Bytes c = some (List.ofFn c.ID ++ (putF c.Addr.Host.toUInt64 4 ++ putF c.Addr.Port.toUInt64 2)) := by
  unfold M_contact_Bytes
  rw [addr_bytes, Option.bind_some]
  have e2 : (putF c.Addr.Host.toUInt64 4 ++ putF c.Addr.Port.toUInt64 2).length = 6 := by rw [List.length_append, putF_len, putF_len]
  generalize putF c.Addr.Host.toUInt64 4 ++ putF c.Addr.Port.toUInt64 2 = y at e2
  have e1 : (List.ofFn c.ID).length = 20 := List.length_ofFn
  generalize List.ofFn c.ID = x at e1
  unfold M_slices_Concat_byte_s2vo
  rw [e1, e2, if_pos (by decide), if_neg (by decide), if_pos (by decide), if_neg (by decide)]
  have eg : M_slices_Grow_byte_n ((0 + ((20 : Nat) : Int)) + ((6 : Nat) : Int)) = some [] := by
    unfold M_slices_Grow_byte_n
    rw [if_neg (by decide), if_pos (by decide), if_pos (by decide), if_pos (by decide), if_pos (by simp), if_pos (by simp)]
    rfl
  rw [eg, Option.bind_some, if_pos (by simp), if_pos (by simp [e1]), Option.bind_some]
  rfl
theorem contS_bytes (c : CT) : contS (List.ofFn c.id ++ (putF c.host.toUInt64 4 ++ putF c.port.toUInt64 2)) = if c.host ≠ 0 ∧ c.port ≠ 0 then some c else none := by
  have e1 : (List.ofFn c.id).length = 20 := List.length_ofFn
  have ed : (List.ofFn c.id ++ (putF c.host.toUInt64 4 ++ putF c.port.toUInt64 2)).drop 20 = putF c.host.toUInt64 4 ++ putF c.port.toUInt64 2 := by
    exact List.drop_left' e1
  have el4 : (putF c.host.toUInt64 4).length = 4 := putF_len _ _
  have eh : hostS (putF c.host.toUInt64 4 ++ putF c.port.toUInt64 2) = c.host := by
    unfold hostS
    rw [List.take_append_of_le_length (by omega), List.take_of_length_le (by omega)]
    apply UInt32.toNat_inj.1
    have := c.host.toNat_lt
    have h2 := num_put_toNat c.host.toUInt64 4
    rw [UInt32.toNat_toUInt64] at h2
    rw [UInt64.toNat_toUInt32, h2]
    omega
  have ep : portS (putF c.host.toUInt64 4 ++ putF c.port.toUInt64 2) = c.port := by
    unfold portS
    have : (putF c.host.toUInt64 4 ++ putF c.port.toUInt64 2).drop 4 = putF c.port.toUInt64 2 := by
      exact List.drop_left' el4
    rw [this, List.take_of_length_le (by rw [putF_len]; omega)]
    apply UInt16.toNat_inj.1
    have := c.port.toNat_lt
    have h2 := num_put_toNat c.port.toUInt64 2
    rw [UInt16.toNat_toUInt64] at h2
    rw [UInt64.toNat_toUInt16, h2]
    omega
  have ei : idS (List.ofFn c.id ++ (putF c.host.toUInt64 4 ++ putF c.port.toUInt64 2)) = c.id := by
    unfold idS copyA
    funext i
    have hi : i.val < (List.ofFn c.id).length := by rw [e1]; exact i.isLt
    rw [List.getElem?_append_left hi, List.getElem?_eq_getElem hi]
    show (List.ofFn c.id)[i.val] = c.id i
    rw [List.getElem_ofFn]
  unfold contS
  rw [ed, eh, ep, ei]
  have el : (List.ofFn c.id ++ (putF c.host.toUInt64 4 ++ putF c.port.toUInt64 2)).length = 26 := by
    rw [List.length_append, List.length_append, e1, putF_len, putF_len]
  by_cases h : c.host ≠ 0 ∧ c.port ≠ 0
  · rw [if_pos ⟨el, h⟩, if_pos h]
  · rw [if_neg (fun hh => h hh.2), if_neg h]
theorem contact_bytesC (c : CT) : M_contact_Bytes c.p = some (bytesC c) := contact_bytes c.p
theorem list_loop {l : List CT} (hl : l.length ≤ 4096) : ∀ (d k : Nat) (out : List UInt8), l.length = k + d → out.length ≤ 1 + k * 26 →
    loopO (fun z_ => M_contact_List_v_b1 (l.map CT.p) z_.1 z_.2) (out, (k : Int)) = some (out ++ flatC (l.drop k)) := by
  intro d
  induction d with
  | zero =>
    intro k out h ho
    rw [loopO_end (r := out) (by unfold M_contact_List_v_b1; rw [if_neg (by rw [List.length_map]; omega)]), List.drop_of_length_le (by omega), flatC, List.append_nil]
  | succ d ih =>
    intro k out h ho
    have hk : k < l.length := by omega
    have hx : at? (l.map CT.p) (k : Int) = some (l[k].p) := by rw [at?_in (by rw [List.length_map]; exact hk)]; simp
    have hlen := bytesC_len l[k]
    rw [loopO_next (s' := (out ++ bytesC l[k], ((k + 1 : Nat) : Int))) (by
      show M_contact_List_v_b1 (l.map CT.p) out (k : Int) = _
      unfold M_contact_List_v_b1
      rw [if_pos (by rw [List.length_map]; omega), hx, Option.bind_some, contact_bytesC, Option.bind_some]
      rw [if_pos (by omega), if_pos (ok_small (by omega))]; rfl),
      ih (k + 1) _ (by omega) (by rw [List.length_append]; omega), List.drop_eq_getElem_cons hk, flatC, List.append_assoc]
theorem contact_list {l : List CT} (hl : l.length ≤ 4096) : M_contact_List_v (l.map CT.p) = some (if goodS l = true then (UInt8.ofNat l.length :: flatC l, 0) else ([], 2)) := by
  unfold M_contact_List_v
  rw [contact_good (by omega), Option.bind_some]
  by_cases h : goodS l = true
  · obtain ⟨h64, -⟩ := goodS_mem h
    rw [if_pos h, if_pos h, octet_put (by simp), Option.bind_some, if_pos (by decide)]
    have e : putF (UInt64.ofInt (((l.map CT.p).length : Nat) : Int)) (1 : Int).toNat = [UInt8.ofNat l.length] := by
      rw [List.length_map]
      show [(shr64 (UInt64.ofInt ((l.length : Nat) : Int)) (8 * 0)).toUInt8] = _
      congr 1
      apply UInt8.toNat_inj.1
      simp [shr64, UInt64.ofInt, UInt64.toNat_ofNat']
      omega
    rw [List.nil_append, e]
    have := list_loop hl l.length 0 [UInt8.ofNat l.length] (by omega) (by simp)
    rw [show ((0 : Nat) : Int) = 0 from rfl] at this
    rw [this, Option.bind_some, List.drop_zero]
    rfl
  · rw [if_neg h, if_neg h]
theorem CT.lift (l : List G_api_Contact) : ∃ k : List CT, l = k.map CT.p := ⟨l.map fun c => ⟨c.ID, c.Addr.Host, c.Addr.Port⟩, by rw [List.map_map]; exact (List.map_id'' (fun _ => rfl) l).symm⟩
/-! ### messages: kinds, and which are good -/
def keyK (k : Int) : Bool := decide (2 ≤ k ∧ k ≤ 9 ∧ k ≠ 5)
def contK (k : Int) : Bool := decide (k = 6)
def listK (k : Int) : Bool := decide (k = 4 ∨ k = 7)
def okK (k : Int) : Bool := decide (1 ≤ k ∧ k ≤ 9)
theorem wire_has (k : Int) : M_wire_has k = some (⟨keyK k, contK k, listK k⟩, okK k) := by
  by_cases h1 : k = 1
  · subst h1; rfl
  by_cases h2 : k = 2
  · subst h2; rfl
  by_cases h3 : k = 3
  · subst h3; rfl
  by_cases h4 : k = 4
  · subst h4; rfl
  by_cases h5 : k = 5
  · subst h5; rfl
  by_cases h6 : k = 6
  · subst h6; rfl
  by_cases h7 : k = 7
  · subst h7; rfl
  by_cases h8 : k = 8
  · subst h8; rfl
  by_cases h9 : k = 9
  · subst h9; rfl
  have e1 : keyK k = false := decide_eq_false (by omega)
  have e2 : contK k = false := decide_eq_false (by omega)
  have e3 : listK k = false := decide_eq_false (by omega)
  have e4 : okK k = false := decide_eq_false (by omega)
  rw [e1, e2, e3, e4]
  unfold M_wire_has M_wire_has_k2 M_wire_has_k3
  rw [if_neg h4, if_neg h7, if_neg h6, if_neg h1, decide_eq_false h5, decide_eq_false h9, if_neg (by decide), if_neg h2, if_neg h3, if_neg h8, if_neg (by decide)]
noncomputable def restW (k : Int) (C : List CT) (R : List G_api_Instance) : Bool := (if contK k = true then goodS C else C.isEmpty) && (if listK k = true then !R.isEmpty && isGoodR R else R.isEmpty)
noncomputable def goodW (k : Int) (key : Fin 20 → UInt8) (C : List CT) (R : List G_api_Instance) : Bool := okK k && (keyK k || decide (key = fun _ => 0)) && restW k C R
theorem empty_len {α : Type} (l : List α) : decide ((l.length : Int) = 0) = l.isEmpty := by cases l <;> simp <;> omega
theorem good_k3 {C : List CT} {R : List G_api_Instance} (a b c : Bool) : M_wire_Good_vv_2_k3 (C.map CT.p) R ⟨a, b, c⟩ = some ((b || C.isEmpty) && (c || R.isEmpty)) := by
  have e1 := empty_len C
  have e2 := empty_len R
  unfold M_wire_Good_vv_2_k3
  rw [List.length_map]
  cases b with
  | true =>
    simp only [if_true, Bool.true_or, Bool.true_and]
    cases c with
    | true => simp
    | false => simp only [Bool.false_eq_true, if_false, Bool.false_or]; rw [e2]
  | false =>
    simp only [Bool.false_eq_true, if_false, Bool.false_or]
    by_cases h : (C.length : Int) = 0
    · rw [decide_eq_true h] at e1
      rw [if_pos h, ← e1, Bool.true_and]
      cases c with
      | true => simp
      | false => simp only [Bool.false_eq_true, if_false, Bool.false_or]; rw [e2]
    · rw [decide_eq_false h] at e1
      rw [if_neg h, ← e1, Bool.false_and]
theorem good_k2 {C : List CT} {R : List G_api_Instance} (hR : (∀ x ∈ R, x.Target.length ≤ 140737488355328) ∧ R.length ≤ 1000000) (a b c : Bool) : M_wire_Good_vv_2_k2 (C.map CT.p) R ⟨a, b, c⟩ = some ((b || C.isEmpty) && (if c = true then !R.isEmpty && isGoodR R else R.isEmpty)) := by
  have e2 := empty_len R
  unfold M_wire_Good_vv_2_k2
  simp only [good_k3]
  cases c with
  | true =>
    simp only [if_true, Bool.true_or, Bool.and_true]
    by_cases h : (R.length : Int) = 0
    · rw [decide_eq_true h] at e2
      rw [if_pos h, ← e2, Bool.not_true, Bool.false_and, Bool.and_false]
    · rw [decide_eq_false h] at e2
      rw [if_neg h, ← e2, Bool.not_false, Bool.true_and, roster_goodR hR.1 hR.2, some_bindP]
      cases isGoodR R with
      | true => rw [if_pos rfl, Bool.and_true]
      | false => rw [if_neg (by decide), Bool.and_false]
  | false => simp only [Bool.false_eq_true, if_false, Bool.false_or]
theorem good_k1 {C : List CT} {R : List G_api_Instance} (hC : C.length ≤ 4096) (hR : (∀ x ∈ R, x.Target.length ≤ 140737488355328) ∧ R.length ≤ 1000000) (a b c : Bool) : M_wire_Good_vv_2_k1 (C.map CT.p) R ⟨a, b, c⟩ = some ((if b = true then goodS C else C.isEmpty) && (if c = true then !R.isEmpty && isGoodR R else R.isEmpty)) := by
  unfold M_wire_Good_vv_2_k1
  simp only [good_k2 hR, contact_list hC]
  cases b with
  | true =>
    simp only [if_true, Bool.true_or, Bool.true_and]
    cases goodS C with
    | true => rw [if_pos rfl, some_bindP]; simp only [if_true, Bool.true_and]
    | false => rw [if_neg (by decide), some_bindP]; simp only []; rw [if_neg (by decide), Bool.false_and]
  | false => simp only [Bool.false_eq_true, if_false, Bool.false_or]
theorem wire_good {k : Int} {t : UInt32} {f key : Fin 20 → UInt8} {C : List CT} {R : List G_api_Instance} (hC : C.length ≤ 4096) (hR : (∀ x ∈ R, x.Target.length ≤ 140737488355328) ∧ R.length ≤ 1000000) : M_wire_Good_vv_2 k t f key (C.map CT.p) R = some (goodW k key C R) := by
  unfold M_wire_Good_vv_2 goodW
  rw [wire_has, some_bindP]
  simp only [good_k1 hC hR]
  rw [show ((if contK k = true then goodS C else C.isEmpty) && (if listK k = true then !R.isEmpty && isGoodR R else R.isEmpty)) = restW k C R from rfl]
  cases okK k with
  | false => rw [if_neg (by decide), Bool.false_and, Bool.false_and]
  | true =>
    rw [if_pos rfl, Bool.true_and]
    cases keyK k with
    | true => rw [if_pos rfl, Bool.true_or, Bool.true_and]
    | false =>
      rw [if_neg (by decide), Bool.false_or]
      by_cases h : key = fun _ => 0
      · rw [if_pos h, decide_eq_true h, Bool.true_and]
      · rw [if_neg h, decide_eq_false h, Bool.false_and]
/-! ### a message's bytes -/
theorem grow_small {n : Int} (h : 0 ≤ n ∧ n ≤ 1000000) : M_slices_Grow_byte_n n = some [] := by
  unfold M_slices_Grow_byte_n
  rw [if_neg (by omega), if_pos (ok_small (by omega))]
  by_cases h0 : 0 < n - 0
  · rw [if_pos h0, if_pos (by decide), if_pos (by simp only [List.take_nil, List.length_nil]; omega), if_pos (by simp; omega)]
    rfl
  · rw [if_neg h0]
theorem concat_ov {x y : List UInt8} (hx : x.length ≤ 100000) (hy : y.length ≤ 100000) : M_slices_Concat_byte_s2ov x y = some (x ++ y) := by
  unfold M_slices_Concat_byte_s2ov
  rw [if_pos (ok_small (by omega)), if_neg (by omega), if_pos (ok_small (by omega)), if_neg (by omega), grow_small (by omega), some_bindP, List.nil_append, if_pos (by simp only [List.length_nil]; omega), if_pos (by omega)]
theorem put_one {n : UInt64} (h : n.toNat ≤ 255) : putF n 1 = [n.toUInt8] := by
  show [(shr64 n (8 * 0)).toUInt8] = _
  congr 1
  apply UInt8.toNat_inj.1
  simp [shr64]
def headW (k : Int) (t : UInt32) (f : Fin 20 → UInt8) : List UInt8 := [1, UInt8.ofInt k] ++ putF t.toUInt64 4 ++ List.ofFn f
def keyB (k : Int) (key : Fin 20 → UInt8) : List UInt8 := if keyK k = true then List.ofFn key else []
def contB (k : Int) (C : List CT) : List UInt8 := if contK k = true then UInt8.ofNat C.length :: flatC C else []
def listB (k : Int) (R : List G_api_Instance) : List UInt8 := if listK k = true then bytesR R else []
def encW (k : Int) (t : UInt32) (f key : Fin 20 → UInt8) (C : List CT) (R : List G_api_Instance) : List UInt8 := headW k t f ++ keyB k key ++ contB k C ++ listB k R
theorem kind_byte {k : Int} (h : okK k = true) : putF (UInt64.ofInt k) 1 = [UInt8.ofInt k] := by
  have hk := of_decide_eq_true h
  have e : k = 1 ∨ k = 2 ∨ k = 3 ∨ k = 4 ∨ k = 5 ∨ k = 6 ∨ k = 7 ∨ k = 8 ∨ k = 9 := by omega
  rcases e with e | e | e | e | e | e | e | e | e <;> subst e <;> decide
theorem headW_len (k : Int) (t : UInt32) (f : Fin 20 → UInt8) : (headW k t f).length = 26 := by unfold headW; rw [List.length_append, List.length_append, putF_len, List.length_ofFn]; rfl
theorem keyB_len (k : Int) (key : Fin 20 → UInt8) : (keyB k key).length ≤ 20 := by unfold keyB; split <;> simp
theorem contB_len {k : Int} {C : List CT} (h : goodS C = true ∨ contK k = false) : (contB k C).length ≤ 1 + 64 * 26 := by
  unfold contB
  split
  · rename_i hc
    rcases h with h | h
    · have := (goodS_mem h).1
      rw [List.length_cons, flatC_len]; omega
    · rw [h] at hc; cases hc
  · simp
theorem listB_len {k : Int} {R : List G_api_Instance} (h : GoodR R ∨ listK k = false) : (listB k R).length ≤ 32100 := by
  unfold listB
  split
  · rename_i hc
    rcases h with h | h
    · have h1 := bytesL_len (l := R) (fun x hx => by have := goodI_len (h.good x hx); omega)
      have h2 := h.few
      unfold bytesR
      rw [List.length_append, putF_len]; omega
    · rw [h] at hc; cases hc
  · simp
theorem goodW_parts {k : Int} {key : Fin 20 → UInt8} {C : List CT} {R : List G_api_Instance} (h : goodW k key C R = true) : okK k = true ∧ (goodS C = true ∨ contK k = false) ∧ (GoodR R ∨ listK k = false) ∧ (contK k = false → C = []) ∧ (listK k = false → R = []) ∧ (keyK k = false → key = fun _ => 0) := by
  unfold goodW restW at h
  rw [Bool.and_eq_true, Bool.and_eq_true, Bool.and_eq_true] at h
  obtain ⟨⟨h1, h2⟩, h3, h4⟩ := h
  refine ⟨h1, ?_, ?_, ?_, ?_, ?_⟩
  · cases hc : contK k with
    | true => rw [hc, if_pos rfl] at h3; exact .inl h3
    | false => exact .inr rfl
  · cases hc : listK k with
    | true => rw [hc, if_pos rfl, Bool.and_eq_true] at h4; exact .inl (isGoodR_iff.1 h4.2)
    | false => exact .inr rfl
  · intro hc
    rw [hc, if_neg (by decide)] at h3
    exact List.isEmpty_iff.1 h3
  · intro hc
    rw [hc, if_neg (by decide)] at h4
    exact List.isEmpty_iff.1 h4
  · intro hc
    rw [hc, Bool.false_or] at h2
    exact of_decide_eq_true h2
theorem enc_k2 {k : Int} {R : List G_api_Instance} {out : List UInt8} (a b : Bool) (hR : (∀ x ∈ R, x.Target.length ≤ 140737488355328) ∧ R.length ≤ 1000000) (hg : GoodR R ∨ listK k = false) (ho : out.length ≤ 100000) :
    M_wire_Encode_vv_2_k2 R ⟨a, b, listK k⟩ out = some (out ++ listB k R, 0) := by
  have hl := listB_len hg
  unfold M_wire_Encode_vv_2_k2
  unfold listB at hl ⊢
  cases hc : listK k with
  | false => simp
  | true =>
    rw [hc, if_pos rfl] at hl
    simp only [if_true]
    rcases hg with hg | hg
    · rw [roster_bytes hR.1 hR.2, if_pos (isGoodR_iff.2 hg), some_bindP]
      simp only []
      rw [if_pos (by omega)]
    · rw [hg] at hc; cases hc
theorem enc_k1 {k : Int} {C : List CT} {R : List G_api_Instance} {out : List UInt8} (a : Bool) (hC : C.length ≤ 4096) (hR : (∀ x ∈ R, x.Target.length ≤ 140737488355328) ∧ R.length ≤ 1000000) (hc : goodS C = true ∨ contK k = false) (hg : GoodR R ∨ listK k = false) (ho : out.length ≤ 1000) :
    M_wire_Encode_vv_2_k1 (C.map CT.p) R ⟨a, contK k, listK k⟩ out = some (out ++ contB k C ++ listB k R, 0) := by
  have hl := contB_len hc
  unfold M_wire_Encode_vv_2_k1
  cases hb : contK k with
  | false =>
    rw [show contB k C = [] by unfold contB; rw [hb, if_neg (by decide)], List.append_nil]
    simp only [Bool.false_eq_true, if_false]
    rw [enc_k2 _ _ hR hg (by omega)]
  | true =>
    rcases hc with hc | hc
    · have e : contB k C = UInt8.ofNat C.length :: flatC C := by unfold contB; rw [hb, if_pos rfl]
      rw [e] at hl ⊢
      simp only [if_true]
      rw [contact_list hC, if_pos hc, some_bindP]
      simp only []
      rw [if_pos (by omega), enc_k2 _ _ hR hg (by rw [List.length_append]; omega)]
    · rw [hc] at hb; cases hb
theorem wire_encode {k : Int} {t : UInt32} {f key : Fin 20 → UInt8} {C : List CT} {R : List G_api_Instance} (hC : C.length ≤ 4096) (hR : (∀ x ∈ R, x.Target.length ≤ 140737488355328) ∧ R.length ≤ 1000000) :
    M_wire_Encode_vv_2 k t f key (C.map CT.p) R = some (if goodW k key C R = true then (encW k t f key C R, 0) else ([], 2)) := by
  unfold M_wire_Encode_vv_2
  rw [wire_good hC hR, some_bindP]
  by_cases h : goodW k key C R = true
  · obtain ⟨h1, h2, h3, _, _, _⟩ := goodW_parts h
    have p1 := octet_put (b := []) (n := 1) (w := 1) (by simp)
    rw [if_pos (by decide), List.nil_append, show (1 : Int).toNat = 1 from rfl, show putF 1 1 = [1] by decide] at p1
    have p2 := octet_put (b := [1]) (n := UInt64.ofInt k) (w := 1) (by simp)
    rw [if_pos (by decide), show (1 : Int).toNat = 1 from rfl, kind_byte h1] at p2
    have p3 := octet_put (b := [1] ++ [UInt8.ofInt k]) (n := t.toUInt64) (w := 4) (by simp)
    rw [if_pos (by decide), show (4 : Int).toNat = 4 from rfl] at p3
    have hh := headW_len k t f
    rw [if_pos h, if_pos h, wire_has, some_bindP]
    simp only []
    rw [p1, some_bindP, p2, some_bindP, p3, some_bindP, concat_ov (by rw [List.length_append, putF_len]; simp) (by rw [List.length_ofFn]; decide), some_bindP]
    rw [show [1] ++ [UInt8.ofInt k] ++ putF t.toUInt64 4 ++ List.ofFn f = headW k t f from rfl]
    unfold encW
    cases hk : keyK k with
    | true =>
      rw [show keyB k key = List.ofFn key by unfold keyB; rw [hk, if_pos rfl], if_pos rfl, if_pos (by omega), enc_k1 _ hC hR h2 h3 (by rw [List.length_append, List.length_ofFn]; omega)]
    | false =>
      rw [show keyB k key = [] by unfold keyB; rw [hk, if_neg (by decide)], if_neg (by decide), enc_k1 _ hC hR h2 h3 (by omega), List.append_nil]
  · rw [if_neg h, if_neg h]
theorem wire_encode1 {k : Int} {t : UInt32} {f : Fin 20 → UInt8} {C : List G_api_Contact} {R : List G_api_Instance} : M_wire_Encode_vv k t f C R = M_wire_Encode_vv_2 k t f f C R := rfl
theorem lives14 : M_signpostlaw14_lives = some true := by
  have hg : goodW 1 (fun _ => 0) [] [] = true := rfl
  have he := wire_encode (k := 1) (t := 1) (f := fun _ => 0) (key := fun _ => 0) (C := []) (R := []) (by decide) ⟨fun x hx => absurd hx List.not_mem_nil, by decide⟩
  rw [hg, if_pos rfl] at he
  have e1 : encW 1 1 (fun _ => 0) (fun _ => 0) [] [] = headW 1 1 (fun _ => 0) := by simp [encW, keyB, contB, listB, keyK, contK, listK]
  have e2 := headW_len 1 1 (fun _ => 0)
  have e3 : (headW 1 1 (fun _ => 0)).take 6 = [1, 1, 0, 0, 0, 1] := by decide
  rw [e1] at he
  unfold M_signpostlaw14_lives
  rw [wire_encode1, show M_wire_Encode_vv_2 1 1 (fun _ => 0) (fun _ => 0) ([] : List G_api_Contact) ([] : List G_api_Instance) = _ from he, some_bindP]
  simp only []
  rw [if_pos (by omega), if_pos (by omega), if_pos e3, if_pos trivial]
  rfl
/-! ### messages, by definition -/
theorem ref12_goodR {l : List G_api_Instance} (hl : ∀ x ∈ l, x.Target.length ≤ 1000000) (hn : l.length ≤ 1000000) : M_signpostref12_Good_v l = some (isGoodR l) := by
  obtain ⟨g, h1, h2⟩ := roster_good hl hn
  rw [roster_goodR (fun x hx => by have := hl x hx; omega) hn] at h1
  rw [h2, ← h1]
theorem ref14_keyed (k : Int) : M_signpostref14_keyed k = some (keyK k) := by
  unfold M_signpostref14_keyed keyK
  by_cases h1 : 2 ≤ k
  · rw [if_pos h1]
    by_cases h2 : k ≤ 9
    · rw [if_pos h2, ← decide_not]
      exact congrArg some (decide_eq_decide.2 ⟨fun h => ⟨h1, h2, h⟩, fun h => h.2.2⟩)
    · rw [if_neg h2, decide_eq_false (fun h => h2 h.2.1)]
  · rw [if_neg h1, decide_eq_false (fun h => h1 h.1)]
theorem ref14_listed (k : Int) : M_signpostref14_listed k = some (listK k) := by
  unfold M_signpostref14_listed listK
  by_cases h1 : k = 4
  · rw [if_pos h1, decide_eq_true (.inl h1)]
  · rw [if_neg h1]
    exact congrArg some (decide_eq_decide.2 ⟨.inr, fun h => h.elim (fun e => absurd e h1) id⟩)
theorem plain14_loop {l : List CT} (hl : l.length ≤ 4096) : ∀ (d k : Nat) (out : List CT), l.length = k + d → out.length = k →
    loopO (fun z_ => M_signpostref14_Plain_v_b1 (l.map CT.p) z_.1 z_.2) (out.map CT.r, (k : Int)) = some ((out ++ l.drop k).map CT.r) := by
  intro d
  induction d with
  | zero =>
    intro k out h ho
    rw [loopO_end (r := out.map CT.r) (by unfold M_signpostref14_Plain_v_b1; rw [if_neg (by rw [List.length_map]; omega)]), List.drop_of_length_le (by omega), List.append_nil]
  | succ d ih =>
    intro k out h ho
    have hk : k < l.length := by omega
    have hx : at? (l.map CT.p) (k : Int) = some (l[k].p) := by rw [at?_in (by rw [List.length_map]; exact hk)]; simp
    rw [loopO_next (s' := ((out ++ [l[k]]).map CT.r, ((k + 1 : Nat) : Int))) (by
      show M_signpostref14_Plain_v_b1 (l.map CT.p) (out.map CT.r) (k : Int) = _
      unfold M_signpostref14_Plain_v_b1
      rw [if_pos (by rw [List.length_map]; omega), hx, some_bindP, if_pos (by rw [List.length_map]; omega), if_pos (ok_small (by omega)), List.map_append]; rfl),
      ih (k + 1) _ (by omega) (by rw [List.length_append, ho]; rfl), List.drop_eq_getElem_cons hk, List.append_assoc]
    rfl
theorem plain14 {l : List CT} (hl : l.length ≤ 4096) : M_signpostref14_Plain_v (l.map CT.p) = some (l.map CT.r) := by
  unfold M_signpostref14_Plain_v
  have := plain14_loop hl l.length 0 [] (by omega) rfl
  rw [show ((0 : Nat) : Int) = 0 from rfl, List.map_nil, List.nil_append, List.drop_zero] at this
  rw [this, some_bindP]
theorem ref14_good_k3 {k : Int} {R : List G_api_Instance} (hR : (∀ x ∈ R, x.Target.length ≤ 1000000) ∧ R.length ≤ 1000000) : M_signpostref14_Good_vv_k3 k R = some (if listK k = true then !R.isEmpty && isGoodR R else R.isEmpty) := by
  have e2 := empty_len R
  unfold M_signpostref14_Good_vv_k3
  rw [ref14_listed, some_bindP]
  cases listK k with
  | true =>
    rw [if_pos rfl, if_pos rfl]
    by_cases h : (R.length : Int) = 0
    · rw [decide_eq_true h] at e2
      rw [if_neg (by omega), ← e2, Bool.not_true, Bool.false_and]
    · rw [decide_eq_false h] at e2
      rw [if_pos (by omega), ← e2, Bool.not_false, Bool.true_and, ref12_goodR hR.1 hR.2, some_bindP]
  | false => rw [if_neg (by decide), if_neg (by decide), e2]
theorem ref14_good {k : Int} {t : UInt32} {f key : Fin 20 → UInt8} {C : List CT} {R : List G_api_Instance} (hC : C.length ≤ 4096) (hR : (∀ x ∈ R, x.Target.length ≤ 1000000) ∧ R.length ≤ 1000000) : M_signpostref14_Good_vv k t f key (C.map CT.p) R = some (goodW k key C R) := by
  have hk2 : M_signpostref14_Good_vv_k2 (C.map CT.p) k R = some (restW k C R) := by
    have e1 := empty_len C
    unfold M_signpostref14_Good_vv_k2 restW
    rw [List.length_map]
    by_cases h6 : k = 6
    · rw [if_pos h6, plain14 hC, some_bindP, ref08_good (by omega), some_bindP, show contK k = true from decide_eq_true h6, if_pos rfl, ref14_good_k3 hR]
      cases goodS C with
      | true => rw [if_pos rfl, Bool.true_and]
      | false => rw [if_neg (by decide), Bool.false_and]
    · rw [if_neg h6, show contK k = false from decide_eq_false h6, ref14_good_k3 hR]
      by_cases h : (C.length : Int) = 0
      · rw [decide_eq_true h] at e1
        rw [if_neg (by omega), if_neg Bool.false_ne_true, ← e1, Bool.true_and]
      · rw [decide_eq_false h] at e1
        rw [if_pos (by omega), if_neg Bool.false_ne_true, ← e1, Bool.false_and]
  have hk1 : ∀ b : Bool, M_signpostref14_Good_vv_k1 (C.map CT.p) key k R b = some (!b && (keyK k || decide (key = fun _ => 0)) && restW k C R) := by
    intro b
    unfold M_signpostref14_Good_vv_k1
    cases b with
    | true => rfl
    | false =>
      rw [if_neg (by decide), ref14_keyed, some_bindP, hk2, Bool.not_false, Bool.true_and]
      cases keyK k with
      | true => rw [if_pos rfl, Bool.true_or, Bool.true_and]
      | false =>
        rw [if_neg (by decide), Bool.false_or]
        by_cases h : key = fun _ => 0
        · rw [if_pos h, decide_eq_true h, Bool.true_and]
        · rw [if_neg h, decide_eq_false h, Bool.false_and]
  unfold M_signpostref14_Good_vv goodW
  rw [hk1, hk1]
  by_cases h1 : k < 1
  · rw [if_pos h1, show okK k = false from decide_eq_false (by omega)]; rfl
  · rw [if_neg h1]
    by_cases h9 : 9 < k
    · rw [decide_eq_true h9, show okK k = false from decide_eq_false (by omega)]; rfl
    · rw [decide_eq_false h9, show okK k = true from decide_eq_true (by omega)]; rfl
theorem ref08_bytes (c : CT) : M_signpostref08_Bytes c.r = some (bytesC c) := by
  unfold M_signpostref08_Bytes M_signpostref06_Bytes
  rw [if_pos (by decide), ref01_put (by simp) (by decide), some_bindP, ref01_put (by rw [List.nil_append, putF_len]; decide) (by decide), some_bindP, some_bindP, List.nil_append, List.nil_append,
    if_pos (by simp only [List.length_append, List.length_ofFn, putF_len]; decide)]
  rfl
theorem list08_loop {l : List CT} (hl : l.length ≤ 4096) : ∀ (d k : Nat) (out : List UInt8), l.length = k + d → out.length ≤ 1 + k * 26 →
    loopO (fun z_ => M_signpostref08_List_v_b1 (l.map CT.r) z_.1 z_.2) (out, (k : Int)) = some (out ++ flatC (l.drop k)) := by
  intro d
  induction d with
  | zero =>
    intro k out h ho
    rw [loopO_end (r := out) (by unfold M_signpostref08_List_v_b1; rw [if_neg (by rw [List.length_map]; omega)]), List.drop_of_length_le (by omega), flatC, List.append_nil]
  | succ d ih =>
    intro k out h ho
    have hk : k < l.length := by omega
    have hx : at? (l.map CT.r) (k : Int) = some (l[k].r) := by rw [at?_in (by rw [List.length_map]; exact hk)]; simp
    have hlen := bytesC_len l[k]
    rw [loopO_next (s' := (out ++ bytesC l[k], ((k + 1 : Nat) : Int))) (by
      show M_signpostref08_List_v_b1 (l.map CT.r) out (k : Int) = _
      unfold M_signpostref08_List_v_b1
      rw [if_pos (by rw [List.length_map]; omega), hx, some_bindP, ref08_bytes, some_bindP]
      rw [if_pos (by omega), if_pos (ok_small (by omega))]; rfl),
      ih (k + 1) _ (by omega) (by rw [List.length_append]; omega), List.drop_eq_getElem_cons hk, flatC, List.append_assoc]
theorem ref08_list {l : List CT} (hl : l.length ≤ 4096) : M_signpostref08_List_v (l.map CT.r) = some (if goodS l = true then (UInt8.ofNat l.length :: flatC l, 0) else ([], 2)) := by
  unfold M_signpostref08_List_v
  rw [ref08_good (by omega), some_bindP]
  by_cases h : goodS l = true
  · obtain ⟨h64, -⟩ := goodS_mem h
    have e : UInt8.ofInt (((l.map CT.r).length : Nat) : Int) = UInt8.ofNat l.length := by
      rw [List.length_map]
      apply UInt8.toNat_inj.1
      simp [UInt8.ofInt]; omega
    rw [if_pos h, if_pos h, e]
    have := list08_loop hl l.length 0 [UInt8.ofNat l.length] (by omega) (by simp)
    rw [show ((0 : Nat) : Int) = 0 from rfl] at this
    rw [this, some_bindP, List.drop_zero]
    rfl
  · rw [if_neg h, if_neg h]
theorem bytes12_loop {l : List G_api_Instance} (hg : GoodR l) : ∀ (d k : Nat) (out : List UInt8), l.length = k + d → out.length ≤ 100 + 2000 * k →
    loopO (fun z_ => M_signpostref12_Bytes_v_b1 l z_.1 z_.2) (out, (k : Int)) = some (out ++ bytesL (l.drop k)) := by
  have hfew := hg.few
  intro d
  induction d with
  | zero =>
    intro k out h _
    rw [List.drop_of_length_le (by omega), show bytesL [] = [] from rfl, List.append_nil]
    exact loopO_end (by
      show M_signpostref12_Bytes_v_b1 l out (k : Int) = _
      unfold M_signpostref12_Bytes_v_b1
      rw [if_neg (by omega)])
  | succ d ih =>
    intro k out h ho
    have hk : k < l.length := by omega
    have hgk := hg.good _ (List.getElem_mem hk)
    have htl := goodI_len hgk
    have hbl := bytesI_len (i := l[k]) (by omega)
    rw [List.drop_eq_getElem_cons hk, bytesL_cons, ← List.append_assoc]
    rw [loopO_next (s' := (out ++ bytesI l[k], ((k + 1 : Nat) : Int))) (by
      show M_signpostref12_Bytes_v_b1 l out (k : Int) = _
      unfold M_signpostref12_Bytes_v_b1
      rw [if_pos (by omega), at?_in hk, some_bindP, ref11_bytes (by omega), if_pos hgk, some_bindP]
      simp only []
      rw [if_pos (by omega), if_pos (ok_small (by omega)), Int.natCast_add, Int.natCast_one])]
    exact ih (k + 1) _ (by omega) (by rw [List.length_append]; omega)
theorem ref12_bytes {l : List G_api_Instance} (hl : ∀ x ∈ l, x.Target.length ≤ 1000000) (hn : l.length ≤ 1000000) : M_signpostref12_Bytes_v l = some (if isGoodR l = true then (bytesR l, 0) else ([], 2)) := by
  unfold M_signpostref12_Bytes_v
  rw [ref12_goodR hl hn, some_bindP]
  by_cases h : isGoodR l = true
  · have hg := isGoodR_iff.1 h
    have h16 := hg.few
    have hp : [UInt8.ofInt (l.length : Int)] = putF (UInt64.ofInt (l.length : Int)) 1 := by
      rw [put_one (by simp [UInt64.ofInt, UInt64.toNat_ofNat']; omega)]
      congr 1
      apply UInt8.toNat_inj.1
      simp [UInt8.ofInt, UInt64.ofInt]; omega
    have hb := bytes12_loop hg l.length 0 (putF (UInt64.ofInt (l.length : Int)) 1) (by omega) (by rw [putF_len]; omega)
    rw [show ((0 : Nat) : Int) = 0 from rfl, List.drop_zero] at hb
    rw [if_pos h, if_pos h, hp, hb, some_bindP]
    rfl
  · rw [if_neg h, if_neg h]
theorem ref14_encode {k : Int} {t : UInt32} {f key : Fin 20 → UInt8} {C : List CT} {R : List G_api_Instance} (hC : C.length ≤ 4096) (hR : (∀ x ∈ R, x.Target.length ≤ 1000000) ∧ R.length ≤ 1000000) :
    M_signpostref14_Encode_vv k t f key (C.map CT.p) R = some (if goodW k key C R = true then (encW k t f key C R, 0) else ([], 2)) := by
  unfold M_signpostref14_Encode_vv
  rw [ref14_good hC hR, some_bindP]
  by_cases h : goodW k key C R = true
  · obtain ⟨h1, h2, h3, _, _, _⟩ := goodW_parts h
    have hh := headW_len k t f
    have hk2 : ∀ out : List UInt8, out.length ≤ 100000 → M_signpostref14_Encode_vv_k2 k R out = some (out ++ listB k R, 0) := by
      intro out ho
      have hl := listB_len h3
      unfold M_signpostref14_Encode_vv_k2
      rw [ref14_listed, some_bindP]
      cases hc : listK k with
      | false => rw [if_neg (by decide), show listB k R = [] by unfold listB; rw [hc, if_neg (by decide)], List.append_nil]
      | true =>
        rcases h3 with h3 | h3
        · rw [show listB k R = bytesR R by unfold listB; rw [hc, if_pos rfl]] at hl ⊢
          rw [if_pos rfl, ref12_bytes hR.1 hR.2, if_pos (isGoodR_iff.2 h3), some_bindP]
          simp only []
          rw [if_pos (by omega)]
        · rw [h3] at hc; cases hc
    have hk1 : ∀ out : List UInt8, out.length ≤ 1000 → M_signpostref14_Encode_vv_k1 (C.map CT.p) k R out = some (out ++ contB k C ++ listB k R, 0) := by
      intro out ho
      have hl := contB_len h2
      unfold M_signpostref14_Encode_vv_k1
      by_cases h6 : k = 6
      · have hc : contK k = true := decide_eq_true h6
        rcases h2 with h2 | h2
        · rw [show contB k C = UInt8.ofNat C.length :: flatC C by unfold contB; rw [hc, if_pos rfl]] at hl ⊢
          rw [if_pos h6, plain14 hC, some_bindP, ref08_list hC, if_pos h2, some_bindP]
          simp only []
          rw [if_pos (by omega), hk2 _ (by rw [List.length_append]; omega)]
        · rw [h2] at hc; cases hc
      · have hc : contK k = false := decide_eq_false h6
        rw [if_neg h6, show contB k C = [] by unfold contB; rw [hc, if_neg (by decide)], List.append_nil, hk2 _ (by omega)]
    rw [if_pos h, if_pos h, ref01_put (by simp) (by decide), some_bindP, if_pos (by rw [List.length_append, show (4 : Int).toNat = 4 from rfl, putF_len]; simp), ref14_keyed, some_bindP]
    rw [show [1, UInt8.ofInt k] ++ putF t.toUInt64 (4 : Int).toNat ++ List.ofFn f = headW k t f from rfl]
    unfold encW
    cases hk : keyK k with
    | true =>
      rw [show keyB k key = List.ofFn key by unfold keyB; rw [hk, if_pos rfl], if_pos rfl, if_pos (by omega), hk1 _ (by rw [List.length_append, List.length_ofFn]; omega)]
    | false =>
      rw [show keyB k key = [] by unfold keyB; rw [hk, if_neg (by decide)], if_neg (by decide), hk1 _ (by omega), List.append_nil]
  · rw [if_neg h, if_neg h]
/-! ### lists that are compared -/
theorem eq_loop {α : Type} [DecidableEq α] {body : Int → Option (Int ⊕ (Unit ⊕ Bool))} {a b : List α} (hlen : a.length = b.length) (hb : ∀ k (hk : k < a.length) (hk' : k < b.length), body (k : Int) = if a[k] = b[k] then some (.inl ((k : Int) + 1)) else some (.inr (.inr false)))
    (he : body (a.length : Int) = some (.inr (.inl ()))) : loopO body 0 = some (if a = b then .inl () else .inr false) := by
  have key : ∀ (d k : Nat), a.length = k + d → loopO body (k : Int) = some (if a.drop k = b.drop k then .inl () else .inr false) := by
    intro d
    induction d with
    | zero =>
      intro k h
      rw [List.drop_of_length_le (by omega), List.drop_of_length_le (by omega), if_pos rfl]
      have : k = a.length := by omega
      rw [this]
      exact loopO_end he
    | succ d ih =>
      intro k h
      have hk : k < a.length := by omega
      have hk' : k < b.length := by omega
      have h1 := hb k hk hk'
      rw [List.drop_eq_getElem_cons hk, List.drop_eq_getElem_cons hk']
      by_cases hx : a[k] = b[k]
      · rw [if_pos hx] at h1
        rw [loopO_next (s' := ((k + 1 : Nat) : Int)) (by rw [h1, Int.natCast_add, Int.natCast_one]), ih (k + 1) (by omega), hx]
        by_cases hd : a.drop (k + 1) = b.drop (k + 1)
        · rw [if_pos hd, if_pos (by rw [hd])]
        · rw [if_neg hd, if_neg (fun e => hd (List.cons.inj e).2)]
      · rw [if_neg hx] at h1
        rw [loopO_end h1, if_neg (fun e => hx (List.cons.inj e).1)]
  have := key a.length 0 (by omega)
  rwa [show ((0 : Nat) : Int) = 0 from rfl, List.drop_zero, List.drop_zero] at this
theorem self_loop {body : Int → Option (Int ⊕ Unit)} {n : Nat} (hb : ∀ k : Nat, k < n → body (k : Int) = some (.inl ((k : Int) + 1))) (he : body (n : Int) = some (.inr ())) : loopO body 0 = some () := by
  have key : ∀ (d k : Nat), n = k + d → loopO body (k : Int) = some () := by
    intro d
    induction d with
    | zero =>
      intro k h
      have : k = n := by omega
      rw [this]
      exact loopO_end he
    | succ d ih =>
      intro k h
      rw [loopO_next (s' := ((k + 1 : Nat) : Int)) (by rw [hb k (by omega), Int.natCast_add, Int.natCast_one]), ih (k + 1) (by omega)]
  exact key n 0 (by omega)
/-! ### what a roster has, and what is light -/
theorem light12 {l : List G_api_Instance} (hn : l.length ≤ 4611686018427387903) : ∃ b, M_signpostlaw12_Light_v l = some b ∧ (b = true → (∀ x ∈ l, x.Target.length ≤ 300) ∧ l.length ≤ 40) := by
  have key : ∀ (d k : Nat), l.length = k + d → ∃ r, loopO (fun z_ => M_signpostlaw12_Light_v_b1 l z_) (k : Int) = some r ∧ ((r = .inl () ∧ ∀ x ∈ l.drop k, x.Target.length ≤ 300) ∨ r = .inr false) := by
    intro d
    induction d with
    | zero =>
      intro k h
      refine ⟨.inl (), loopO_end (by unfold M_signpostlaw12_Light_v_b1; rw [if_neg (by omega)]), .inl ⟨rfl, ?_⟩⟩
      rw [List.drop_of_length_le (by omega)]
      exact fun x hx => absurd hx List.not_mem_nil
    | succ d ih =>
      intro k h
      have hk : k < l.length := by omega
      by_cases hx : (300 : Int) < (l[k].Target.length : Int)
      · exact ⟨.inr false, loopO_end (by
          show M_signpostlaw12_Light_v_b1 l (k : Int) = _
          unfold M_signpostlaw12_Light_v_b1
          rw [if_pos (by omega), at?_in hk, some_bindP, if_pos hx]), .inr rfl⟩
      · obtain ⟨r, h1, h2⟩ := ih (k + 1) (by omega)
        refine ⟨r, ?_, ?_⟩
        · rw [loopO_next (s' := ((k + 1 : Nat) : Int)) (by
            show M_signpostlaw12_Light_v_b1 l (k : Int) = _
            unfold M_signpostlaw12_Light_v_b1
            rw [if_pos (by omega), at?_in hk, some_bindP, if_neg hx, if_pos (ok_small (by omega)), Int.natCast_add, Int.natCast_one])]
          exact h1
        · rcases h2 with ⟨e, h2⟩ | e
          · refine .inl ⟨e, ?_⟩
            rw [List.drop_eq_getElem_cons hk]
            intro x hxm
            rcases List.mem_cons.1 hxm with hxm | hxm
            · rw [hxm]; omega
            · exact h2 x hxm
          · exact .inr e
  obtain ⟨r, h1, h2⟩ := key l.length 0 (by omega)
  rw [show ((0 : Nat) : Int) = 0 from rfl] at h1
  unfold M_signpostlaw12_Light_v
  rw [h1, some_bindP]
  rcases h2 with ⟨rfl, h2⟩ | rfl
  · refine ⟨decide ((l.length : Int) ≤ 40), rfl, fun h => ?_⟩
    rw [List.drop_zero] at h2
    have := of_decide_eq_true h
    exact ⟨h2, by omega⟩
  · exact ⟨false, rfl, fun h => by cases h⟩
/-! ### which messages are the same -/
theorem wire_same {k : Int} {t : UInt32} {f key : Fin 20 → UInt8} {C : List G_api_Contact} {R : List G_api_Instance} {k2 : Int} {t2 : UInt32} {f2 key2 : Fin 20 → UInt8} {C2 : List G_api_Contact} {R2 : List G_api_Instance}
    (hC : C.length ≤ 1000000) (hR : (∀ x ∈ R, x.Target.length ≤ 1000000) ∧ R.length ≤ 1000000) (hR2 : ∀ x ∈ R2, x.Target.length ≤ 1000000) :
    M_wire_Same_vvvv k t f key C R k2 t2 f2 key2 C2 R2 = some (decide (k = k2 ∧ t = t2 ∧ f = f2 ∧ key = key2 ∧ C = C2 ∧ R = R2)) := by
  have hm : ∀ {L : List G_api_Instance}, (∀ x ∈ L, x.Target.length ≤ 1000000) → ∀ i (hi : i < L.length), L[i].Target.length ≤ maxLen := fun h i hi => by have := h _ (List.getElem_mem hi); simp only [maxLen]; omega
  have hc : M_slices_Equal_Contact_vv C C2 = some (decide (C = C2)) := by
    unfold M_slices_Equal_Contact_vv
    by_cases hl : C.length = C2.length
    · rw [if_pos (by omega), eq_loop hl (fun i hi hi2 => by
        show M_slices_Equal_Contact_vv_b1 C C2 (i : Int) = _
        unfold M_slices_Equal_Contact_vv_b1
        rw [if_pos (by omega), at?_in hi, at?_in hi2, some_bindP, some_bindP, if_pos (ok_small (by omega))]) (by
        show M_slices_Equal_Contact_vv_b1 C C2 (C.length : Int) = _
        unfold M_slices_Equal_Contact_vv_b1
        rw [if_neg (by omega)]), some_bindP]
      by_cases h : C = C2
      · rw [if_pos h, decide_eq_true h]
      · rw [if_neg h, decide_eq_false h]
    · rw [if_neg (by omega), decide_eq_false (fun e => hl (by rw [e]))]
  have hr : M_slices_Equal_Instance_vv R R2 = some (decide (R = R2)) := by
    unfold M_slices_Equal_Instance_vv
    by_cases hl : R.length = R2.length
    · rw [if_pos (by omega), eq_loop hl (fun i hi hi2 => by
        show M_slices_Equal_Instance_vv_b1 R R2 (i : Int) = _
        unfold M_slices_Equal_Instance_vv_b1
        rw [if_pos (by omega), at?_in hi, at?_in hi2, some_bindP, some_bindP, if_pos (hm hR.1 i hi), if_pos (hm hR2 i hi2), if_pos (ok_small (by omega))]) (by
        show M_slices_Equal_Instance_vv_b1 R R2 (R.length : Int) = _
        unfold M_slices_Equal_Instance_vv_b1
        rw [if_neg (by omega)]), some_bindP]
      by_cases h : R = R2
      · rw [if_pos h, decide_eq_true h]
      · rw [if_neg h, decide_eq_false h]
    · rw [if_neg (by omega), decide_eq_false (fun e => hl (by rw [e]))]
  unfold M_wire_Same_vvvv
  rw [hc, hr, some_bindP, some_bindP]
  by_cases h1 : k = k2
  · rw [if_pos h1]
    by_cases h2 : t = t2
    · rw [if_pos h2]
      by_cases h3 : f = f2
      · rw [if_pos h3]
        by_cases h4 : key = key2
        · rw [if_pos h4]
          by_cases h5 : C = C2
          · rw [if_pos (decide_eq_true h5)]
            exact congrArg some (decide_eq_decide.2 ⟨fun h => ⟨h1, h2, h3, h4, h5, h⟩, fun h => h.2.2.2.2.2⟩)
          · rw [if_neg (fun e => h5 (of_decide_eq_true e)), decide_eq_false (fun h => h5 h.2.2.2.2.1)]
        · rw [if_neg h4, decide_eq_false (fun h => h4 h.2.2.2.1)]
      · rw [if_neg h3, decide_eq_false (fun h => h3 h.2.2.1)]
    · rw [if_neg h2, decide_eq_false (fun h => h2 h.2.1)]
  · rw [if_neg h1, decide_eq_false (fun h => h1 h.1)]
theorem wire_self {k : Int} {t : UInt32} {f key : Fin 20 → UInt8} {C : List G_api_Contact} {R : List G_api_Instance} (hC : C.length ≤ 1000000) (hR : (∀ x ∈ R, x.Target.length ≤ 1000000) ∧ R.length ≤ 1000000) :
    M_wire_Same_vvvv_2 k t f key C R = some () := by
  unfold M_wire_Same_vvvv_2 M_slices_Equal_Contact_vv_2 M_slices_Equal_Instance_vv_2
  rw [self_loop (n := C.length) (fun i hi => by
    show M_slices_Equal_Contact_vv_2_b1 C (i : Int) = _
    unfold M_slices_Equal_Contact_vv_2_b1
    rw [if_pos (by omega), at?_in hi, some_bindP, if_pos (ok_small (by omega))]) (by
    show M_slices_Equal_Contact_vv_2_b1 C (C.length : Int) = _
    unfold M_slices_Equal_Contact_vv_2_b1
    rw [if_neg (by omega)]), some_bindP, self_loop (n := R.length) (fun i hi => by
    have hm : R[i].Target.length ≤ maxLen := by have := hR.1 _ (List.getElem_mem hi); simp only [maxLen]; omega
    show M_slices_Equal_Instance_vv_2_b1 R (i : Int) = _
    unfold M_slices_Equal_Instance_vv_2_b1
    rw [if_pos (by omega), at?_in hi, some_bindP, if_pos hm, if_pos hm, if_pos (ok_small (by omega))]) (by
    show M_slices_Equal_Instance_vv_2_b1 R (R.length : Int) = _
    unfold M_slices_Equal_Instance_vv_2_b1
    rw [if_neg (by omega)]), some_bindP]
  rfl
theorem same12_any {R R2 : List G_api_Instance} (hR : (∀ x ∈ R, x.Target.length ≤ 1000000) ∧ R.length ≤ 1000000) (hR2 : ∀ x ∈ R2, x.Target.length ≤ 1000000) : M_signpostref12_Same_vv R R2 = some (decide (R = R2)) := by
  have hm : ∀ {L : List G_api_Instance}, (∀ x ∈ L, x.Target.length ≤ 1000000) → ∀ i (hi : i < L.length), L[i].Target.length ≤ maxLen := fun h i hi => by have := h _ (List.getElem_mem hi); simp only [maxLen]; omega
  unfold M_signpostref12_Same_vv
  by_cases hl : R.length = R2.length
  · rw [if_pos (by omega), eq_loop hl (fun i hi hi2 => by
      show M_signpostref12_Same_vv_b1 R R2 (i : Int) = _
      unfold M_signpostref12_Same_vv_b1
      rw [if_pos (by omega), at?_in hi, at?_in hi2, some_bindP, some_bindP, if_pos (hm hR.1 i hi), if_pos (hm hR2 i hi2), if_pos (ok_small (by omega))]) (by
      show M_signpostref12_Same_vv_b1 R R2 (R.length : Int) = _
      unfold M_signpostref12_Same_vv_b1
      rw [if_neg (by omega)]), some_bindP]
    by_cases h : R = R2
    · rw [if_pos h, decide_eq_true h]
    · rw [if_neg h, decide_eq_false h]
  · rw [if_neg (by omega), decide_eq_false (fun e => hl (by rw [e]))]
theorem ref14_same {k : Int} {t : UInt32} {f key : Fin 20 → UInt8} {C : List G_api_Contact} {R : List G_api_Instance} {k2 : Int} {t2 : UInt32} {f2 key2 : Fin 20 → UInt8} {C2 : List G_api_Contact} {R2 : List G_api_Instance}
    (hC : C.length ≤ 1000000) (hR : (∀ x ∈ R, x.Target.length ≤ 1000000) ∧ R.length ≤ 1000000) (hR2 : ∀ x ∈ R2, x.Target.length ≤ 1000000) :
    M_signpostref14_Same_vvvv k t f key C R k2 t2 f2 key2 C2 R2 = some (decide (k = k2 ∧ t = t2 ∧ f = f2 ∧ key = key2 ∧ C = C2 ∧ R = R2)) := by
  have ht : M_signpostref14_Same_vvvv_k1 C C2 R R2 true = some false := rfl
  have hf : M_signpostref14_Same_vvvv_k1 C C2 R R2 (!(decide ((C.length : Int) = (C2.length : Int)))) = some (decide (C = C2 ∧ R = R2)) := by
    unfold M_signpostref14_Same_vvvv_k1
    by_cases hl : C.length = C2.length
    · rw [decide_eq_true (by omega), if_neg (by decide), eq_loop hl (fun i hi hi2 => by
        show M_signpostref14_Same_vvvv_b2 C C2 (i : Int) = _
        unfold M_signpostref14_Same_vvvv_b2
        rw [if_pos (by omega), at?_in hi, at?_in hi2, some_bindP, some_bindP, if_pos (ok_small (by omega))]) (by
        show M_signpostref14_Same_vvvv_b2 C C2 (C.length : Int) = _
        unfold M_signpostref14_Same_vvvv_b2
        rw [if_neg (by omega)]), some_bindP]
      by_cases h : C = C2
      · rw [if_pos h]
        simp only []
        rw [same12_any hR hR2, some_bindP]
        exact congrArg some (decide_eq_decide.2 ⟨fun e => ⟨h, e⟩, fun e => e.2⟩)
      · rw [if_neg h, decide_eq_false (fun e => h e.1)]
    · rw [decide_eq_false (by omega), if_pos (by decide), decide_eq_false (fun e => hl (by rw [e.1]))]
  unfold M_signpostref14_Same_vvvv
  rw [hf, ht]
  by_cases h1 : k = k2
  · rw [if_pos h1]
    by_cases h2 : t = t2
    · rw [if_pos h2]
      by_cases h3 : f = f2
      · rw [if_pos h3]
        by_cases h4 : key = key2
        · rw [if_pos h4]
          exact congrArg some (decide_eq_decide.2 ⟨fun h => ⟨h1, h2, h3, h4, h⟩, fun h => h.2.2.2.2⟩)
        · rw [if_neg h4, decide_eq_false (fun h => h4 h.2.2.2.1)]
      · rw [if_neg h3, decide_eq_false (fun h => h3 h.2.2.1)]
    · rw [if_neg h2, decide_eq_false (fun h => h2 h.2.1)]
  · rw [if_neg h1, decide_eq_false (fun h => h1 h.1)]
theorem wire_answers (r k : Int) : ∃ b, M_wire_Answers r k = some b ∧ M_signpostref14_Answers r k = some b := by
  unfold M_wire_Answers M_signpostref14_Answers
  by_cases h1 : r = 1
  · subst h1
    by_cases h5 : k = 5
    · subst h5; exact ⟨true, rfl, rfl⟩
    · exact ⟨false, by simp [h5], by simp [h5]⟩
  by_cases h2 : r = 2
  · subst h2
    by_cases h5 : k = 6
    · subst h5; exact ⟨true, rfl, rfl⟩
    · exact ⟨false, by simp [h5], by simp [h5]⟩
  by_cases h3 : r = 3
  · subst h3
    by_cases h5 : k = 6
    · subst h5; exact ⟨true, rfl, rfl⟩
    · by_cases h7 : k = 7
      · subst h7; exact ⟨true, rfl, rfl⟩
      · exact ⟨false, by simp [h5, h7], by simp [h5, h7]⟩
  by_cases h4 : r = 4
  · subst h4
    by_cases h5 : k = 8
    · subst h5; exact ⟨true, rfl, rfl⟩
    · by_cases h7 : k = 9
      · subst h7; exact ⟨true, rfl, rfl⟩
      · exact ⟨false, by simp [h5, h7], by simp [h5, h7]⟩
  exact ⟨false, by simp [h1, h2, h3, h4], by simp [h1, h2, h3, h4]⟩
/-! ### the statement -/
theorem light14 {k : Int} {t : UInt32} {f key : Fin 20 → UInt8} {C : List G_api_Contact} {R : List G_api_Instance} (hn : R.length ≤ 4611686018427387903) : ∃ b, M_signpostlaw14_Light_vv k t f key C R = some b ∧ (b = true → C.length ≤ 80 ∧ (∀ x ∈ R, x.Target.length ≤ 300) ∧ R.length ≤ 40) := by
  obtain ⟨b, h1, h2⟩ := light12 hn
  unfold M_signpostlaw14_Light_vv
  by_cases h : (C.length : Int) ≤ 80
  · rw [if_pos h, h1, some_bindP]
    exact ⟨b, rfl, fun hb => ⟨by omega, h2 hb⟩⟩
  · rw [if_neg h]
    exact ⟨false, rfl, fun hb => by cases hb⟩
theorem encodes_k2 {k : Int} {t : UInt32} {f key : Fin 20 → UInt8} {C : List G_api_Contact} {R : List G_api_Instance} {k2 : Int} {t2 : UInt32} {f2 key2 : Fin 20 → UInt8} {C2 : List G_api_Contact} {R2 : List G_api_Instance} {kind : Int}
    (hC : C.length ≤ 80) (hR : (∀ x ∈ R, x.Target.length ≤ 300) ∧ R.length ≤ 40) (hR2 : ∀ x ∈ R2, x.Target.length ≤ 300) : M_signpostlaw14_WireEncodes_vvvv_k2 C C2 f f2 key key2 k k2 R R2 t t2 kind false = some true := by
  have b1 : (∀ x ∈ R, x.Target.length ≤ 1000000) ∧ R.length ≤ 1000000 := ⟨fun x hx => by have := hR.1 x hx; omega, by omega⟩
  have b2 : ∀ x ∈ R2, x.Target.length ≤ 1000000 := fun x hx => by have := hR2 x hx; omega
  have hs : M_signpostref14_Same_vvvv_2 kind t f2 key ([] : List G_api_Contact) ([] : List G_api_Instance) = some () := by
    unfold M_signpostref14_Same_vvvv_2 M_signpostref12_Same_vv_2
    rw [loopO_end (r := ()) (by unfold M_signpostref14_Same_vvvv_2_b1; rw [if_neg (by decide)]), some_bindP, loopO_end (r := ()) (by unfold M_signpostref12_Same_vv_2_b1; rw [if_neg (by decide)]), some_bindP]
    rfl
  unfold M_signpostlaw14_WireEncodes_vvvv_k2
  rw [if_neg (by decide), wire_same (by omega) b1 b2, some_bindP, ref14_same (by omega) b1 b2, some_bindP, if_pos rfl, wire_self (by omega) b1, some_bindP, hs, some_bindP, lives14, some_bindP]
theorem pure_WireEncodes (Kind : Int) (Txn : UInt32) (From : Fin 20 → UInt8) (Key : Fin 20 → UInt8) (Contacts : List G_api_Contact) (Roster : List G_api_Instance) (Kind2 : Int) (Txn2 : UInt32) (From2 : Fin 20 → UInt8) (Key2 : Fin 20 → UInt8) (Contacts2 : List G_api_Contact) (Roster2 : List G_api_Instance) (kind : Int) (wf_Kind : ok64 Kind) (hl_Contacts : Contacts.length * 28 ≤ 140737488351232) (wf_Contacts : ∀ x ∈ Contacts, G_api_Contact_wf x) (hl_Roster : Roster.length * 72 ≤ 140737488351232) (wf_Roster : ∀ x ∈ Roster, G_api_Instance_wf x) (wf_Kind2 : ok64 Kind2) (hl_Contacts2 : Contacts2.length * 28 ≤ 140737488351232) (wf_Contacts2 : ∀ x ∈ Contacts2, G_api_Contact_wf x) (hl_Roster2 : Roster2.length * 72 ≤ 140737488351232) (wf_Roster2 : ∀ x ∈ Roster2, G_api_Instance_wf x) (wf_kind : ok64 kind) : M_signpostlaw14_WireEncodes_vvvv Kind Txn From Key Contacts Roster Kind2 Txn2 From2 Key2 Contacts2 Roster2 kind = some true := by
  have ht : M_signpostlaw14_WireEncodes_vvvv_k1 Contacts Contacts2 From From2 Key Key2 Kind Kind2 Roster Roster2 Txn Txn2 kind true = some true := by
    unfold M_signpostlaw14_WireEncodes_vvvv_k1
    rw [if_pos rfl, lives14, some_bindP]
  obtain ⟨x1, h1, k1⟩ := light14 (k := Kind) (t := Txn) (f := From) (key := Key) (C := Contacts) (R := Roster) (by omega)
  obtain ⟨x2, h2, k2⟩ := light14 (k := Kind2) (t := Txn2) (f := From2) (key := Key2) (C := Contacts2) (R := Roster2) (by omega)
  unfold M_signpostlaw14_WireEncodes_vvvv
  rw [h1, some_bindP]
  by_cases c1 : x1 = true
  · rw [if_pos c1, h2, some_bindP]
    cases hx2 : x2 with
    | false => exact ht
    | true =>
      obtain ⟨p1, p2, p3⟩ := k1 c1
      obtain ⟨q1, q2, q3⟩ := k2 hx2
      obtain ⟨C, rfl⟩ := CT.lift Contacts
      rw [List.length_map] at p1
      have b1 : (∀ x ∈ Roster, x.Target.length ≤ 1000000) ∧ Roster.length ≤ 1000000 := ⟨fun x hx => by have := p2 x hx; omega, by omega⟩
      have b2 : (∀ x ∈ Roster, x.Target.length ≤ 140737488355328) ∧ Roster.length ≤ 1000000 := ⟨fun x hx => by have := p2 x hx; omega, by omega⟩
      obtain ⟨r, ha1, ha2⟩ := wire_answers Kind kind
      have hreq : ∃ b, M_wire_Request kind = some b ∧ M_signpostref14_Request kind = some b := by
        unfold M_wire_Request M_signpostref14_Request
        by_cases h : 1 ≤ kind
        · rw [if_pos h]; exact ⟨_, rfl, rfl⟩
        · rw [if_neg h]; exact ⟨_, rfl, rfl⟩
      obtain ⟨rq, hq1, hq2⟩ := hreq
      unfold M_signpostlaw14_WireEncodes_vvvv_k1
      rw [Bool.not_true, if_neg (by decide), wire_encode (by omega) b2, ref14_encode (by omega) b1]
      generalize (if goodW Kind Key C Roster = true then (encW Kind Txn From Key C Roster, (0 : Int)) else ([], 2)) = P
      obtain ⟨pb, pe⟩ := P
      rw [some_bindP]
      simp only []
      rw [some_bindP]
      simp only []
      rw [show M_wire_Reply_vv Kind Txn From Key (C.map CT.p) Roster kind From2 = some () from rfl, some_bindP, if_pos trivial, if_pos trivial, wire_good (by omega) b2, some_bindP, ref14_good (by omega) b1, some_bindP, if_pos rfl, hq1, hq2, some_bindP, some_bindP, if_pos rfl, ha1, ha2, some_bindP, some_bindP,
        show (!(decide (r = r))) = false by simp]
      exact encodes_k2 (by rw [List.length_map]; omega) ⟨p2, p3⟩ q2
  · rw [if_neg c1, ht]
end Go.Proofs.Ytleemokneeoikaa
