/-
  What the functions that the statement ServiceTells reaches compute, as plain laws; and the statement about them. No condition.
-/
import Derived.Test.YtpheilpcklfknaaDoorServiceTellsMod
import Derived.Test.YtpheilpcklfknaaDoorBPure
namespace Go.Proofs.YtpheilpcklfknaaDoor
open Go Go.RowKit
set_option linter.unusedVariables false
set_option linter.unusedSimpArgs false
/-! ### names -/
theorem idx_lt : ∀ (l : List UInt8) (c : UInt8), -1 ≤ Lib.indexByte l c ∧ (0 ≤ Lib.indexByte l c → Lib.indexByte l c < l.length)
  | [], c => by simp [Lib.indexByte]
  | b :: l, c => by
    have h := idx_lt l c
    unfold Lib.indexByte
    simp only [List.length_cons]
    split
    · omega
    · split
      · omega
      · rename_i h1 h2
        simp only [beq_iff_eq] at h2
        omega
/-- A text cut at its first point. -/
def cutS (s : List UInt8) : List UInt8 × List UInt8 × Bool := if 0 ≤ Lib.indexByte s 46 then (s.take (Lib.indexByte s 46).toNat, s.drop (Lib.indexByte s 46 + 1).toNat, true) else (s, [], false)
theorem label_cut {s : List UInt8} (hs : s.length ≤ 4611686018427387904) : M_strings_Cut s = some (cutS s) := by
  have hi : M_stringslite_Index s = some (Lib.indexByte s 46) := by
    unfold M_stringslite_Index
    by_cases h : [46] = s
    · rw [if_pos h, ← h]; rfl
    · rw [if_neg h]; rfl
  have hb := idx_lt s 46
  unfold M_strings_Cut M_stringslite_Cut cutS
  rw [hi, Option.bind_some]
  by_cases h : 0 ≤ Lib.indexByte s 46
  · rw [if_pos h, if_pos (by omega), if_pos (ok_small (by omega)), if_pos (by omega), if_pos h]; rfl
  · rw [if_neg h, if_neg h]; rfl
/-- The texts between points. -/
def partsF : Nat → List UInt8 → List (List UInt8)
  | 0, s => [s]
  | n + 1, s => if (cutS s).2.2 = true then (cutS s).1 :: partsF n (cutS s).2.1 else [s]
def partsS (s : List UInt8) : List (List UInt8) := partsF s.length s
theorem cutS_len (s : List UInt8) : (cutS s).1.length ≤ s.length ∧ ((cutS s).2.2 = true → (cutS s).2.1.length < s.length) ∧ ((cutS s).2.2 = false → (cutS s).1 = s) := by
  have hb := idx_lt s 46
  unfold cutS
  split
  · refine ⟨by simp only [List.length_take]; omega, fun _ => ?_, fun h => (by cases h)⟩
    simp only [List.length_drop]; omega
  · exact ⟨Nat.le_refl _, (fun h => by cases h), fun _ => rfl⟩
theorem parts_loop {σ ρ : Type} {f : σ → List UInt8 → Option (σ ⊕ ρ)} : ∀ (n : Nat) (s : List UInt8) (z : σ), s.length ≤ n → s.length ≤ 4611686018427387904 →
    loopO (fun z_ => M_label_parts_1_p_b1 f z_.1 z_.2) (z, s) = rangeO f (partsF n s) z := by
  have hb : ∀ (s : List UInt8) (z : σ), s.length ≤ 4611686018427387904 → M_label_parts_1_p_b1 f z s = (f z (cutS s).1).bind fun y => match y with
      | .inl z2 => if (cutS s).2.2 = true then some (.inl (z2, (cutS s).2.1)) else some (.inr (.inl z2))
      | .inr x => some (.inr (.inr x)) := by
    intro s z hs
    unfold M_label_parts_1_p_b1
    rw [label_cut hs, Option.bind_some]
    rfl
  intro n
  induction n with
  | zero =>
    intro s z hn hs
    obtain ⟨h1, h2, h3⟩ := cutS_len s
    have hc : (cutS s).2.2 = false := by
      cases h : (cutS s).2.2 with
      | false => rfl
      | true => have := h2 h; omega
    have hb1 := hb s z hs
    rw [hc, h3 hc] at hb1
    simp only [partsF, rangeO]
    cases hf : f z s with
    | none =>
      rw [hf] at hb1
      exact loopO_none hb1
    | some y =>
      rw [hf] at hb1
      cases y with
      | inl z2 => exact loopO_end hb1
      | inr x => exact loopO_end hb1
  | succ n ih =>
    intro s z hn hs
    obtain ⟨h1, h2, h3⟩ := cutS_len s
    have hb1 := hb s z hs
    unfold partsF
    cases hc : (cutS s).2.2 with
    | true =>
      rw [hc] at hb1
      simp only [if_pos, rangeO]
      cases hf : f z (cutS s).1 with
      | none => rw [hf] at hb1; exact loopO_none hb1
      | some y =>
        rw [hf] at hb1
        cases y with
        | inl z2 => rw [loopO_next hb1]; exact ih _ _ (by have := h2 hc; omega) (by have := h2 hc; omega)
        | inr x => exact loopO_end hb1
    | false =>
      rw [hc, h3 hc] at hb1
      simp only [Bool.false_eq_true, if_false, rangeO]
      cases hf : f z s with
      | none => rw [hf] at hb1; exact loopO_none hb1
      | some y =>
        rw [hf] at hb1
        cases y with
        | inl z2 => exact loopO_end hb1
        | inr x => exact loopO_end hb1
theorem label_parts {σ ρ : Type} {f : σ → List UInt8 → Option (σ ⊕ ρ)} {s : List UInt8} {z : σ} (hs : s.length ≤ 4611686018427387904) : M_label_parts_1_p f s z = rangeO f (partsS s) z := by
  unfold M_label_parts_1_p partsS
  rw [parts_loop s.length s z (Nat.le_refl _) hs]
  cases rangeO f (partsF s.length s) z <;> rfl
theorem partsF_len : ∀ (n : Nat) (s : List UInt8), ∀ p ∈ partsF n s, p.length ≤ s.length
  | 0, s, p, hp => by simp only [partsF, List.mem_singleton] at hp; subst hp; exact Nat.le_refl _
  | n + 1, s, p, hp => by
    obtain ⟨h1, h2, h3⟩ := cutS_len s
    unfold partsF at hp
    split at hp
    · rename_i hc
      rcases List.mem_cons.1 hp with rfl | hp
      · exact h1
      · have := partsF_len n _ p hp; have := h2 hc; omega
    · simp only [List.mem_singleton] at hp; subst hp; exact Nat.le_refl _
/-! ### parts -/
noncomputable def plainS (c : UInt8) : Bool := (M_label_plain c).getD false
theorem label_plain (c : UInt8) : M_label_plain c = some (plainS c) := by
  unfold plainS M_label_plain M_label_plain_k1 M_label_plain_k2
  repeat' split
  all_goals rfl
theorem plain_loop09 {s : List UInt8} (hs : s.length ≤ 140737488355328) : ∀ (d k : Nat), s.length = k + d →
    loopO (fun z_ => M_label_Part_b2 s z_) (k : Int) = some (if (s.drop k).all plainS = true then .inl () else .inr false) := by
  intro d
  induction d with
  | zero =>
    intro k h
    rw [loopO_end (r := .inl ()) (by unfold M_label_Part_b2; rw [if_neg (by omega)]), List.drop_of_length_le (by omega)]; rfl
  | succ d ih =>
    intro k h
    have hk : k < s.length := by omega
    have hb : M_label_Part_b2 s (k : Int) = if plainS s[k] = true then some (.inl ((k : Int) + 1)) else some (.inr (.inr false)) := by
      unfold M_label_Part_b2
      rw [if_pos (by omega), at?_in hk, Option.bind_some, label_plain, Option.bind_some, if_pos (ok_small (by omega))]
    rw [List.drop_eq_getElem_cons hk, List.all_cons]
    cases hp : plainS s[k] with
    | true => rw [loopO_next (s' := ((k + 1 : Nat) : Int)) (by show M_label_Part_b2 s (k : Int) = _; rw [hb, if_pos hp]; rfl), ih (k + 1) (by omega), Bool.true_and]
    | false => rw [loopO_end (r := .inr false) (by show M_label_Part_b2 s (k : Int) = _; rw [hb, if_neg (by rw [hp]; decide)])]; rfl
noncomputable def partS (s : List UInt8) : Bool := decide (1 ≤ s.length ∧ s.length ≤ 63) && (!decide (s[0]? = some 45) && (!decide (s[s.length - 1]? = some 45) && s.all plainS))
theorem label_part {s : List UInt8} (hs : s.length ≤ 140737488355328) : M_label_Part s = some (partS s) := by
  have hk1 : M_label_Part_k1 s true = some false := rfl
  have hk2 : M_label_Part_k1 s false = some (s.all plainS) := by
    have := plain_loop09 hs s.length 0 (by omega)
    rw [show ((0 : Nat) : Int) = 0 from rfl, List.drop_zero] at this
    unfold M_label_Part_k1
    rw [if_neg (by decide), if_pos hs, this, Option.bind_some]
    cases s.all plainS <;> rfl
  unfold M_label_Part partS
  by_cases h1 : (s.length : Int) < 1
  · rw [if_pos h1, hk1, decide_eq_false (by omega)]; rfl
  · rw [if_neg h1]
    by_cases h2 : (63 : Int) < s.length
    · rw [if_pos h2, hk1, decide_eq_false (by omega)]; rfl
    · have h0 : 0 < s.length := by omega
      have hl : s.length - 1 < s.length := by omega
      rw [if_neg h2, decide_eq_true (by omega), show (0 : Int) = ((0 : Nat) : Int) from rfl, at?_in h0, Option.bind_some, if_pos (ok_small (by omega)),
        show (s.length : Int) - 1 = ((s.length - 1 : Nat) : Int) by omega, at?_in hl, Option.bind_some, List.getElem?_eq_getElem h0, List.getElem?_eq_getElem hl]
      by_cases h3 : s[0] = 45
      · rw [if_pos h3, hk1]; simp [h3]
      · rw [if_neg h3]
        by_cases h4 : s[s.length - 1] = 45
        · rw [decide_eq_true h4, hk1]; simp [h4]
        · rw [decide_eq_false h4, hk2]; simp [h3, h4]
noncomputable def goodN (s : List UInt8) : Bool := decide (s.length ≤ 253) && (partsS s).all partS
theorem good_range : ∀ (l : List (List UInt8)), (∀ p ∈ l, p.length ≤ 140737488355328) → rangeO (fun (_ : Unit) x => M_label_Good_r1 x) l () = some (if l.all partS = true then .inl () else .inr ())
  | [], _ => rfl
  | p :: l, h => by
    have hp : M_label_Good_r1 p = some (if partS p = true then .inl () else .inr ()) := by
      unfold M_label_Good_r1
      rw [label_part (h p (List.mem_cons_self ..)), Option.bind_some]
      split <;> rfl
    rw [List.all_cons]
    unfold rangeO
    rw [hp]
    cases hh : partS p with
    | true => simp only [if_pos, Bool.true_and]; exact good_range l (fun q hq => h q (List.mem_cons_of_mem _ hq))
    | false => rfl
theorem label_good {s : List UInt8} (hs : s.length ≤ 140737488355328) : M_label_Good s = some (goodN s) := by
  unfold M_label_Good goodN
  by_cases h : (253 : Int) < s.length
  · rw [if_pos h, decide_eq_false (by omega)]; rfl
  · rw [if_neg h, decide_eq_true (by omega), show M_label_parts s = some () from rfl, Option.bind_some, label_parts (by omega), good_range _ (fun p hp => by have := partsF_len _ _ p hp; omega), Option.bind_some]
    cases (partsS s).all partS <;> rfl
/-! ### texts folded -/
def foldC (c : UInt8) : UInt8 := if 65 ≤ c ∧ c ≤ 90 then c ||| 32 else c
def foldS (s : List UInt8) : List UInt8 := s.map foldC
theorem fold_loop09 {s : List UInt8} (hs : s.length ≤ 140737488355328) : ∀ (d k : Nat), s.length = k + d →
    loopO (fun z_ => M_label_Fold_b1 s z_.1 z_.2) ((s.take k).map foldC ++ s.drop k, (k : Int)) = some (foldS s) := by
  intro d
  induction d with
  | zero =>
    intro k h
    rw [loopO_end (r := (s.take k).map foldC ++ s.drop k) (by unfold M_label_Fold_b1; rw [if_neg (by omega)]), List.drop_of_length_le (by omega), List.take_of_length_le (by omega), List.append_nil]; rfl
  | succ d ih =>
    intro k h
    have hk : k < s.length := by omega
    have hlen : ((s.take k).map foldC).length = k := by rw [List.length_map, List.length_take]; omega
    have hx : at? ((s.take k).map foldC ++ s.drop k) (k : Int) = some s[k] := by
      rw [at?_nat, List.getElem?_append_right (by omega), hlen, Nat.sub_self, List.getElem?_drop, Nat.add_zero, List.getElem?_eq_getElem hk]
    have hset : ∀ c : UInt8, ((s.take k).map foldC ++ s.drop k).set k c = (s.take k).map foldC ++ c :: s.drop (k + 1) := by
      intro c
      rw [List.set_append_right _ _ (by omega), hlen, Nat.sub_self, List.drop_eq_getElem_cons hk]; rfl
    have hnext : (s.take (k + 1)).map foldC ++ s.drop (k + 1) = (s.take k).map foldC ++ foldC s[k] :: s.drop (k + 1) := by
      rw [List.take_succ_eq_append_getElem hk, List.map_append, List.append_assoc]; rfl
    have hsame : (s.take k).map foldC ++ s.drop k = (s.take k).map foldC ++ s[k] :: s.drop (k + 1) := by rw [← List.drop_eq_getElem_cons hk]
    have hb : M_label_Fold_b1 s ((s.take k).map foldC ++ s.drop k) (k : Int) = some (.inl ((s.take (k + 1)).map foldC ++ s.drop (k + 1), ((k + 1 : Nat) : Int))) := by
      unfold M_label_Fold_b1 M_label_Fold_k2
      rw [if_pos (by omega), hx, Option.bind_some, hnext]
      by_cases h1 : 65 ≤ s[k]
      · rw [if_pos h1]
        by_cases h2 : s[k] ≤ 90
        · rw [if_pos (decide_eq_true h2), Option.bind_some, if_pos (ok_small (by omega)), show foldC s[k] = s[k] ||| 32 from if_pos ⟨h1, h2⟩, show ((k : Int)).toNat = k from rfl, hset]; rfl
        · rw [if_neg (by simpa using h2), if_pos (ok_small (by omega)), show foldC s[k] = s[k] from if_neg (fun hh => h2 hh.2), ← hsame]; rfl
      · rw [if_neg h1, if_neg (by decide), if_pos (ok_small (by omega)), show foldC s[k] = s[k] from if_neg (fun hh => h1 hh.1), ← hsame]; rfl
    rw [loopO_next hb]
    exact ih (k + 1) (by omega)
theorem label_fold {s : List UInt8} (hs : s.length ≤ 140737488355328) : M_label_Fold s = some (foldS s) := by
  unfold M_label_Fold
  have := fold_loop09 hs s.length 0 (by omega)
  rw [List.take_zero, List.map_nil, List.nil_append, List.drop_zero, show ((0 : Nat) : Int) = 0 from rfl] at this
  rw [if_pos hs, this]; rfl
theorem foldS_len (s : List UInt8) : (foldS s).length = s.length := by unfold foldS; rw [List.length_map]
/-! ### texts between points, byte by byte -/
/-- The texts between points; the first one has begun. -/
def spl (cur : List UInt8) : List UInt8 → List (List UInt8)
  | [] => [cur]
  | c :: t => if c = 46 then cur :: spl [] t else spl (cur ++ [c]) t
theorem spl_cut : ∀ (s cur : List UInt8), spl cur s = if 0 ≤ Lib.indexByte s 46 then (cur ++ s.take (Lib.indexByte s 46).toNat) :: spl [] (s.drop (Lib.indexByte s 46 + 1).toNat) else [cur ++ s]
  | [], cur => by simp [spl, Lib.indexByte]
  | c :: t, cur => by
    have h := spl_cut t (cur ++ [c])
    have hb := idx_lt t 46
    have e : Lib.indexByte (c :: t) 46 = if c = 46 then 0 else if Lib.indexByte t 46 = -1 then -1 else Lib.indexByte t 46 + 1 := by simp [Lib.indexByte]
    rw [e, spl]
    by_cases hc : c = 46
    · simp only [if_pos hc]; simp
    · simp only [if_neg hc]
      rw [h]
      by_cases hi : Lib.indexByte t 46 = -1
      · simp only [hi, reduceIte]; simp
      · simp only [if_neg hi]
        rw [if_pos (by omega), if_pos (by omega)]
        rw [show (Lib.indexByte t 46 + 1).toNat = (Lib.indexByte t 46).toNat + 1 by omega, show (Lib.indexByte t 46 + 1 + 1).toNat = (Lib.indexByte t 46).toNat + 1 + 1 by omega]
        simp
theorem partsF_spl : ∀ (n : Nat) (s : List UInt8), s.length ≤ n → partsF n s = spl [] s
  | 0, s, h => by
    have : s = [] := List.length_eq_zero_iff.1 (by omega)
    subst this; rfl
  | n + 1, s, h => by
    have hb := idx_lt s 46
    rw [spl_cut]
    unfold partsF cutS
    by_cases hi : 0 ≤ Lib.indexByte s 46
    · rw [if_pos hi, if_pos hi, if_pos rfl, partsF_spl n _ (by simp only [List.length_drop]; omega)]; rfl
    · rw [if_neg hi, if_neg hi, if_neg Bool.false_ne_true]; rfl
theorem partsS_spl (s : List UInt8) : partsS s = spl [] s := partsF_spl _ s (Nat.le_refl _)
theorem spl_count : ∀ (s cur : List UInt8), (spl cur s).length ≤ s.length + 1
  | [], cur => by simp [spl]
  | c :: t, cur => by
    unfold spl
    split
    · have := spl_count t []; simp only [List.length_cons]; omega
    · have := spl_count t (cur ++ [c]); simp only [List.length_cons]; omega
theorem partsS_count (s : List UInt8) : (partsS s).length ≤ s.length + 1 := by rw [partsS_spl]; exact spl_count s []
theorem part_len {p : List UInt8} (h : partS p = true) : 1 ≤ p.length ∧ p.length ≤ 63 := by
  unfold partS at h
  rw [Bool.and_eq_true, decide_eq_true_eq] at h
  exact h.1
theorem goodN_iff {s : List UInt8} : goodN s = true ↔ s.length ≤ 253 ∧ ∀ p ∈ partsS s, partS p = true := by
  unfold goodN
  rw [Bool.and_eq_true, decide_eq_true_eq, List.all_eq_true]
/-- The bytes of texts, each behind its length. -/
def wireL : List (List UInt8) → List UInt8
  | [] => []
  | p :: l => UInt8.ofInt (p.length : Int) :: p ++ wireL l
theorem wireL_fold : ∀ (l : List (List UInt8)) (o : List UInt8), l.foldl (fun o p => o ++ UInt8.ofInt (p.length : Int) :: p) o = o ++ wireL l
  | [], o => by simp [wireL]
  | p :: l, o => by
    rw [List.foldl_cons, wireL_fold l]; simp [wireL, List.append_assoc]
theorem wireL_len : ∀ (l : List (List UInt8)), (∀ p ∈ l, p.length ≤ 63) → (wireL l).length ≤ 64 * l.length
  | [], _ => by simp [wireL]
  | p :: l, h => by
    have := wireL_len l (fun q hq => h q (List.mem_cons_of_mem _ hq))
    have := h p (List.mem_cons_self ..)
    simp only [wireL, List.length_cons, List.length_append, List.cons_append]; omega
/-- A name's bytes. -/
def wireS (s : List UInt8) : List UInt8 := wireL (partsS s) ++ [0]
/-! ### signpostref09 -/
theorem ref09_parts_loop {s : List UInt8} (hs : s.length ≤ 1000000) : ∀ (d : Nat) (out : List (List UInt8)) (f i : Nat), s.length = i + d → f ≤ i → out.length ≤ i →
    loopO (fun z_ => M_signpostref09_Parts_b1 s z_.1 z_.2.1 z_.2.2) (out, (f : Int), (i : Int)) = some (out ++ spl ((s.take i).drop f) (s.drop i)) := by
  intro d
  induction d with
  | zero =>
    intro out f i h hf ho
    rw [loopO_next (s' := (out ++ [(s.take i).drop f], ((i + 1 : Nat) : Int), ((i + 1 : Nat) : Int))) (by
        show M_signpostref09_Parts_b1 s out (f : Int) (i : Int) = _
        unfold M_signpostref09_Parts_b1 M_signpostref09_Parts_k2
        rw [if_pos (by omega), if_pos (by omega), if_pos rfl, if_pos (by omega), if_pos (by omega), if_pos (ok_small (by omega)), if_pos (ok_small (by omega))]; rfl),
      loopO_end (r := out ++ [(s.take i).drop f]) (by show M_signpostref09_Parts_b1 s _ ((i + 1 : Nat) : Int) ((i + 1 : Nat) : Int) = _; unfold M_signpostref09_Parts_b1; rw [if_neg (by omega)]), List.drop_of_length_le (by omega : s.length ≤ i)]
    rfl
  | succ d ih =>
    intro out f i h hf ho
    have hk : i < s.length := by omega
    have hb : M_signpostref09_Parts_b1 s out (f : Int) (i : Int) = M_signpostref09_Parts_k2 (f : Int) (i : Int) out s (decide (s[i] = 46)) := by
      unfold M_signpostref09_Parts_b1
      rw [if_pos (by omega), if_neg (by omega), at?_in hk, Option.bind_some]
    rw [List.drop_eq_getElem_cons hk]
    unfold spl
    by_cases hc : s[i] = 46
    · rw [loopO_next (s' := (out ++ [(s.take i).drop f], ((i + 1 : Nat) : Int), ((i + 1 : Nat) : Int))) (by
        show M_signpostref09_Parts_b1 s out (f : Int) (i : Int) = _
        rw [hb, decide_eq_true hc]
        unfold M_signpostref09_Parts_k2
        rw [if_pos rfl, if_pos (by omega), if_pos (by omega), if_pos (ok_small (by omega)), if_pos (ok_small (by omega))]; rfl), ih _ _ _ (by omega) (Nat.le_refl _) (by simp; omega), if_pos hc, show (s.take (i + 1)).drop (i + 1) = [] from List.drop_of_length_le (by rw [List.length_take]; omega), List.append_assoc]
      rfl
    · rw [loopO_next (s' := (out, (f : Int), ((i + 1 : Nat) : Int))) (by
        show M_signpostref09_Parts_b1 s out (f : Int) (i : Int) = _
        rw [hb, decide_eq_false hc]
        unfold M_signpostref09_Parts_k2
        rw [if_neg (by decide), if_pos (ok_small (by omega))]; rfl), ih _ _ _ (by omega) (by omega) (by omega), if_neg hc,
        show (s.take (i + 1)).drop f = (s.take i).drop f ++ [s[i]] by
          rw [List.take_succ_eq_append_getElem hk, List.drop_append_of_le_length (by rw [List.length_take]; omega)]]
theorem ref09_parts {s : List UInt8} (hs : s.length ≤ 1000000) : M_signpostref09_Parts s = some (partsS s) := by
  unfold M_signpostref09_Parts
  have := ref09_parts_loop hs s.length [] 0 0 (by omega) (by omega) (by simp)
  rw [show ((0 : Nat) : Int) = 0 from rfl] at this
  rw [this, Option.bind_some, partsS_spl]
  rfl
theorem ref09_part_step {s : List UInt8} {k : Nat} (hs : s.length ≤ 140737488355328) (hk : k < s.length) : M_signpostref09_Part_b1 s (k : Int) = if plainS s[k] = true then some (.inl ((k : Int) + 1)) else some (.inr (.inr false)) := by
  have hp := label_plain s[k]
  unfold M_label_plain M_label_plain_k1 M_label_plain_k2 at hp
  unfold M_signpostref09_Part_b1 M_signpostref09_letter M_signpostref09_Part_k3 M_signpostref09_Part_k2
  rw [if_pos (by omega), at?_in hk]
  simp only [Option.bind_some]
  rw [if_pos (ok_small (by omega))]
  by_cases h1 : 97 ≤ s[k] <;> by_cases h2 : s[k] ≤ 122 <;> by_cases h3 : 65 ≤ s[k] <;> by_cases h4 : s[k] ≤ 90 <;> by_cases h5 : 48 ≤ s[k] <;> by_cases h6 : s[k] ≤ 57 <;> by_cases h7 : s[k] = 45 <;>
    simp only [h1, h2, h3, h4, h5, h6, h7, if_true, if_false, Option.some.injEq] at hp <;>
    simp only [h1, h2, h3, h4, h5, h6, h7, ← hp, if_true, if_false, Option.bind_some, decide_true, decide_false, Bool.false_eq_true, Bool.not_eq_true', decide_eq_false_iff_not, decide_eq_true_eq, Bool.not_true, Bool.not_false, reduceIte] <;> (try split) <;> simp_all
theorem ref09_part_loop {s : List UInt8} (hs : s.length ≤ 140737488355328) : ∀ (d k : Nat), s.length = k + d →
    loopO (fun z_ => M_signpostref09_Part_b1 s z_) (k : Int) = some (if (s.drop k).all plainS = true then .inl () else .inr false) := by
  intro d
  induction d with
  | zero =>
    intro k h
    rw [loopO_end (r := .inl ()) (by unfold M_signpostref09_Part_b1; rw [if_neg (by omega)]), List.drop_of_length_le (by omega)]; rfl
  | succ d ih =>
    intro k h
    have hk : k < s.length := by omega
    have hb := ref09_part_step hs hk
    rw [List.drop_eq_getElem_cons hk, List.all_cons]
    cases hp : plainS s[k] with
    | true => rw [loopO_next (s' := ((k + 1 : Nat) : Int)) (by show M_signpostref09_Part_b1 s (k : Int) = _; rw [hb, if_pos hp]; rfl), ih (k + 1) (by omega), Bool.true_and]
    | false => rw [loopO_end (r := .inr false) (by show M_signpostref09_Part_b1 s (k : Int) = _; rw [hb, if_neg (by rw [hp]; decide)])]; rfl
theorem ref09_part {s : List UInt8} (hs : s.length ≤ 140737488355328) : M_signpostref09_Part s = some (partS s) := by
  unfold M_signpostref09_Part
  have := ref09_part_loop hs s.length 0 (by omega)
  rw [show ((0 : Nat) : Int) = 0 from rfl, List.drop_zero] at this
  rw [this, Option.bind_some]
  unfold partS
  cases ha : s.all plainS with
  | false => simp
  | true =>
    rw [if_pos rfl]
    simp only []
    by_cases h1 : (1 : Int) ≤ s.length
    · rw [if_pos h1]
      by_cases h2 : (s.length : Int) ≤ 63
      · have h0 : 0 < s.length := by omega
        have hl : s.length - 1 < s.length := by omega
        rw [if_pos h2, decide_eq_true (by omega), show (0 : Int) = ((0 : Nat) : Int) from rfl, at?_in h0, Option.bind_some, if_pos (ok_small (by omega)),
          show (s.length : Int) - 1 = ((s.length - 1 : Nat) : Int) by omega, at?_in hl, Option.bind_some, List.getElem?_eq_getElem h0, List.getElem?_eq_getElem hl]
        by_cases h3 : s[0] = 45
        · rw [if_pos h3]; simp [h3]
        · rw [if_neg h3]; simp [h3]
      · rw [if_neg h2, decide_eq_false (by omega)]; rfl
    · rw [if_neg h1, decide_eq_false (by omega)]; rfl
theorem ref09_good_loop {l : List (List UInt8)} (hl : l.length ≤ 1000001) (h : ∀ p ∈ l, p.length ≤ 140737488355328) : ∀ (d k : Nat), l.length = k + d →
    loopO (fun z_ => M_signpostref09_Good_b1 l z_) (k : Int) = some (if (l.drop k).all partS = true then .inl () else .inr false) := by
  intro d
  induction d with
  | zero =>
    intro k h
    rw [loopO_end (r := .inl ()) (by unfold M_signpostref09_Good_b1; rw [if_neg (by omega)]), List.drop_of_length_le (by omega)]; rfl
  | succ d ih =>
    intro k h1
    have hk : k < l.length := by omega
    have hb : M_signpostref09_Good_b1 l (k : Int) = if partS l[k] = true then some (.inl ((k : Int) + 1)) else some (.inr (.inr false)) := by
      unfold M_signpostref09_Good_b1
      rw [if_pos (by omega), at?_in hk, Option.bind_some, ref09_part (h _ (List.getElem_mem hk)), Option.bind_some, if_pos (ok_small (by omega))]
    rw [List.drop_eq_getElem_cons hk, List.all_cons]
    cases hp : partS l[k] with
    | true => rw [loopO_next (s' := ((k + 1 : Nat) : Int)) (by show M_signpostref09_Good_b1 l (k : Int) = _; rw [hb, if_pos hp]; rfl), ih (k + 1) (by omega), Bool.true_and]
    | false => rw [loopO_end (r := .inr false) (by show M_signpostref09_Good_b1 l (k : Int) = _; rw [hb, if_neg (by rw [hp]; decide)])]; rfl
theorem ref09_good {s : List UInt8} (hs : s.length ≤ 1000000) : M_signpostref09_Good s = some (goodN s) := by
  have hc := partsS_count s
  unfold M_signpostref09_Good
  have := ref09_good_loop (l := partsS s) (by omega) (fun p hp => by have := partsF_len _ _ p hp; omega) (partsS s).length 0 (by omega)
  rw [show ((0 : Nat) : Int) = 0 from rfl, List.drop_zero] at this
  rw [ref09_parts hs, Option.bind_some, this, Option.bind_some]
  unfold goodN
  cases (partsS s).all partS with
  | false => simp
  | true =>
    rw [if_pos rfl]
    simp only []
    rw [if_pos (ok_small (by omega)), Bool.and_true]
    exact congrArg some (decide_eq_decide.2 (by omega))
theorem fold09_byte (c : UInt8) (h1 : 65 ≤ c) (h2 : c ≤ 90) : c + 97 - 65 = c ||| 32 := by
  have key : ∀ n : Fin 256, 65 ≤ n.val → n.val ≤ 90 → UInt8.ofNat n.val + 97 - 65 = UInt8.ofNat n.val ||| 32 := by decide +kernel
  have hc := c.toNat_lt
  have := key ⟨c.toNat, hc⟩ (UInt8.le_iff_toNat_le.1 h1) (UInt8.le_iff_toNat_le.1 h2)
  simpa using this
theorem ref09_fold_loop {s : List UInt8} (hs : s.length ≤ 140737488355328) : ∀ (d k : Nat), s.length = k + d →
    loopO (fun z_ => M_signpostref09_Fold_b1 s z_.1 z_.2) ((s.take k).map foldC ++ s.drop k, (k : Int)) = some (foldS s) := by
  intro d
  induction d with
  | zero =>
    intro k h
    rw [loopO_end (r := (s.take k).map foldC ++ s.drop k) (by unfold M_signpostref09_Fold_b1; rw [if_neg (by omega)]), List.drop_of_length_le (by omega), List.take_of_length_le (by omega), List.append_nil]; rfl
  | succ d ih =>
    intro k h
    have hk : k < s.length := by omega
    have hlen : ((s.take k).map foldC).length = k := by rw [List.length_map, List.length_take]; omega
    have hx : at? ((s.take k).map foldC ++ s.drop k) (k : Int) = some s[k] := by
      rw [at?_nat, List.getElem?_append_right (by omega), hlen, Nat.sub_self, List.getElem?_drop, Nat.add_zero, List.getElem?_eq_getElem hk]
    have hset : ∀ c : UInt8, ((s.take k).map foldC ++ s.drop k).set k c = (s.take k).map foldC ++ c :: s.drop (k + 1) := by
      intro c
      rw [List.set_append_right _ _ (by omega), hlen, Nat.sub_self, List.drop_eq_getElem_cons hk]; rfl
    have hnext : (s.take (k + 1)).map foldC ++ s.drop (k + 1) = (s.take k).map foldC ++ foldC s[k] :: s.drop (k + 1) := by
      rw [List.take_succ_eq_append_getElem hk, List.map_append, List.append_assoc]; rfl
    have hsame : (s.take k).map foldC ++ s.drop k = (s.take k).map foldC ++ s[k] :: s.drop (k + 1) := by rw [← List.drop_eq_getElem_cons hk]
    have hb : M_signpostref09_Fold_b1 s ((s.take k).map foldC ++ s.drop k) (k : Int) = some (.inl ((s.take (k + 1)).map foldC ++ s.drop (k + 1), ((k + 1 : Nat) : Int))) := by
      unfold M_signpostref09_Fold_b1 M_signpostref09_Fold_k2
      rw [if_pos (by omega), hx, Option.bind_some, hnext]
      by_cases h1 : 65 ≤ s[k]
      · rw [if_pos h1]
        by_cases h2 : s[k] ≤ 90
        · rw [if_pos (decide_eq_true h2), Option.bind_some, if_pos (ok_small (by omega)), fold09_byte _ h1 h2, show foldC s[k] = s[k] ||| 32 from if_pos ⟨h1, h2⟩, show ((k : Int)).toNat = k from rfl, hset]; rfl
        · rw [if_neg (by simpa using h2), if_pos (ok_small (by omega)), show foldC s[k] = s[k] from if_neg (fun hh => h2 hh.2), ← hsame]; rfl
      · rw [if_neg h1, if_neg (by decide), if_pos (ok_small (by omega)), show foldC s[k] = s[k] from if_neg (fun hh => h1 hh.1), ← hsame]; rfl
    rw [loopO_next hb]
    exact ih (k + 1) (by omega)
theorem ref09_fold {s : List UInt8} (hs : s.length ≤ 140737488355328) : M_signpostref09_Fold s = some (foldS s) := by
  unfold M_signpostref09_Fold
  have := ref09_fold_loop hs s.length 0 (by omega)
  rw [List.take_zero, List.map_nil, List.nil_append, List.drop_zero, show ((0 : Nat) : Int) = 0 from rfl] at this
  rw [if_pos hs, this]; rfl
/-! ### octet -/
theorem octet_may (w : Int) : M_octet_may w = some (decide (1 ≤ w ∧ w ≤ 8)) := by
  unfold M_octet_may
  by_cases h : 1 ≤ w <;> simp [h]
/-- The number that stands at a place. -/
def getS (b : List UInt8) (a w : Int) : UInt64 × Bool := if (1 ≤ w ∧ w ≤ 8) ∧ 0 ≤ a ∧ a + w ≤ b.length then (num ((b.drop a.toNat).take w.toNat), true) else (0, false)
theorem octet_get {b : List UInt8} {a w : Int} (hb : b.length ≤ 4611686018427387904) : M_octet_Get_v b a w = some (getS b a w) := by
  have hk : ∀ t, M_octet_Get_v_k1 a b w t = if t = true then some (0, false) else if (0 ≤ a ∧ 0 ≤ w) ∧ a + w ≤ b.length then some (num ((b.drop a.toNat).take w.toNat), true) else M_octet_Get_v_k1 a b w t := by
    intro t
    by_cases ht : t = true
    · subst ht; rfl
    · rw [if_neg ht]
      by_cases h : (0 ≤ a ∧ 0 ≤ w) ∧ a + w ≤ b.length
      · rw [if_pos h]
        unfold M_octet_Get_v_k1
        have e : (b.take (a + w).toNat).drop a.toNat = (b.drop a.toNat).take w.toNat := by
          rw [List.drop_take]; congr 1; omega
        rw [if_neg ht, if_pos (ok_small (by omega)), if_pos (by omega), loop_fold0 ((b.drop a.toNat).take w.toNat) (fun n x => n * 256 + x.toUInt64) (by simp; omega)]
        · rfl
        · intro s t
          unfold M_octet_Get_v_b2
          rw [e]
          simp only [shl_or]
      · rw [if_neg h]
  unfold M_octet_Get_v
  rw [octet_may, Option.bind_some]
  unfold getS
  by_cases h1 : 1 ≤ w ∧ w ≤ 8
  · rw [if_pos (decide_eq_true h1)]
    by_cases h2 : a < 0
    · rw [if_pos h2, hk, if_pos rfl, if_neg (by omega)]
    · rw [if_neg h2]
      by_cases h3 : (b.length : Int) < a
      · rw [if_pos h3, hk, if_pos rfl, if_neg (by omega)]
      · rw [if_neg h3, if_pos (ok_small (by omega)), hk]
        by_cases h4 : (b.length : Int) - a < w
        · rw [if_pos (decide_eq_true h4), if_neg (by omega)]
        · rw [if_neg (by simpa using h4), if_pos (by omega), if_pos (by omega)]
  · rw [if_neg (by simpa using h1), hk, if_pos rfl, if_neg (by simp [h1])]
/-! ### numbers put -/
/-- The bytes of a number, so many, the most significant first. -/
def putF (n : UInt64) : Nat → List UInt8
  | 0 => []
  | d + 1 => (shr64 n (8 * d)).toUInt8 :: putF n d
theorem putF_len (n : UInt64) : ∀ d, (putF n d).length = d
  | 0 => rfl
  | d + 1 => by rw [putF, List.length_cons, putF_len n d]
theorem put_loop {n : UInt64} {w : Nat} (hw : w ≤ 8) : ∀ (d k : Nat) (out : List UInt8), w = k + d → out.length + d ≤ 140737488355328 →
    loopO (fun z_ => M_octet_Put_v_b1 n (w : Int) z_.1 z_.2) (out, (k : Int)) = some (out ++ putF n d) := by
  intro d
  induction d with
  | zero =>
    intro k out h ho
    rw [loopO_end (r := out) (by unfold M_octet_Put_v_b1; rw [if_neg (by omega)]), putF, List.append_nil]
  | succ d ih =>
    intro k out h ho
    have e : (UInt64.ofInt (8 * (((w : Int) - 1) - (k : Int)))).toNat = 8 * d := by
      rw [show (8 * (((w : Int) - 1) - (k : Int)) : Int) = ((8 * d : Nat) : Int) by omega]
      rw [show UInt64.ofInt ((8 * d : Nat) : Int) = UInt64.ofNat (8 * d) by
        apply UInt64.toNat_inj.1
        simp [UInt64.ofInt, UInt64.toNat_ofNat']; omega, UInt64.toNat_ofNat']
      omega
    rw [loopO_next (s' := (out ++ [(shr64 n (8 * d)).toUInt8], ((k + 1 : Nat) : Int))) (by
      show M_octet_Put_v_b1 n (w : Int) out (k : Int) = _
      unfold M_octet_Put_v_b1
      rw [if_pos (by omega), if_pos (ok_small (by omega)), if_pos (ok_small (by omega)), if_pos (ok_small (by omega)), if_pos (by omega), if_pos (ok_small (by omega)), e]; rfl),
      ih (k + 1) _ (by omega) (by rw [List.length_append, List.length_singleton]; omega), putF, List.append_assoc]
    rfl
theorem octet_put {b : List UInt8} {n : UInt64} {w : Int} (hb : b.length ≤ 140737488355320) : M_octet_Put_v b n w = some (if 1 ≤ w ∧ w ≤ 8 then b ++ putF n w.toNat else b) := by
  unfold M_octet_Put_v
  rw [if_pos (by omega), octet_may, Option.bind_some]
  by_cases h : 1 ≤ w ∧ w ≤ 8
  · have hl := put_loop (n := n) (w := w.toNat) (by omega) w.toNat 0 b (by omega) (by omega)
    rw [show ((w.toNat : Nat) : Int) = w by omega, show ((0 : Nat) : Int) = 0 from rfl] at hl
    rw [if_pos (decide_eq_true h), if_pos h, List.nil_append, hl]
    rfl
  · rw [if_neg (by simpa using h), if_neg h]; rfl
theorem num_put (n : UInt64) : ∀ (d : Nat) (s : UInt64), ((putF n d).foldl (fun n x => n * 256 + x.toUInt64) s).toNat = (s.toNat * 256 ^ d + n.toNat % 256 ^ d) % 18446744073709551616
  | 0, s => by
    have := s.toNat_lt
    simp [putF, Nat.mod_one]
  | d + 1, s => by
    have hn := n.toNat_lt
    rw [putF, List.foldl_cons, num_put n d]
    have e0 : (256 : Nat) ^ d = 2 ^ (8 * d) := by rw [Nat.pow_mul]
    have e1 : ((shr64 n (8 * d)).toUInt8).toUInt64.toNat = n.toNat / 256 ^ d % 256 := by
      rw [e0]
      have : n.toNat / 2 ^ (8 * d) ≤ n.toNat := Nat.div_le_self _ _
      simp [shr64]
    rw [UInt64.toNat_add, UInt64.toNat_mul, e1, show (256 : UInt64).toNat = 256 from rfl]
    have e2 : n.toNat % 256 ^ (d + 1) = n.toNat % 256 ^ d + 256 ^ d * (n.toNat / 256 ^ d % 256) := by rw [Nat.pow_succ, Nat.mod_mul]
    rw [e2]
    have e3 : (s.toNat * 256 % 2 ^ 64 + n.toNat / 256 ^ d % 256) % 2 ^ 64 = (s.toNat * 256 + n.toNat / 256 ^ d % 256) % 18446744073709551616 := by omega
    rw [e3, Nat.add_mod, Nat.mul_mod, Nat.mod_mod, ← Nat.mul_mod, ← Nat.add_mod]
    congr 1
    rw [Nat.pow_succ, Nat.add_mul]
    generalize 256 ^ d = q
    generalize n.toNat / q % 256 = y
    generalize n.toNat % q = z
    rw [Nat.mul_comm q y, Nat.mul_comm q 256, ← Nat.mul_assoc]
    omega
/-! ### signpostref01 -/
theorem ref01_loop {b : List UInt8} {a w : Nat} (hb : b.length ≤ 4611686018427387904) (h : a + w ≤ b.length) : ∀ (d k : Nat) (s : UInt64), w = k + d →
    loopO (fun z_ => M_signpostref01_Get_v_b2 (a : Int) b (w : Int) z_.1 z_.2) (s, (k : Int)) = some ((((b.drop a).take w).drop k).foldl (fun n x => n * 256 + x.toUInt64) s) := by
  intro d
  induction d with
  | zero =>
    intro k s hk
    rw [loopO_end (r := s) (by simp only [M_signpostref01_Get_v_b2]; rw [if_neg (by omega)]), List.drop_of_length_le (by simp; omega)]; rfl
  | succ d ih =>
    intro k s hk
    have hlen : ((b.drop a).take w).length = w := by rw [List.length_take, List.length_drop]; omega
    have hx : at? b ((a : Int) + (k : Int)) = some ((b.drop a).take w)[k] := by
      have := at?_in (l := b) (k := a + k) (by omega)
      rw [Int.natCast_add] at this
      rw [this]; simp
    rw [loopO_next (s' := (s * 256 + (((b.drop a).take w)[k]).toUInt64, ((k + 1 : Nat) : Int))) (by
      simp only [M_signpostref01_Get_v_b2]
      rw [if_pos (by omega), if_pos (ok_small (by omega)), hx, Option.bind_some, if_pos (ok_small (by omega))]; rfl), ih (k + 1) _ (by omega), List.drop_eq_getElem_cons (i := k) (by omega)]
    rfl
theorem ref01_get {b : List UInt8} {a w : Int} (hb : b.length ≤ 4611686018427387904) : M_signpostref01_Get_v b a w = some (getS b a w) := by
  have hk0 : M_signpostref01_Get_v_k1 a b w true = some (0, false) := rfl
  unfold M_signpostref01_Get_v getS
  by_cases h1 : w < 1
  · rw [if_pos h1, hk0, if_neg (by omega)]
  · rw [if_neg h1]
    by_cases h2 : 8 < w
    · rw [if_pos h2, hk0, if_neg (by omega)]
    · rw [if_neg h2]
      by_cases h3 : a < 0
      · rw [if_pos h3, hk0, if_neg (by omega)]
      · rw [if_neg h3]
        by_cases h4 : (b.length : Int) < a
        · rw [if_pos h4, hk0, if_neg (by omega)]
        · rw [if_neg h4, if_pos (ok_small (by omega))]
          by_cases h5 : (b.length : Int) - a < w
          · rw [decide_eq_true h5, hk0, if_neg (by omega)]
          · rw [decide_eq_false h5, if_pos (by omega)]
            obtain ⟨a', rfl⟩ : ∃ n : Nat, a = n := ⟨a.toNat, by omega⟩
            obtain ⟨w', rfl⟩ : ∃ n : Nat, w = n := ⟨w.toNat, by omega⟩
            unfold M_signpostref01_Get_v_k1
            rw [if_neg (by decide)]
            have := ref01_loop (a := a') (w := w') hb (by omega) w' 0 0 (by omega)
            rw [show ((0 : Nat) : Int) = 0 from rfl] at this
            rw [this]
            rfl
theorem ref01_put_loop {n : UInt64} : ∀ (d : Nat) (out : List UInt8), d ≤ 8 → out.length + d ≤ 140737488355328 →
    loopO (fun z_ => M_signpostref01_Put_v_b2 n z_.1 z_.2) (out, (d : Int) - 1) = some (out ++ putF n d)
  | 0, out, _, _ => by
    rw [loopO_end (r := out) (by show M_signpostref01_Put_v_b2 n out (((0 : Nat) : Int) - 1) = _; unfold M_signpostref01_Put_v_b2; rw [if_neg (by decide)]), putF, List.append_nil]
  | d + 1, out, h, ho => by
    have e : (UInt64.ofInt (8 * (((d + 1 : Nat) : Int) - 1))).toNat = 8 * d := by
      rw [show (8 * (((d + 1 : Nat) : Int) - 1) : Int) = ((8 * d : Nat) : Int) by omega]
      rw [show UInt64.ofInt ((8 * d : Nat) : Int) = UInt64.ofNat (8 * d) by
        apply UInt64.toNat_inj.1
        simp [UInt64.ofInt, UInt64.toNat_ofNat']; omega, UInt64.toNat_ofNat']
      omega
    rw [loopO_next (s' := (out ++ [(shr64 n (8 * d)).toUInt8], (d : Int) - 1)) (by
      show M_signpostref01_Put_v_b2 n out (((d + 1 : Nat) : Int) - 1) = _
      unfold M_signpostref01_Put_v_b2
      rw [if_pos (by omega), if_pos (ok_small (by omega)), if_pos (by omega), if_pos (ok_small (by omega)), e, show ((d + 1 : Nat) : Int) - 1 - 1 = (d : Int) - 1 by omega]),
      ref01_put_loop d _ (by omega) (by rw [List.length_append, List.length_singleton]; omega), putF, List.append_assoc]
    rfl
theorem ref01_put {b : List UInt8} {n : UInt64} {w : Int} (hb : b.length ≤ 1000000) (hw : 1 ≤ w ∧ w ≤ 8) : M_signpostref01_Put_v b n w = some (b ++ putF n w.toNat) := by
  unfold M_signpostref01_Put_v
  rw [if_pos (by omega), if_neg (by omega), decide_eq_false (by omega)]
  unfold M_signpostref01_Put_v_k1
  have hl := ref01_put_loop (n := n) w.toNat b (by omega) (by omega)
  rw [show ((w.toNat : Nat) : Int) = w by omega] at hl
  rw [if_neg (by decide), if_pos (ok_small (by omega)), List.nil_append, hl]; rfl
/-! ### sums: there is one -/
theorem at_ok {α : Type} {xs : List α} {j : Int} (h0 : 0 ≤ j) (h1 : j < xs.length) : ∃ u, at? xs j = some u := by
  unfold at?
  rw [if_pos h0]
  exact ⟨xs[j.toNat]'(by omega), List.getElem?_eq_getElem (by omega)⟩
theorem tmod_ok {i : Int} (h : 0 ≤ i) : 0 ≤ i.tmod 16 ∧ i.tmod 16 < 16 := ⟨Int.tmod_nonneg 16 h, Int.tmod_lt_of_pos i (by decide)⟩
theorem at_some {α : Type} {xs : List α} {j : Int} {n : Nat} (hl : xs.length = n) (h : 0 ≤ j ∧ j < (n : Int)) : ∃ u, at? xs j = some u := at_ok h.1 (by omega)
theorem sha_load {b : List UInt8} (hb : b.length ≤ 1000000) : ∃ r, M_sha_load_v b = some r := by
  unfold M_sha_load_v
  obtain ⟨r, h, _⟩ := loopO_run (body := fun z_ : UInt32 × UInt32 × UInt32 × UInt32 × UInt32 × UInt32 × UInt32 × UInt32 × UInt32 × UInt32 × UInt32 × UInt32 × UInt32 × UInt32 × UInt32 × UInt32 × Int => M_sha_load_v_b1 b z_.1 z_.2.1 z_.2.2.1 z_.2.2.2.1 z_.2.2.2.2.1 z_.2.2.2.2.2.1 z_.2.2.2.2.2.2.1 z_.2.2.2.2.2.2.2.1 z_.2.2.2.2.2.2.2.2.1 z_.2.2.2.2.2.2.2.2.2.1 z_.2.2.2.2.2.2.2.2.2.2.1 z_.2.2.2.2.2.2.2.2.2.2.2.1 z_.2.2.2.2.2.2.2.2.2.2.2.2.1 z_.2.2.2.2.2.2.2.2.2.2.2.2.2.1 z_.2.2.2.2.2.2.2.2.2.2.2.2.2.2.1 z_.2.2.2.2.2.2.2.2.2.2.2.2.2.2.2.1 z_.2.2.2.2.2.2.2.2.2.2.2.2.2.2.2.2)
    (I := fun z => 0 ≤ z.2.2.2.2.2.2.2.2.2.2.2.2.2.2.2.2 ∧ z.2.2.2.2.2.2.2.2.2.2.2.2.2.2.2.2 ≤ 16) (Φ := fun _ => True) (fun z => (16 - z.2.2.2.2.2.2.2.2.2.2.2.2.2.2.2.2).toNat) (by
    rintro ⟨a1, a2, a3, a4, a5, a6, a7, a8, a9, a10, a11, a12, a13, a14, a15, a16, t⟩ hI
    simp only at hI ⊢
    unfold M_sha_load_v_b1
    by_cases ht : t < 16
    · refine .inl ?_
      obtain ⟨u, hu⟩ := at_some (xs := [a1, a2, a3, a4, a5, a6, a7, a8, a9, a10, a11, a12, a13, a14, a15, a16]) (n := 16) rfl ⟨hI.1, ht⟩
      rw [if_pos ht, if_pos (ok_small (by omega)), octet_get (by omega), some_bindP]
      simp only []
      rw [hu, some_bindP, if_pos (ok_small (by omega))]
      exact ⟨_, rfl, by simp only; omega, by simp only; omega⟩
    · rw [if_neg ht]
      exact .inr ⟨_, rfl, trivial⟩) (0, 0, 0, 0, 0, 0, 0, 0, 0, 0, 0, 0, 0, 0, 0, 0, 0) (by simp)
  rw [h, some_bindP]
  exact ⟨_, rfl⟩
theorem sha_next {a1 a2 a3 a4 a5 a6 a7 a8 a9 a10 a11 a12 a13 a14 a15 a16 : UInt32} {i : Int} (hi : 0 ≤ i ∧ i ≤ 1000) : ∃ r, M_sha_words_next_p a1 a2 a3 a4 a5 a6 a7 a8 a9 a10 a11 a12 a13 a14 a15 a16 i = some r := by
  have t0 := tmod_ok (i := i) hi.1
  have t13 := tmod_ok (i := i + 13) (by omega)
  have t8 := tmod_ok (i := i + 8) (by omega)
  have t2 := tmod_ok (i := i + 2) (by omega)
  have any : ∀ b1 b2 b3 b4 b5 b6 b7 b8 b9 b10 b11 b12 b13 b14 b15 b16 : UInt32, ∀ j : Int, 0 ≤ j ∧ j < 16 → ∃ u, at? [b1, b2, b3, b4, b5, b6, b7, b8, b9, b10, b11, b12, b13, b14, b15, b16] j = some u := fun _ _ _ _ _ _ _ _ _ _ _ _ _ _ _ _ j hj => at_some (n := 16) rfl hj
  unfold M_sha_words_next_p
  rw [if_pos (by decide)]
  by_cases h : 16 ≤ i
  · obtain ⟨u1, h1⟩ := any a1 a2 a3 a4 a5 a6 a7 a8 a9 a10 a11 a12 a13 a14 a15 a16 _ t13
    obtain ⟨u2, h2⟩ := any a1 a2 a3 a4 a5 a6 a7 a8 a9 a10 a11 a12 a13 a14 a15 a16 _ t8
    obtain ⟨u3, h3⟩ := any a1 a2 a3 a4 a5 a6 a7 a8 a9 a10 a11 a12 a13 a14 a15 a16 _ t2
    obtain ⟨u4, h4⟩ := any a1 a2 a3 a4 a5 a6 a7 a8 a9 a10 a11 a12 a13 a14 a15 a16 _ t0
    rw [if_pos h, if_pos (ok_small (by omega)), if_pos (by decide), h1, some_bindP, if_pos (ok_small (by omega)), if_pos (by decide), h2, some_bindP, if_pos (ok_small (by omega)), if_pos (by decide), h3, some_bindP, h4, some_bindP,
      show M_math_bits_RotateLeft32 (((u1 ^^^ u2) ^^^ u3) ^^^ u4) 1 = some () from rfl, some_bindP, some_bindP]
    obtain ⟨u5, h5⟩ := any _ _ _ _ _ _ _ _ _ _ _ _ _ _ _ _ (i.tmod 16) t0
    rw [h5, some_bindP]
    exact ⟨_, rfl⟩
  · obtain ⟨u4, h4⟩ := any a1 a2 a3 a4 a5 a6 a7 a8 a9 a10 a11 a12 a13 a14 a15 a16 _ t0
    rw [if_neg h, h4, some_bindP]
    exact ⟨_, rfl⟩
theorem sha_round {i : Int} {x a b c d a1 a2 a3 a4 a5 a6 a7 a8 a9 a10 a11 a12 a13 a14 a15 a16 : UInt32} (hi : 0 ≤ i ∧ i ≤ 1000) : ∃ r, M_sha_eat_1_pp i x a b c d a1 a2 a3 a4 a5 a6 a7 a8 a9 a10 a11 a12 a13 a14 a15 a16 = some r := by
  obtain ⟨⟨q1, q2, q3, q4, q5, q6, q7, q8, q9, q10, q11, q12, q13, q14, q15, q16, q17⟩, hr⟩ := sha_next (a1 := a1) (a2 := a2) (a3 := a3) (a4 := a4) (a5 := a5) (a6 := a6) (a7 := a7) (a8 := a8) (a9 := a9) (a10 := a10) (a11 := a11) (a12 := a12) (a13 := a13) (a14 := a14) (a15 := a15) (a16 := a16) hi
  have hm : ∃ r, M_sha_mix i a b c = some r := by
    unfold M_sha_mix
    split
    · exact ⟨_, rfl⟩
    · split
      · exact ⟨_, rfl⟩
      · split
        · exact ⟨_, rfl⟩
        · exact ⟨_, rfl⟩
  obtain ⟨⟨m1, m2⟩, hm⟩ := hm
  unfold M_sha_eat_1_pp
  rw [hm, some_bindP]
  simp only []
  rw [show M_math_bits_RotateLeft32 x 5 = some () from rfl, some_bindP, hr, some_bindP]
  simp only []
  rw [show M_math_bits_RotateLeft32 a 30 = some () from rfl, some_bindP]
  exact ⟨_, rfl⟩
theorem sha_eat {h1 h2 h3 h4 h5 : UInt32} {b : List UInt8} (hb : b.length ≤ 1000000) : ∃ r, M_sha_eat_v h1 h2 h3 h4 h5 b = some r := by
  obtain ⟨⟨w1, w2, w3, w4, w5, w6, w7, w8, w9, w10, w11, w12, w13, w14, w15, w16⟩, hw⟩ := sha_load hb
  unfold M_sha_eat_v
  rw [hw, some_bindP]
  simp only []
  generalize hB : (fun z_ : UInt32 × UInt32 × UInt32 × UInt32 × UInt32 × UInt32 × UInt32 × UInt32 × UInt32 × UInt32 × UInt32 × UInt32 × UInt32 × UInt32 × UInt32 × UInt32 × UInt32 × UInt32 × UInt32 × UInt32 × UInt32 × Int => M_sha_eat_v_b1 z_.1 z_.2.1 z_.2.2.1 z_.2.2.2.1 z_.2.2.2.2.1 z_.2.2.2.2.2.1 z_.2.2.2.2.2.2.1 z_.2.2.2.2.2.2.2.1 z_.2.2.2.2.2.2.2.2.1 z_.2.2.2.2.2.2.2.2.2.1 z_.2.2.2.2.2.2.2.2.2.2.1 z_.2.2.2.2.2.2.2.2.2.2.2.1 z_.2.2.2.2.2.2.2.2.2.2.2.2.1 z_.2.2.2.2.2.2.2.2.2.2.2.2.2.1 z_.2.2.2.2.2.2.2.2.2.2.2.2.2.2.1 z_.2.2.2.2.2.2.2.2.2.2.2.2.2.2.2.1 z_.2.2.2.2.2.2.2.2.2.2.2.2.2.2.2.2.1 z_.2.2.2.2.2.2.2.2.2.2.2.2.2.2.2.2.2.1 z_.2.2.2.2.2.2.2.2.2.2.2.2.2.2.2.2.2.2.1 z_.2.2.2.2.2.2.2.2.2.2.2.2.2.2.2.2.2.2.2.1 z_.2.2.2.2.2.2.2.2.2.2.2.2.2.2.2.2.2.2.2.2.1 z_.2.2.2.2.2.2.2.2.2.2.2.2.2.2.2.2.2.2.2.2.2) = B
  obtain ⟨r, h, _⟩ := loopO_run (body := B) (I := fun z => 0 ≤ z.2.2.2.2.2.2.2.2.2.2.2.2.2.2.2.2.2.2.2.2.2 ∧ z.2.2.2.2.2.2.2.2.2.2.2.2.2.2.2.2.2.2.2.2.2 ≤ 80) (Φ := fun _ => True) (fun z => (80 - z.2.2.2.2.2.2.2.2.2.2.2.2.2.2.2.2.2.2.2.2.2).toNat) (by
    rintro ⟨x, a, b, c, d, a1, a2, a3, a4, a5, a6, a7, a8, a9, a10, a11, a12, a13, a14, a15, a16, t⟩ hI
    simp only at hI
    have hBt : B (x, a, b, c, d, a1, a2, a3, a4, a5, a6, a7, a8, a9, a10, a11, a12, a13, a14, a15, a16, t) = M_sha_eat_v_b1 x a b c d a1 a2 a3 a4 a5 a6 a7 a8 a9 a10 a11 a12 a13 a14 a15 a16 t := by rw [← hB]
    rw [hBt]
    unfold M_sha_eat_v_b1
    by_cases ht : t < 80
    · refine .inl ?_
      obtain ⟨⟨q1, q2, q3, q4, q5, q6, q7, q8, q9, q10, q11, q12, q13, q14, q15, q16, q17⟩, hu⟩ := sha_round (i := t) (x := x) (a := a) (b := b) (c := c) (d := d) (a1 := a1) (a2 := a2) (a3 := a3) (a4 := a4) (a5 := a5) (a6 := a6) (a7 := a7) (a8 := a8) (a9 := a9) (a10 := a10) (a11 := a11) (a12 := a12) (a13 := a13) (a14 := a14) (a15 := a15) (a16 := a16) (by omega)
      rw [if_pos ht, hu, some_bindP]
      simp only []
      rw [if_pos (ok_small (by omega))]
      exact ⟨_, rfl, by simp only; omega, by simp only; omega⟩
    · rw [if_neg ht]
      exact .inr ⟨_, rfl, trivial⟩) (h1, h2, h3, h4, h5, w1, w2, w3, w4, w5, w6, w7, w8, w9, w10, w11, w12, w13, w14, w15, w16, 0) (by simp)
  rw [h, some_bindP]
  obtain ⟨v1, v2, v3, v4, v5⟩ := r
  simp only []
  obtain ⟨r, h, _⟩ := loopO_run (body := fun z_ : UInt32 × UInt32 × UInt32 × UInt32 × UInt32 × Int => M_sha_eat_v_b2 v5 v1 v2 v3 v4 z_.1 z_.2.1 z_.2.2.1 z_.2.2.2.1 z_.2.2.2.2.1 z_.2.2.2.2.2)
    (I := fun z => 0 ≤ z.2.2.2.2.2 ∧ z.2.2.2.2.2 ≤ 5) (Φ := fun _ => True) (fun z => (5 - z.2.2.2.2.2).toNat) (by
    rintro ⟨a, b, c, d, e, t⟩ hI
    simp only at hI ⊢
    unfold M_sha_eat_v_b2
    by_cases ht : t < 5
    · refine .inl ?_
      obtain ⟨u, hu⟩ := at_some (xs := [a, b, c, d, e]) (n := 5) rfl ⟨hI.1, ht⟩
      obtain ⟨u2, hu2⟩ := at_some (xs := [v1, v2, v3, v4, v5]) (n := 5) rfl ⟨hI.1, ht⟩
      rw [if_pos ht, hu, some_bindP, hu2, some_bindP, some_bindP, if_pos (ok_small (by omega))]
      exact ⟨_, rfl, by simp only; omega, by simp only; omega⟩
    · rw [if_neg ht]
      exact .inr ⟨_, rfl, trivial⟩) (h1, h2, h3, h4, h5, 0) (by simp)
  rw [h, some_bindP]
  exact ⟨_, rfl⟩
theorem sha_write {h1 h2 h3 h4 h5 : UInt32} {all : List UInt8} (hb : all.length ≤ 1000000) (body : UInt32 × UInt32 × UInt32 × UInt32 × UInt32 × List UInt8 → Option ((UInt32 × UInt32 × UInt32 × UInt32 × UInt32 × List UInt8) ⊕ (UInt32 × UInt32 × UInt32 × UInt32 × UInt32 × List UInt8)))
    (hB : ∀ a b c d e l, body (a, b, c, d, e, l) = M_sha_Hash_Write_pnv_b1 a b c d e l) : ∃ r, loopO body (h1, h2, h3, h4, h5, all) = some r ∧ r.2.2.2.2.2.length ≤ all.length := by
  refine loopO_run (body := body) (I := fun z => z.2.2.2.2.2.length ≤ all.length) (Φ := fun r => r.2.2.2.2.2.length ≤ all.length) (fun z => z.2.2.2.2.2.length) ?_ _ (Nat.le_refl _)
  rintro ⟨a, b, c, d, e, l⟩ hI
  simp only at hI
  rw [hB]
  unfold M_sha_Hash_Write_pnv_b1
  by_cases ht : (64 : Int) ≤ (l.length : Int)
  · refine .inl ?_
    obtain ⟨⟨u1, u2, u3, u4, u5⟩, hu⟩ := sha_eat (h1 := a) (h2 := b) (h3 := c) (h4 := d) (h5 := e) (b := l.take 64) (by rw [List.length_take]; omega)
    rw [if_pos ht, if_pos (by omega), hu, some_bindP]
    simp only []
    rw [if_pos (by omega)]
    exact ⟨_, rfl, by simp only [List.length_drop]; omega, by simp only [List.length_drop]; omega⟩
  · rw [if_neg ht]
    exact .inr ⟨_, rfl, hI⟩
theorem sha_pad (n : UInt64) : ∃ r, M_sha_Pad n = some r ∧ r.length ≤ 1000 := by
  have hn : (n % 64).toNat < 64 := by rw [UInt64.toNat_mod]; exact Nat.mod_lt _ (by decide)
  have h1 : 0 ≤ (119 - ((n % 64).toNat : Int)).tmod 64 := Int.tmod_nonneg 64 (by omega)
  have h2 : (119 - ((n % 64).toNat : Int)).tmod 64 < 64 := Int.tmod_lt_of_pos _ (by decide)
  unfold M_sha_Pad
  rw [if_pos (by omega), if_pos (ok_small (by omega)), if_pos (by decide), if_pos (ok_small (by omega)), if_pos (by omega)]
  generalize (119 - ((n % 64).toNat : Int)).tmod 64 = z at h1 h2
  obtain ⟨u, hu⟩ := at_ok (xs := List.replicate (1 + z).toNat (0 : UInt8)) (j := 0) (by decide) (by rw [List.length_replicate]; omega)
  rw [hu, some_bindP, octet_put (by rw [List.length_set, List.length_replicate]; omega), some_bindP]
  refine ⟨_, rfl, ?_⟩
  rw [if_pos (by decide), List.length_append, List.length_set, List.length_replicate, putF_len, show (8 : Int).toNat = 8 from rfl]
  omega
theorem sha_sum {b : List UInt8} (hb : b.length ≤ 100000) : ∃ r, M_sha_Sum_v b = some r := by
  unfold M_sha_Sum_v M_sha_New M_sha_begin
  rw [some_bindP, some_bindP]
  unfold M_sha_Hash_Write_pnv
  rw [show ∀ a b c d e f g, M_sha_Hash_none_pn a b c d e f g = some () from fun _ _ _ _ _ _ _ => rfl, some_bindP, if_pos rfl, if_pos (by decide), List.nil_append, if_pos (by simp only [List.length_nil]; omega), List.nil_append]
  obtain ⟨⟨c1, c2, c3, c4, c5, rest⟩, hw, hl⟩ := sha_write (h1 := 1732584193) (h2 := 4023233417) (h3 := 2562383102) (h4 := 271733878) (h5 := 3285377520) (all := b) (by omega) (fun z_ => M_sha_Hash_Write_pnv_b1 z_.1 z_.2.1 z_.2.2.1 z_.2.2.2.1 z_.2.2.2.2.1 z_.2.2.2.2.2) (fun _ _ _ _ _ _ => rfl)
  simp only at hl
  rw [hw, some_bindP]
  simp only []
  rw [some_bindP]
  simp only []
  unfold M_sha_Hash_Sum_po
  obtain ⟨p, hp, hpl⟩ := sha_pad (0 + UInt64.ofInt (b.length : Int))
  rw [show ∀ a b c d e f g h, M_sha_Hash_none_po a b c d e f g h = some () from fun _ _ _ _ _ _ _ _ => rfl, some_bindP, if_pos rfl]
  unfold M_sha_Hash_Clone_po
  rw [if_pos (by omega), some_bindP, hp, some_bindP]
  unfold M_sha_Hash_Write_pov
  rw [show ∀ a b c d e f g h, M_sha_Hash_none_po a b c d e f g h = some () from fun _ _ _ _ _ _ _ _ => rfl, some_bindP, if_pos rfl, List.nil_append, if_pos (by omega), List.nil_append, if_pos (by omega)]
  obtain ⟨⟨d1, d2, d3, d4, d5, rest2⟩, hw2, hl2⟩ := sha_write (h1 := c1) (h2 := c2) (h3 := c3) (h4 := c4) (h5 := c5) (all := rest ++ p) (by rw [List.length_append]; omega) (fun z_ => M_sha_Hash_Write_pov_b1 z_.1 z_.2.1 z_.2.2.1 z_.2.2.2.1 z_.2.2.2.2.1 z_.2.2.2.2.2) (fun _ _ _ _ _ _ => rfl)
  rw [hw2, some_bindP]
  simp only []
  rw [some_bindP]
  simp only []
  obtain ⟨r, h, _⟩ := loopO_run (body := fun z_ : List UInt8 × Int => M_sha_Hash_Sum_po_b1 d1 d2 d3 d4 d5 z_.1 z_.2) (I := fun z => 0 ≤ z.2 ∧ z.2 ≤ 5 ∧ (z.1.length : Int) = 4 * z.2) (Φ := fun _ => True) (fun z => (5 - z.2).toNat) (by
    rintro ⟨out, t⟩ hI
    simp only at hI ⊢
    unfold M_sha_Hash_Sum_po_b1
    by_cases ht : t < 5
    · refine .inl ?_
      obtain ⟨u, hu⟩ := at_some (xs := [d1, d2, d3, d4, d5]) (n := 5) rfl ⟨hI.1, ht⟩
      rw [if_pos ht, hu, some_bindP, octet_put (by omega), if_pos (by decide), some_bindP, if_pos (ok_small (by omega))]
      exact ⟨_, rfl, ⟨by simp only; omega, by simp only; omega, by simp only [List.length_append, putF_len]; rw [show (4 : Int).toNat = 4 from rfl]; omega⟩, by simp only; omega⟩
    · rw [if_neg ht]
      exact .inr ⟨_, rfl, trivial⟩) ([], 0) (by simp)
  rw [h, some_bindP, some_bindP]
  exact ⟨_, rfl⟩
/-! ### sums: the program's are the document's -/
theorem cpl32 (b : UInt32) : (4294967295 : UInt32) ^^^ b = ~~~b := by
  apply UInt32.eq_of_toBitVec_eq
  rw [UInt32.toBitVec_xor, UInt32.toBitVec_not]
  apply BitVec.eq_of_getLsbD_eq
  intro i hi
  have h1 : (4294967295 : UInt32).toBitVec = BitVec.allOnes 32 := by decide
  rw [h1]
  simp only [BitVec.getLsbD_xor, BitVec.getLsbD_allOnes, BitVec.getLsbD_not, hi, decide_true, Bool.true_xor, Bool.true_and]
theorem mix1 (b c d : UInt32) : d ^^^ (b &&& (c ^^^ d)) = (b &&& c) ||| ((4294967295 ^^^ b) &&& d) := by
  rw [cpl32]
  apply UInt32.eq_of_toBitVec_eq
  simp only [UInt32.toBitVec_xor, UInt32.toBitVec_not, UInt32.toBitVec_and, UInt32.toBitVec_or]
  apply BitVec.eq_of_getLsbD_eq
  intro i hi
  simp only [BitVec.getLsbD_xor, BitVec.getLsbD_and, BitVec.getLsbD_or, BitVec.getLsbD_not, hi, decide_true, Bool.true_and]
  cases b.toBitVec.getLsbD i <;> cases c.toBitVec.getLsbD i <;> cases d.toBitVec.getLsbD i <;> rfl
theorem mix3 (b c d : UInt32) : (b &&& c) ||| (d &&& (b ||| c)) = ((b &&& c) ||| (b &&& d)) ||| (c &&& d) := by
  apply UInt32.eq_of_toBitVec_eq
  simp only [UInt32.toBitVec_and, UInt32.toBitVec_or]
  apply BitVec.eq_of_getLsbD_eq
  intro i hi
  simp only [BitVec.getLsbD_and, BitVec.getLsbD_or]
  cases b.toBitVec.getLsbD i <;> cases c.toBitVec.getLsbD i <;> cases d.toBitVec.getLsbD i <;> rfl
theorem mix_same {i : Int} (b c d : UInt32) (hi : 0 ≤ i ∧ i < 80) : ∃ r, M_sha_mix i b c d = some r ∧ M_signpostref02_part i b c d = some r := by
  have e : i.tdiv 20 = i / 20 := Int.tdiv_eq_ediv_of_nonneg hi.1
  have hd : (20 : Int) ≠ 0 ∧ ok64 (i / 20) := ⟨by decide, ok_small (by omega)⟩
  unfold M_sha_mix M_signpostref02_part
  rw [e, if_pos hd]
  by_cases h1 : i < 20
  · rw [if_pos h1, if_pos (show i / 20 = 0 by omega), mix1]; exact ⟨_, rfl, rfl⟩
  · rw [if_neg h1, if_neg (show ¬ i / 20 = 0 by omega)]
    by_cases h2 : i < 40
    · rw [if_pos h2, if_pos (show i / 20 = 1 by omega)]; exact ⟨_, rfl, rfl⟩
    · rw [if_neg h2, if_neg (show ¬ i / 20 = 1 by omega)]
      by_cases h3 : i < 60
      · rw [if_pos h3, if_pos (show i / 20 = 2 by omega), mix3]; exact ⟨_, rfl, rfl⟩
      · rw [if_neg h3, if_neg (show ¬ i / 20 = 2 by omega)]; exact ⟨_, rfl, rfl⟩
/-- A word turned by so many places. -/
def rot (x : UInt32) (n : Nat) : UInt32 := shl32 x n ||| shr32 x (32 - n)
/-- The words of a block, one from those ahead of it. -/
def wordsF (b : List UInt8) : Nat → List UInt32
  | 0 => []
  | n + 1 => wordsF b n ++ [if n < 16 then (getS b (4 * (n : Int)) 4).1.toUInt32 else rot (((((wordsF b n)[n - 3]?).getD 0 ^^^ ((wordsF b n)[n - 8]?).getD 0) ^^^ ((wordsF b n)[n - 14]?).getD 0) ^^^ ((wordsF b n)[n - 16]?).getD 0) 1]
theorem wordsF_len (b : List UInt8) : ∀ n, (wordsF b n).length = n
  | 0 => rfl
  | n + 1 => by rw [wordsF, List.length_append, wordsF_len b n]; rfl
theorem wordsF_pre (b : List UInt8) : ∀ (d n j : Nat), j < n → (wordsF b (n + d))[j]? = (wordsF b n)[j]?
  | 0, _, _, _ => rfl
  | d + 1, n, j, h => by rw [show n + (d + 1) = (n + d) + 1 by omega, wordsF, List.getElem?_append_left (by rw [wordsF_len]; omega), wordsF_pre b d n j h]
/-- The word of a round. -/
def wordS (b : List UInt8) (j : Nat) : UInt32 := ((wordsF b (j + 1))[j]?).getD 0
theorem wordS_at (b : List UInt8) {n j : Nat} (h : j < n) : (wordsF b n)[j]? = some (wordS b j) := by
  have h1 : (wordsF b n)[j]? = (wordsF b (j + 1))[j]? := by
    have := wordsF_pre b (n - (j + 1)) (j + 1) j (by omega)
    rwa [show j + 1 + (n - (j + 1)) = n by omega] at this
  unfold wordS
  rw [h1, List.getElem?_eq_getElem (by rw [wordsF_len]; omega)]
  rfl
theorem wordS_low (b : List UInt8) {j : Nat} (h : j < 16) : wordS b j = (getS b (4 * (j : Int)) 4).1.toUInt32 := by
  unfold wordS
  rw [wordsF, List.getElem?_append_right (by rw [wordsF_len]; omega), wordsF_len, Nat.sub_self, if_pos h]; rfl
theorem wordS_high (b : List UInt8) {j : Nat} (h : 16 ≤ j) : wordS b j = rot (((wordS b (j - 3) ^^^ wordS b (j - 8)) ^^^ wordS b (j - 14)) ^^^ wordS b (j - 16)) 1 := by
  have e : ((wordsF b (j + 1))[j]?) = some (rot (((((wordsF b j)[j - 3]?).getD 0 ^^^ ((wordsF b j)[j - 8]?).getD 0) ^^^ ((wordsF b j)[j - 14]?).getD 0) ^^^ ((wordsF b j)[j - 16]?).getD 0) 1) := by
    rw [wordsF, List.getElem?_append_right (by rw [wordsF_len]; omega), wordsF_len, Nat.sub_self, if_neg (by omega)]; rfl
  have e0 : wordS b j = ((wordsF b (j + 1))[j]?).getD 0 := rfl
  rw [e0, e, wordS_at b (by omega : j - 3 < j), wordS_at b (by omega : j - 8 < j), wordS_at b (by omega : j - 14 < j), wordS_at b (by omega : j - 16 < j)]
  rfl
theorem ref_words {b : List UInt8} (hb : b.length ≤ 1000000) : M_signpostref02_words_v b = some (wordsF b 80) := by
  have l1 : ∀ (d k : Nat), 16 = k + d → loopO (fun z_ => M_signpostref02_words_v_b1 b z_.1 z_.2) (wordsF b k, (k : Int)) = some (wordsF b 16) := by
    intro d
    induction d with
    | zero =>
      intro k h
      have : k = 16 := by omega
      subst this
      exact loopO_end (by
        show M_signpostref02_words_v_b1 b (wordsF b 16) ((16 : Nat) : Int) = _
        unfold M_signpostref02_words_v_b1
        rw [if_neg (by decide)])
    | succ d ih =>
      intro k h
      rw [loopO_next (s' := (wordsF b (k + 1), ((k + 1 : Nat) : Int))) (by
        show M_signpostref02_words_v_b1 b (wordsF b k) (k : Int) = _
        have hl := wordsF_len b k
        unfold M_signpostref02_words_v_b1
        rw [if_pos (by omega), if_pos (ok_small (by omega)), ref01_get (by omega), some_bindP]
        simp only []
        rw [if_pos (by omega), if_pos (ok_small (by omega)), wordsF, if_pos (by omega), Int.natCast_add, Int.natCast_one])]
      exact ih (k + 1) (by omega)
  have l2 : ∀ (d k : Nat), 80 = k + d → 16 ≤ k → loopO (fun z_ => M_signpostref02_words_v_b2 z_.1 z_.2) (wordsF b k, (k : Int)) = some (wordsF b 80) := by
    intro d
    induction d with
    | zero =>
      intro k h _
      have : k = 80 := by omega
      subst this
      exact loopO_end (by
        show M_signpostref02_words_v_b2 (wordsF b 80) ((80 : Nat) : Int) = _
        unfold M_signpostref02_words_v_b2
        rw [if_neg (by decide)])
    | succ d ih =>
      intro k h h16
      have at_ : ∀ q : Nat, 0 < q → q ≤ 16 → at? (wordsF b k) ((k : Int) - (q : Int)) = some (wordS b (k - q)) := by
        intro q h0 hq
        rw [show (k : Int) - (q : Int) = ((k - q : Nat) : Int) by omega, at?_nat, wordS_at b (by omega)]
      have a3 := at_ 3 (by decide) (by decide)
      have a8 := at_ 8 (by decide) (by decide)
      have a14 := at_ 14 (by decide) (by decide)
      have a16 := at_ 16 (by decide) (by decide)
      have hw := wordS_high b h16
      have e : wordsF b (k + 1) = wordsF b k ++ [wordS b k] := by
        have h1 : (wordsF b (k + 1))[k]? = some (wordS b k) := wordS_at b (by omega)
        rw [wordsF] at h1 ⊢
        rw [List.getElem?_append_right (by rw [wordsF_len]; omega), wordsF_len, Nat.sub_self] at h1
        rw [← Option.some.inj h1]
      rw [loopO_next (s' := (wordsF b (k + 1), ((k + 1 : Nat) : Int))) (by
        show M_signpostref02_words_v_b2 (wordsF b k) (k : Int) = _
        have hl := wordsF_len b k
        unfold M_signpostref02_words_v_b2
        rw [if_pos (by omega), if_pos (ok_small (by omega)), show (k : Int) - 3 = (k : Int) - ((3 : Nat) : Int) from rfl, a3, some_bindP, if_pos (ok_small (by omega)), show (k : Int) - 8 = (k : Int) - ((8 : Nat) : Int) from rfl, a8, some_bindP,
          if_pos (ok_small (by omega)), show (k : Int) - 14 = (k : Int) - ((14 : Nat) : Int) from rfl, a14, some_bindP, if_pos (ok_small (by omega)), show (k : Int) - 16 = (k : Int) - ((16 : Nat) : Int) from rfl, a16, some_bindP]
        rw [show ∀ x, M_signpostref02_turned x 1 = some () from fun _ => rfl, some_bindP, if_pos (by omega), if_pos (ok_small (by omega)), e, hw, Int.natCast_add, Int.natCast_one]
        rfl)]
      exact ih (k + 1) (by omega) (by omega)
  unfold M_signpostref02_words_v
  have := l1 16 0 rfl
  rw [show ((0 : Nat) : Int) = 0 from rfl, show wordsF b 0 = [] from rfl] at this
  rw [this, some_bindP]
  simp only []
  have := l2 64 16 rfl (by decide)
  rw [show ((16 : Nat) : Int) = 16 from rfl] at this
  rw [this, some_bindP]
/-! ### sums: rounds and blocks -/
theorem sel16 (j : Int) (x : UInt32) (a1 a2 a3 a4 a5 a6 a7 a8 a9 a10 a11 a12 a13 a14 a15 a16 : UInt32) : [selW j 0 x a1, selW j 1 x a2, selW j 2 x a3, selW j 3 x a4, selW j 4 x a5, selW j 5 x a6, selW j 6 x a7, selW j 7 x a8, selW j 8 x a9, selW j 9 x a10, selW j 10 x a11, selW j 11 x a12, selW j 12 x a13, selW j 13 x a14, selW j 14 x a15, selW j 15 x a16] = ([a1, a2, a3, a4, a5, a6, a7, a8, a9, a10, a11, a12, a13, a14, a15, a16] : List UInt32).set j.toNat x := by
  have := selL_set j x [a1, a2, a3, a4, a5, a6, a7, a8, a9, a10, a11, a12, a13, a14, a15, a16] 0
  rw [if_pos (Nat.zero_le _), Nat.sub_zero] at this
  exact this
/-- The words that are kept, ahead of a round. -/
def Win (b : List UInt8) (l : List UInt32) (t : Nat) : Prop := l.length = 16 ∧ ∀ j, max t 16 - 16 ≤ j → j < max t 16 → l[j % 16]? = some (wordS b j)
theorem tmod16 (n : Nat) : ((n : Int)).tmod 16 = ((n % 16 : Nat) : Int) := by rw [Int.tmod_eq_emod_of_nonneg (by omega)]; omega
theorem next_win {b : List UInt8} {t : Nat} (ht : t < 80) {a1 a2 a3 a4 a5 a6 a7 a8 a9 a10 a11 a12 a13 a14 a15 a16 : UInt32} (h : Win b [a1, a2, a3, a4, a5, a6, a7, a8, a9, a10, a11, a12, a13, a14, a15, a16] t) : ∃ b1 b2 b3 b4 b5 b6 b7 b8 b9 b10 b11 b12 b13 b14 b15 b16, M_sha_words_next_p a1 a2 a3 a4 a5 a6 a7 a8 a9 a10 a11 a12 a13 a14 a15 a16 (t : Int) = some (wordS b t, b1, b2, b3, b4, b5, b6, b7, b8, b9, b10, b11, b12, b13, b14, b15, b16) ∧ Win b [b1, b2, b3, b4, b5, b6, b7, b8, b9, b10, b11, b12, b13, b14, b15, b16] (t + 1) := by
  obtain ⟨hl, hw⟩ := h
  have at_ : ∀ q : Nat, ∀ j, max t 16 - 16 ≤ j → j < max t 16 → q % 16 = j % 16 → at? [a1, a2, a3, a4, a5, a6, a7, a8, a9, a10, a11, a12, a13, a14, a15, a16] (((q : Nat) : Int).tmod 16) = some (wordS b j) := by
    intro q j h1 h2 h3
    rw [tmod16, at?_nat, h3]; exact hw j h1 h2
  unfold M_sha_words_next_p
  rw [if_pos (by decide)]
  by_cases h16 : 16 ≤ t
  · have x3 := at_ (t + 13) (t - 3) (by omega) (by omega) (by omega)
    have x8 := at_ (t + 8) (t - 8) (by omega) (by omega) (by omega)
    have x14 := at_ (t + 2) (t - 14) (by omega) (by omega) (by omega)
    have x16 := at_ t (t - 16) (by omega) (by omega) (by omega)
    rw [Int.natCast_add] at x3 x8 x14
    have hN := wordS_high b h16
    rw [if_pos (by omega), if_pos (ok_small (by omega)), if_pos (by decide), show (t : Int) + 13 = (t : Int) + ((13 : Nat) : Int) from rfl, x3, some_bindP, if_pos (ok_small (by omega)), if_pos (by decide), show (t : Int) + 8 = (t : Int) + ((8 : Nat) : Int) from rfl, x8, some_bindP,
      if_pos (ok_small (by omega)), if_pos (by decide), show (t : Int) + 2 = (t : Int) + ((2 : Nat) : Int) from rfl, x14, some_bindP, x16, some_bindP, show ∀ y, M_math_bits_RotateLeft32 y 1 = some () from fun _ => rfl, some_bindP, some_bindP]
    have e : ∀ y : UInt32, (shl32 y (((UInt64.ofInt 1) &&& 31).toNat)) ||| (shr32 y ((32 - ((UInt64.ofInt 1) &&& 31)).toNat)) = rot y 1 := fun y => rfl
    rw [e, ← hN]
    have hset : ∀ k, k < 16 → ([a1, a2, a3, a4, a5, a6, a7, a8, a9, a10, a11, a12, a13, a14, a15, a16].set (((t : Int)).tmod 16).toNat (wordS b t))[k]? = if t % 16 = k then some (wordS b t) else ([a1, a2, a3, a4, a5, a6, a7, a8, a9, a10, a11, a12, a13, a14, a15, a16] : List UInt32)[k]? := by
      intro k hk
      rw [tmod16, List.getElem?_set]
      by_cases e : t % 16 = k
      · rw [if_pos (by omega), if_pos e, if_pos (by omega)]
      · rw [if_neg (by omega), if_neg e]
    have hat : at? [selW ((t : Int).tmod 16) 0 (wordS b t) a1, selW ((t : Int).tmod 16) 1 (wordS b t) a2, selW ((t : Int).tmod 16) 2 (wordS b t) a3, selW ((t : Int).tmod 16) 3 (wordS b t) a4, selW ((t : Int).tmod 16) 4 (wordS b t) a5, selW ((t : Int).tmod 16) 5 (wordS b t) a6, selW ((t : Int).tmod 16) 6 (wordS b t) a7, selW ((t : Int).tmod 16) 7 (wordS b t) a8, selW ((t : Int).tmod 16) 8 (wordS b t) a9, selW ((t : Int).tmod 16) 9 (wordS b t) a10, selW ((t : Int).tmod 16) 10 (wordS b t) a11, selW ((t : Int).tmod 16) 11 (wordS b t) a12, selW ((t : Int).tmod 16) 12 (wordS b t) a13, selW ((t : Int).tmod 16) 13 (wordS b t) a14, selW ((t : Int).tmod 16) 14 (wordS b t) a15, selW ((t : Int).tmod 16) 15 (wordS b t) a16] (((t : Int)).tmod 16) = some (wordS b t) := by
      rw [sel16]
      have := hset (t % 16) (by omega)
      rw [if_pos rfl] at this
      rw [show at? ([a1, a2, a3, a4, a5, a6, a7, a8, a9, a10, a11, a12, a13, a14, a15, a16].set (((t : Int)).tmod 16).toNat (wordS b t)) (((t : Int)).tmod 16) = ([a1, a2, a3, a4, a5, a6, a7, a8, a9, a10, a11, a12, a13, a14, a15, a16].set (((t : Int)).tmod 16).toNat (wordS b t))[t % 16]? by rw [tmod16, at?_nat]]
      exact this
    rw [hat, some_bindP]
    refine ⟨_, _, _, _, _, _, _, _, _, _, _, _, _, _, _, _, rfl, ?_, fun j h1 h2 => ?_⟩
    · rfl
    · rw [sel16, hset _ (by omega)]
      by_cases e : j = t
      · rw [if_pos (by rw [e]), e]
      · rw [if_neg (by omega)]
        exact hw j (by omega) (by omega)
  · have x0 := at_ t t (by omega) (by omega) rfl
    rw [if_neg (by omega), x0, some_bindP]
    exact ⟨_, _, _, _, _, _, _, _, _, _, _, _, _, _, _, _, rfl, hl, fun j h1 h2 => hw j (by omega) (by omega)⟩
theorem load_win {b : List UInt8} (hb : b.length ≤ 1000000) : ∃ a1 a2 a3 a4 a5 a6 a7 a8 a9 a10 a11 a12 a13 a14 a15 a16, M_sha_load_v b = some (a1, a2, a3, a4, a5, a6, a7, a8, a9, a10, a11, a12, a13, a14, a15, a16) ∧ Win b [a1, a2, a3, a4, a5, a6, a7, a8, a9, a10, a11, a12, a13, a14, a15, a16] 0 := by
  unfold M_sha_load_v
  obtain ⟨⟨b1, b2, b3, b4, b5, b6, b7, b8, b9, b10, b11, b12, b13, b14, b15, b16⟩, h, hr⟩ := loopO_run (body := fun z_ : UInt32 × UInt32 × UInt32 × UInt32 × UInt32 × UInt32 × UInt32 × UInt32 × UInt32 × UInt32 × UInt32 × UInt32 × UInt32 × UInt32 × UInt32 × UInt32 × Int => M_sha_load_v_b1 b z_.1 z_.2.1 z_.2.2.1 z_.2.2.2.1 z_.2.2.2.2.1 z_.2.2.2.2.2.1 z_.2.2.2.2.2.2.1 z_.2.2.2.2.2.2.2.1 z_.2.2.2.2.2.2.2.2.1 z_.2.2.2.2.2.2.2.2.2.1 z_.2.2.2.2.2.2.2.2.2.2.1 z_.2.2.2.2.2.2.2.2.2.2.2.1 z_.2.2.2.2.2.2.2.2.2.2.2.2.1 z_.2.2.2.2.2.2.2.2.2.2.2.2.2.1 z_.2.2.2.2.2.2.2.2.2.2.2.2.2.2.1 z_.2.2.2.2.2.2.2.2.2.2.2.2.2.2.2.1 z_.2.2.2.2.2.2.2.2.2.2.2.2.2.2.2.2)
    (I := fun z => 0 ≤ z.2.2.2.2.2.2.2.2.2.2.2.2.2.2.2.2 ∧ z.2.2.2.2.2.2.2.2.2.2.2.2.2.2.2.2 ≤ 16 ∧ ∀ j : Nat, (j : Int) < z.2.2.2.2.2.2.2.2.2.2.2.2.2.2.2.2 → [z.1, z.2.1, z.2.2.1, z.2.2.2.1, z.2.2.2.2.1, z.2.2.2.2.2.1, z.2.2.2.2.2.2.1, z.2.2.2.2.2.2.2.1, z.2.2.2.2.2.2.2.2.1, z.2.2.2.2.2.2.2.2.2.1, z.2.2.2.2.2.2.2.2.2.2.1, z.2.2.2.2.2.2.2.2.2.2.2.1, z.2.2.2.2.2.2.2.2.2.2.2.2.1, z.2.2.2.2.2.2.2.2.2.2.2.2.2.1, z.2.2.2.2.2.2.2.2.2.2.2.2.2.2.1, z.2.2.2.2.2.2.2.2.2.2.2.2.2.2.2.1][j]? = some (wordS b j)) (Φ := fun z => ∀ j : Nat, j < 16 → [z.1, z.2.1, z.2.2.1, z.2.2.2.1, z.2.2.2.2.1, z.2.2.2.2.2.1, z.2.2.2.2.2.2.1, z.2.2.2.2.2.2.2.1, z.2.2.2.2.2.2.2.2.1, z.2.2.2.2.2.2.2.2.2.1, z.2.2.2.2.2.2.2.2.2.2.1, z.2.2.2.2.2.2.2.2.2.2.2.1, z.2.2.2.2.2.2.2.2.2.2.2.2.1, z.2.2.2.2.2.2.2.2.2.2.2.2.2.1, z.2.2.2.2.2.2.2.2.2.2.2.2.2.2.1, z.2.2.2.2.2.2.2.2.2.2.2.2.2.2.2][j]? = some (wordS b j)) (fun z => (16 - z.2.2.2.2.2.2.2.2.2.2.2.2.2.2.2.2).toNat) (by
    rintro ⟨a1, a2, a3, a4, a5, a6, a7, a8, a9, a10, a11, a12, a13, a14, a15, a16, t⟩ ⟨h0, h1, hI⟩
    simp only at h0 h1 hI ⊢
    unfold M_sha_load_v_b1
    by_cases ht : t < 16
    · refine .inl ?_
      obtain ⟨u, hu⟩ := at_some (xs := [a1, a2, a3, a4, a5, a6, a7, a8, a9, a10, a11, a12, a13, a14, a15, a16]) (n := 16) rfl ⟨h0, ht⟩
      rw [if_pos ht, if_pos (ok_small (by omega)), octet_get (by omega), some_bindP]
      simp only []
      rw [hu, some_bindP, if_pos (ok_small (by omega))]
      refine ⟨_, rfl, ⟨by simp only; omega, by simp only; omega, fun j hj => ?_⟩, by simp only; omega⟩
      simp only at hj ⊢
      rw [sel16, List.getElem?_set]
      by_cases e : t.toNat = j
      · rw [if_pos e, if_pos (by simp only [List.length_cons, List.length_nil]; omega), wordS_low b (by omega), show (j : Int) = t by omega]
      · rw [if_neg e]
        exact hI j (by omega)
    · rw [if_neg ht]
      exact .inr ⟨_, rfl, fun j hj => hI j (by omega)⟩) (0, 0, 0, 0, 0, 0, 0, 0, 0, 0, 0, 0, 0, 0, 0, 0, 0) ⟨by simp, by simp, fun j hj => by simp at hj; omega⟩
  rw [h, some_bindP]
  refine ⟨b1, b2, b3, b4, b5, b6, b7, b8, b9, b10, b11, b12, b13, b14, b15, b16, rfl, rfl, fun j h1 h2 => ?_⟩
  have h3 : j < 16 := by omega
  rw [Nat.mod_eq_of_lt h3]
  exact hr j h3
theorem rounds_same {b : List UInt8} {body : UInt32 × UInt32 × UInt32 × UInt32 × UInt32 × UInt32 × UInt32 × UInt32 × UInt32 × UInt32 × UInt32 × UInt32 × UInt32 × UInt32 × UInt32 × UInt32 × UInt32 × UInt32 × UInt32 × UInt32 × UInt32 × Int → Option ((UInt32 × UInt32 × UInt32 × UInt32 × UInt32 × UInt32 × UInt32 × UInt32 × UInt32 × UInt32 × UInt32 × UInt32 × UInt32 × UInt32 × UInt32 × UInt32 × UInt32 × UInt32 × UInt32 × UInt32 × UInt32 × Int) ⊕ (UInt32 × UInt32 × UInt32 × UInt32 × UInt32))} (hB : ∀ v1 v2 v3 v4 v5 a1 a2 a3 a4 a5 a6 a7 a8 a9 a10 a11 a12 a13 a14 a15 a16 t, body (v1, v2, v3, v4, v5, a1, a2, a3, a4, a5, a6, a7, a8, a9, a10, a11, a12, a13, a14, a15, a16, t) = M_sha_eat_v_b1 v1 v2 v3 v4 v5 a1 a2 a3 a4 a5 a6 a7 a8 a9 a10 a11 a12 a13 a14 a15 a16 t) : ∀ (d t : Nat) (v1 v2 v3 v4 v5 a1 a2 a3 a4 a5 a6 a7 a8 a9 a10 a11 a12 a13 a14 a15 a16 : UInt32), 80 = t + d → Win b [a1, a2, a3, a4, a5, a6, a7, a8, a9, a10, a11, a12, a13, a14, a15, a16] t →
    ∃ o, loopO body (v1, v2, v3, v4, v5, a1, a2, a3, a4, a5, a6, a7, a8, a9, a10, a11, a12, a13, a14, a15, a16, (t : Int)) = some o ∧ loopO (fun z_ : UInt32 × UInt32 × UInt32 × UInt32 × UInt32 × Int => M_signpostref02_block_v_b1 (wordsF b 80) z_.1 z_.2.1 z_.2.2.1 z_.2.2.2.1 z_.2.2.2.2.1 z_.2.2.2.2.2) (v1, v2, v3, v4, v5, (t : Int)) = some o := by
  intro d
  induction d with
  | zero =>
    intro t v1 v2 v3 v4 v5 a1 a2 a3 a4 a5 a6 a7 a8 a9 a10 a11 a12 a13 a14 a15 a16 h _
    refine ⟨(v1, v2, v3, v4, v5), loopO_end (by rw [hB]; unfold M_sha_eat_v_b1; rw [if_neg (by omega)]), loopO_end ?_⟩
    show M_signpostref02_block_v_b1 (wordsF b 80) v1 v2 v3 v4 v5 (t : Int) = _
    unfold M_signpostref02_block_v_b1
    rw [if_neg (by omega)]
  | succ d ih =>
    intro t v1 v2 v3 v4 v5 a1 a2 a3 a4 a5 a6 a7 a8 a9 a10 a11 a12 a13 a14 a15 a16 h hw
    obtain ⟨⟨f, k⟩, m1, m2⟩ := mix_same (i := (t : Int)) v2 v3 v4 (by omega)
    obtain ⟨b1, b2, b3, b4, b5, b6, b7, b8, b9, b10, b11, b12, b13, b14, b15, b16, n1, n2⟩ := next_win (by omega) hw
    have hword : at? (wordsF b 80) (t : Int) = some (wordS b t) := by rw [at?_nat, wordS_at b (by omega)]
    obtain ⟨o, h1, h2⟩ := ih (t + 1) ((((rot v1 5 + f) + v5) + wordS b t) + k) v1 (rot v2 30) v3 v4 b1 b2 b3 b4 b5 b6 b7 b8 b9 b10 b11 b12 b13 b14 b15 b16 (by omega) n2
    refine ⟨o, ?_, ?_⟩
    · rw [loopO_next (s' := ((((rot v1 5 + f) + v5) + wordS b t) + k, v1, rot v2 30, v3, v4, b1, b2, b3, b4, b5, b6, b7, b8, b9, b10, b11, b12, b13, b14, b15, b16, ((t + 1 : Nat) : Int))) (by
        rw [hB]
        unfold M_sha_eat_v_b1 M_sha_eat_1_pp
        rw [if_pos (by omega), m1, some_bindP]
        simp only []
        rw [show ∀ y, M_math_bits_RotateLeft32 y 5 = some () from fun _ => rfl, some_bindP, n1, some_bindP]
        simp only []
        rw [show ∀ y, M_math_bits_RotateLeft32 y 30 = some () from fun _ => rfl, some_bindP, some_bindP]
        simp only []
        rw [if_pos (ok_small (by omega)), Int.natCast_add, Int.natCast_one]
        rfl)]
      exact h1
    · rw [loopO_next (s' := ((((rot v1 5 + f) + v5) + wordS b t) + k, v1, rot v2 30, v3, v4, ((t + 1 : Nat) : Int))) (by
        show M_signpostref02_block_v_b1 (wordsF b 80) v1 v2 v3 v4 v5 (t : Int) = _
        unfold M_signpostref02_block_v_b1
        rw [if_pos (by omega), m2, some_bindP]
        simp only []
        rw [hword, some_bindP, show ∀ y, M_signpostref02_turned y 5 = some () from fun _ => rfl, some_bindP, show ∀ y, M_signpostref02_turned y 30 = some () from fun _ => rfl, some_bindP, if_pos (ok_small (by omega)), Int.natCast_add, Int.natCast_one]
        rfl)]
      exact h2
theorem add_eat {v1 v2 v3 v4 v5 h1 h2 h3 h4 h5 : UInt32} : loopO (fun z_ : UInt32 × UInt32 × UInt32 × UInt32 × UInt32 × Int => M_sha_eat_v_b2 v5 v1 v2 v3 v4 z_.1 z_.2.1 z_.2.2.1 z_.2.2.2.1 z_.2.2.2.2.1 z_.2.2.2.2.2) (h1, h2, h3, h4, h5, 0) = some (h1 + v1, h2 + v2, h3 + v3, h4 + v4, h5 + v5) := by
  rw [loopO_next (s' := (h1 + v1, h2, h3, h4, h5, 1)) (by rfl), loopO_next (s' := (h1 + v1, h2 + v2, h3, h4, h5, 2)) (by rfl), loopO_next (s' := (h1 + v1, h2 + v2, h3 + v3, h4, h5, 3)) (by rfl), loopO_next (s' := (h1 + v1, h2 + v2, h3 + v3, h4 + v4, h5, 4)) (by rfl), loopO_next (s' := (h1 + v1, h2 + v2, h3 + v3, h4 + v4, h5 + v5, 5)) (by rfl)]
  exact loopO_end (by rfl)
theorem add_block {v1 v2 v3 v4 v5 h1 h2 h3 h4 h5 : UInt32} : loopO (fun z_ : UInt32 × UInt32 × UInt32 × UInt32 × UInt32 × Int => M_signpostref02_block_v_b2 h1 h2 h3 h4 h5 z_.1 z_.2.1 z_.2.2.1 z_.2.2.2.1 z_.2.2.2.2.1 z_.2.2.2.2.2) (v1, v2, v3, v4, v5, 0) = some (v1 + h1, v2 + h2, v3 + h3, v4 + h4, v5 + h5) := by
  rw [loopO_next (s' := (v1 + h1, v2, v3, v4, v5, 1)) (by rfl), loopO_next (s' := (v1 + h1, v2 + h2, v3, v4, v5, 2)) (by rfl), loopO_next (s' := (v1 + h1, v2 + h2, v3 + h3, v4, v5, 3)) (by rfl), loopO_next (s' := (v1 + h1, v2 + h2, v3 + h3, v4 + h4, v5, 4)) (by rfl), loopO_next (s' := (v1 + h1, v2 + h2, v3 + h3, v4 + h4, v5 + h5, 5)) (by rfl)]
  exact loopO_end (by rfl)
theorem eat_block {h1 h2 h3 h4 h5 : UInt32} {b : List UInt8} (hb : b.length ≤ 1000000) : M_signpostref02_block_v h1 h2 h3 h4 h5 b = M_sha_eat_v h1 h2 h3 h4 h5 b := by
  obtain ⟨a1, a2, a3, a4, a5, a6, a7, a8, a9, a10, a11, a12, a13, a14, a15, a16, hl, hw⟩ := load_win hb
  unfold M_signpostref02_block_v M_sha_eat_v
  rw [ref_words hb, some_bindP, hl, some_bindP]
  simp only []
  generalize hBB : (fun z_ : UInt32 × UInt32 × UInt32 × UInt32 × UInt32 × UInt32 × UInt32 × UInt32 × UInt32 × UInt32 × UInt32 × UInt32 × UInt32 × UInt32 × UInt32 × UInt32 × UInt32 × UInt32 × UInt32 × UInt32 × UInt32 × Int => M_sha_eat_v_b1 z_.1 z_.2.1 z_.2.2.1 z_.2.2.2.1 z_.2.2.2.2.1 z_.2.2.2.2.2.1 z_.2.2.2.2.2.2.1 z_.2.2.2.2.2.2.2.1 z_.2.2.2.2.2.2.2.2.1 z_.2.2.2.2.2.2.2.2.2.1 z_.2.2.2.2.2.2.2.2.2.2.1 z_.2.2.2.2.2.2.2.2.2.2.2.1 z_.2.2.2.2.2.2.2.2.2.2.2.2.1 z_.2.2.2.2.2.2.2.2.2.2.2.2.2.1 z_.2.2.2.2.2.2.2.2.2.2.2.2.2.2.1 z_.2.2.2.2.2.2.2.2.2.2.2.2.2.2.2.1 z_.2.2.2.2.2.2.2.2.2.2.2.2.2.2.2.2.1 z_.2.2.2.2.2.2.2.2.2.2.2.2.2.2.2.2.2.1 z_.2.2.2.2.2.2.2.2.2.2.2.2.2.2.2.2.2.2.1 z_.2.2.2.2.2.2.2.2.2.2.2.2.2.2.2.2.2.2.2.1 z_.2.2.2.2.2.2.2.2.2.2.2.2.2.2.2.2.2.2.2.2.1 z_.2.2.2.2.2.2.2.2.2.2.2.2.2.2.2.2.2.2.2.2.2) = BB
  obtain ⟨⟨o1, o2, o3, o4, o5⟩, e1, e2⟩ := rounds_same (body := BB) (fun _ _ _ _ _ _ _ _ _ _ _ _ _ _ _ _ _ _ _ _ _ t => by rw [← hBB]) 80 0 h1 h2 h3 h4 h5 a1 a2 a3 a4 a5 a6 a7 a8 a9 a10 a11 a12 a13 a14 a15 a16 rfl hw
  rw [show ((0 : Nat) : Int) = 0 from rfl] at e1 e2
  rw [e1, e2, some_bindP, some_bindP]
  simp only []
  rw [add_eat, add_block, some_bindP, some_bindP]
  simp only [UInt32.add_comm]
/-! ### sums: padding, and all blocks -/
def padS (n : Nat) : List UInt8 := 128 :: (List.replicate ((119 - n % 64) % 64) 0 ++ putF (UInt64.ofNat n * 8) 8)
theorem padS_len (n : Nat) : (n + (padS n).length) % 64 = 0 ∧ (padS n).length ≤ 100 := by
  unfold padS
  rw [List.length_cons, List.length_append, List.length_replicate, putF_len]
  omega
theorem shl3 (n : UInt64) : shl64 n 3 = n * 8 := by
  apply UInt64.toNat_inj.1
  show (UInt64.ofNat (n.toNat * 2 ^ 3)).toNat = _
  rw [UInt64.toNat_ofNat', UInt64.toNat_mul]; rfl
theorem sha_padS {n : Nat} (hn : n ≤ 1000000) : M_sha_Pad (UInt64.ofNat n) = some (padS n) := by
  have e1 : (UInt64.ofNat n % 64).toNat = n % 64 := by rw [UInt64.toNat_mod, UInt64.toNat_ofNat']; show n % 2 ^ 64 % 64 = _; omega
  have e2 : (119 - ((n % 64 : Nat) : Int)).tmod 64 = (((119 - n % 64) % 64 : Nat) : Int) := by rw [Int.tmod_eq_emod_of_nonneg (by omega)]; omega
  unfold M_sha_Pad
  rw [e1, e2, if_pos (by omega), if_pos (ok_small (by omega)), if_pos (by decide), if_pos (ok_small (by omega)), if_pos (by omega)]
  have hz : (119 - n % 64) % 64 < 64 := Nat.mod_lt _ (by decide)
  unfold padS
  generalize (119 - n % 64) % 64 = z at hz ⊢
  rw [show (1 + (z : Int)).toNat = z + 1 by omega, show at? (List.replicate (z + 1) (0 : UInt8)) 0 = some 0 from rfl, some_bindP, octet_put (by rw [List.length_set, List.length_replicate]; omega), if_pos (by decide), shl3, some_bindP]
  rfl
theorem ref_padS {n : Nat} (hn : n ≤ 1000000) : M_signpostref02_Pad (UInt64.ofNat n) = some (padS n) := by
  have hz : ∀ k : Nat, k ≤ 64 → ((UInt64.ofNat n + UInt64.ofInt (((128 :: List.replicate k (0 : UInt8)).length : Nat) : Int)) % 64 = 56 ↔ (n + 1 + k) % 64 = 56) := by
    intro k hk
    rw [List.length_cons, List.length_replicate]
    rw [← UInt64.toNat_inj, UInt64.toNat_mod, UInt64.toNat_add, UInt64.toNat_ofNat']
    have e : (UInt64.ofInt ((k + 1 : Nat) : Int)).toNat = k + 1 := by simp [UInt64.ofInt, UInt64.toNat_ofNat']; omega
    rw [e, show (64 : UInt64).toNat = 64 from rfl, show (56 : UInt64).toNat = 56 from rfl]
    omega
  have loop : ∀ (d k : Nat), (119 - n % 64) % 64 = k + d → loopO (fun z_ => M_signpostref02_Pad_b1 (UInt64.ofNat n) z_) (128 :: List.replicate k 0) = some (128 :: List.replicate ((119 - n % 64) % 64) 0) := by
    intro d
    induction d with
    | zero =>
      intro k h
      rw [h, Nat.add_zero]
      exact loopO_end (by unfold M_signpostref02_Pad_b1; rw [if_pos ((hz k (by omega)).2 (by omega))])
    | succ d ih =>
      intro k h
      rw [loopO_next (s' := 128 :: List.replicate (k + 1) 0) (by
        unfold M_signpostref02_Pad_b1
        rw [if_neg (fun e => by have := (hz k (by omega)).1 e; omega), if_pos (by rw [List.length_cons, List.length_replicate]; omega), List.cons_append, ← List.replicate_succ'])]
      exact ih (k + 1) (by omega)
  have := loop ((119 - n % 64) % 64) 0 (by omega)
  unfold M_signpostref02_Pad
  rw [show (128 :: List.replicate 0 (0 : UInt8)) = [128] from rfl] at this
  rw [this, some_bindP]
  simp only []
  rw [ref01_put (by rw [List.length_cons, List.length_replicate]; omega) (by decide), some_bindP]
  rfl
abbrev H5 := UInt32 × UInt32 × UInt32 × UInt32 × UInt32
noncomputable def eatS (h : H5) (b : List UInt8) : H5 := (M_sha_eat_v h.1 h.2.1 h.2.2.1 h.2.2.2.1 h.2.2.2.2 b).getD (0, 0, 0, 0, 0)
theorem eat_some {h : H5} {b : List UInt8} (hb : b.length ≤ 1000000) : M_sha_eat_v h.1 h.2.1 h.2.2.1 h.2.2.2.1 h.2.2.2.2 b = some (eatS h b) := by
  obtain ⟨r, hr⟩ := sha_eat (h1 := h.1) (h2 := h.2.1) (h3 := h.2.2.1) (h4 := h.2.2.2.1) (h5 := h.2.2.2.2) hb
  unfold eatS
  rw [hr]; rfl
noncomputable def runB : Nat → H5 → List UInt8 → H5 × List UInt8
  | 0, h, l => (h, l)
  | n + 1, h, l => runB n (eatS h (l.take 64)) (l.drop 64)
theorem runB_add : ∀ (m k : Nat) (h : H5) (l : List UInt8), runB (m + k) h l = runB k (runB m h l).1 (runB m h l).2
  | 0, k, h, l => by rw [Nat.zero_add]; rfl
  | m + 1, k, h, l => by rw [show m + 1 + k = (m + k) + 1 by omega, runB, runB, runB_add m k]
theorem runB_app : ∀ (m : Nat) (h : H5) (l p : List UInt8), 64 * m ≤ l.length → runB m h (l ++ p) = ((runB m h l).1, (runB m h l).2 ++ p)
  | 0, h, l, p, _ => rfl
  | m + 1, h, l, p, hl => by
    rw [runB, runB, List.take_append_of_le_length (by omega), List.drop_append_of_le_length (by omega), runB_app m _ _ _ (by rw [List.length_drop]; omega)]
theorem runB_rest : ∀ (m : Nat) (h : H5) (l : List UInt8), (runB m h l).2 = l.drop (64 * m)
  | 0, h, l => rfl
  | m + 1, h, l => by rw [runB, runB_rest m, List.drop_drop]; congr 1; omega
theorem write_run (body : UInt32 × UInt32 × UInt32 × UInt32 × UInt32 × List UInt8 → Option ((UInt32 × UInt32 × UInt32 × UInt32 × UInt32 × List UInt8) ⊕ (UInt32 × UInt32 × UInt32 × UInt32 × UInt32 × List UInt8)))
    (hB : ∀ a b c d e l, body (a, b, c, d, e, l) = M_sha_Hash_Write_pnv_b1 a b c d e l) : ∀ (m : Nat) (h : H5) (l : List UInt8), l.length / 64 = m → l.length ≤ 1000000 →
    loopO body (h.1, h.2.1, h.2.2.1, h.2.2.2.1, h.2.2.2.2, l) = some ((runB m h l).1.1, (runB m h l).1.2.1, (runB m h l).1.2.2.1, (runB m h l).1.2.2.2.1, (runB m h l).1.2.2.2.2, (runB m h l).2) := by
  intro m
  induction m with
  | zero =>
    intro h l hm hl
    exact loopO_end (by
      rw [hB]
      unfold M_sha_Hash_Write_pnv_b1
      rw [if_neg (by omega)]; rfl)
  | succ m ih =>
    intro h l hm hl
    have he := eat_some (h := h) (b := l.take 64) (by rw [List.length_take]; omega)
    rw [loopO_next (s' := ((eatS h (l.take 64)).1, (eatS h (l.take 64)).2.1, (eatS h (l.take 64)).2.2.1, (eatS h (l.take 64)).2.2.2.1, (eatS h (l.take 64)).2.2.2.2, l.drop 64)) (by
      rw [hB]
      unfold M_sha_Hash_Write_pnv_b1
      rw [if_pos (by omega), if_pos (by omega), he, some_bindP]
      simp only []
      rw [if_pos (by omega)])]
    exact ih _ _ (by rw [List.length_drop]; omega) (by rw [List.length_drop]; omega)
def h0S : H5 := (1732584193, 4023233417, 2562383102, 271733878, 3285377520)
def outS (h : H5) : List UInt8 := putF h.1.toUInt64 4 ++ putF h.2.1.toUInt64 4 ++ putF h.2.2.1.toUInt64 4 ++ putF h.2.2.2.1.toUInt64 4 ++ putF h.2.2.2.2.toUInt64 4
noncomputable def sumV (b : List UInt8) : Fin 20 → UInt8 := copyA (fun _ => 0) (outS (runB ((b.length + (padS b.length).length) / 64) h0S (b ++ padS b.length)).1)
theorem out_code {h : H5} : loopO (fun z_ : List UInt8 × Int => M_sha_Hash_Sum_po_b1 h.1 h.2.1 h.2.2.1 h.2.2.2.1 h.2.2.2.2 z_.1 z_.2) ([], 0) = some (outS h) := by
  have step : ∀ (out : List UInt8) (k : Nat) (x : UInt32), out.length ≤ 100 → k < 5 → at? [h.1, h.2.1, h.2.2.1, h.2.2.2.1, h.2.2.2.2] (k : Int) = some x → M_sha_Hash_Sum_po_b1 h.1 h.2.1 h.2.2.1 h.2.2.2.1 h.2.2.2.2 out (k : Int) = some (.inl (out ++ putF x.toUInt64 4, ((k + 1 : Nat) : Int))) := by
    intro out k x ho hk hx
    unfold M_sha_Hash_Sum_po_b1
    rw [if_pos (by omega), hx, some_bindP, octet_put (by omega), if_pos (by decide), some_bindP, if_pos (ok_small (by omega)), Int.natCast_add, Int.natCast_one]; rfl
  unfold outS
  rw [loopO_next (step [] 0 _ (by simp) (by decide) rfl), loopO_next (step _ 1 _ (by simp [putF_len]) (by decide) rfl), loopO_next (step _ 2 _ (by simp [putF_len]) (by decide) rfl), loopO_next (step _ 3 _ (by simp [putF_len]) (by decide) rfl), loopO_next (step _ 4 _ (by simp [putF_len]) (by decide) rfl)]
  exact loopO_end (by
    show M_sha_Hash_Sum_po_b1 h.1 h.2.1 h.2.2.1 h.2.2.2.1 h.2.2.2.2 _ ((5 : Nat) : Int) = _
    unfold M_sha_Hash_Sum_po_b1
    rw [if_neg (by decide)]; rfl)
theorem out_ref {h : H5} : loopO (fun z_ : List UInt8 × Int => M_signpostref02_Sum_v_b2 h.2.2.2.2 h.1 h.2.1 h.2.2.1 h.2.2.2.1 z_.1 z_.2) ([], 0) = some (outS h) := by
  have step : ∀ (out : List UInt8) (k : Nat) (x : UInt32), out.length ≤ 100 → k < 5 → at? [h.1, h.2.1, h.2.2.1, h.2.2.2.1, h.2.2.2.2] (k : Int) = some x → M_signpostref02_Sum_v_b2 h.2.2.2.2 h.1 h.2.1 h.2.2.1 h.2.2.2.1 out (k : Int) = some (.inl (out ++ putF x.toUInt64 4, ((k + 1 : Nat) : Int))) := by
    intro out k x ho hk hx
    unfold M_signpostref02_Sum_v_b2
    rw [if_pos (by omega), hx, some_bindP, ref01_put (by omega) (by decide), some_bindP, if_pos (ok_small (by omega)), Int.natCast_add, Int.natCast_one]; rfl
  unfold outS
  rw [loopO_next (step [] 0 _ (by simp) (by decide) rfl), loopO_next (step _ 1 _ (by simp [putF_len]) (by decide) rfl), loopO_next (step _ 2 _ (by simp [putF_len]) (by decide) rfl), loopO_next (step _ 3 _ (by simp [putF_len]) (by decide) rfl), loopO_next (step _ 4 _ (by simp [putF_len]) (by decide) rfl)]
  exact loopO_end (by
    show M_signpostref02_Sum_v_b2 h.2.2.2.2 h.1 h.2.1 h.2.2.1 h.2.2.2.1 _ ((5 : Nat) : Int) = _
    unfold M_signpostref02_Sum_v_b2
    rw [if_neg (by decide)]; rfl)
theorem sum_code {b : List UInt8} (hb : b.length ≤ 100000) : M_sha_Sum_v b = some (sumV b) := by
  have hp := padS_len b.length
  have eN : 0 + UInt64.ofInt ((b.length : Nat) : Int) = UInt64.ofNat b.length := by
    apply UInt64.toNat_inj.1
    rw [UInt64.zero_add]
    simp [UInt64.ofInt, UInt64.toNat_ofNat']; omega
  have hw := write_run (fun z_ => M_sha_Hash_Write_pnv_b1 z_.1 z_.2.1 z_.2.2.1 z_.2.2.2.1 z_.2.2.2.2.1 z_.2.2.2.2.2) (fun _ _ _ _ _ _ => rfl) (b.length / 64) h0S b rfl (by omega)
  have hrest := runB_rest (b.length / 64) h0S b
  have hrl : (runB (b.length / 64) h0S b).2.length ≤ 100000 := by rw [hrest, List.length_drop]; omega
  have hlen : ((runB (b.length / 64) h0S b).2 ++ padS b.length).length / 64 = (b.length + (padS b.length).length) / 64 - b.length / 64 := by
    rw [List.length_append, hrest, List.length_drop]; omega
  have hw2 := write_run (fun z_ => M_sha_Hash_Write_pov_b1 z_.1 z_.2.1 z_.2.2.1 z_.2.2.2.1 z_.2.2.2.2.1 z_.2.2.2.2.2) (fun _ _ _ _ _ _ => rfl) _ (runB (b.length / 64) h0S b).1 ((runB (b.length / 64) h0S b).2 ++ padS b.length) hlen (by rw [List.length_append]; omega)
  have hall : (runB ((b.length + (padS b.length).length) / 64) h0S (b ++ padS b.length)).1 = (runB ((b.length + (padS b.length).length) / 64 - b.length / 64) (runB (b.length / 64) h0S b).1 ((runB (b.length / 64) h0S b).2 ++ padS b.length)).1 := by
    have h1 := runB_add (b.length / 64) ((b.length + (padS b.length).length) / 64 - b.length / 64) h0S (b ++ padS b.length)
    have h2 := runB_app (b.length / 64) h0S b (padS b.length) (by omega)
    rw [show b.length / 64 + ((b.length + (padS b.length).length) / 64 - b.length / 64) = (b.length + (padS b.length).length) / 64 by omega, h2] at h1
    rw [h1]
  unfold M_sha_Sum_v M_sha_New M_sha_begin
  rw [some_bindP, some_bindP]
  unfold M_sha_Hash_Write_pnv
  rw [show ∀ a b c d e f g, M_sha_Hash_none_pn a b c d e f g = some () from fun _ _ _ _ _ _ _ => rfl, some_bindP, if_pos rfl, if_pos (by decide), List.nil_append, if_pos (by simp only [List.length_nil]; omega), List.nil_append]
  rw [show ((1732584193 : UInt32), (4023233417 : UInt32), (2562383102 : UInt32), (271733878 : UInt32), (3285377520 : UInt32), b) = (h0S.1, h0S.2.1, h0S.2.2.1, h0S.2.2.2.1, h0S.2.2.2.2, b) from rfl, hw, some_bindP]
  simp only []
  rw [some_bindP]
  simp only []
  unfold M_sha_Hash_Sum_po
  rw [show ∀ a b c d e f g h, M_sha_Hash_none_po a b c d e f g h = some () from fun _ _ _ _ _ _ _ _ => rfl, some_bindP, if_pos rfl]
  unfold M_sha_Hash_Clone_po
  rw [if_pos (by omega), some_bindP, eN, sha_padS (by omega), some_bindP]
  unfold M_sha_Hash_Write_pov
  rw [show ∀ a b c d e f g h, M_sha_Hash_none_po a b c d e f g h = some () from fun _ _ _ _ _ _ _ _ => rfl, some_bindP, if_pos rfl, List.nil_append, if_pos (by omega), List.nil_append, if_pos (by omega), hw2, some_bindP]
  simp only []
  rw [some_bindP]
  simp only []
  rw [out_code, some_bindP, some_bindP]
  unfold sumV
  rw [hall]
theorem sum_ref {b : List UInt8} (hb : b.length ≤ 100000) : M_signpostref02_Sum_v b = some (sumV b) := by
  have hp := padS_len b.length
  have eN : UInt64.ofInt ((b.length : Nat) : Int) = UInt64.ofNat b.length := by
    apply UInt64.toNat_inj.1
    simp [UInt64.ofInt, UInt64.toNat_ofNat']; omega
  have loop : ∀ (d k : Nat) (h : H5), (b.length + (padS b.length).length) / 64 = k + d →
      loopO (fun z_ : UInt32 × UInt32 × UInt32 × UInt32 × UInt32 × Int => M_signpostref02_Sum_v_b1 b (padS b.length) z_.1 z_.2.1 z_.2.2.1 z_.2.2.2.1 z_.2.2.2.2.1 z_.2.2.2.2.2) (h.1, h.2.1, h.2.2.1, h.2.2.2.1, h.2.2.2.2, ((64 * k : Nat) : Int)) =
      some (runB d h ((b ++ padS b.length).drop (64 * k))).1 := by
    intro d
    induction d with
    | zero =>
      intro k h hk
      exact loopO_end (by
        show M_signpostref02_Sum_v_b1 b (padS b.length) h.1 h.2.1 h.2.2.1 h.2.2.2.1 h.2.2.2.2 ((64 * k : Nat) : Int) = _
        unfold M_signpostref02_Sum_v_b1
        rw [List.nil_append, if_neg (by rw [List.length_append]; omega)]; rfl)
    | succ d ih =>
      intro k h hk
      have ht : ((b ++ padS b.length).take (((64 * k : Nat) : Int) + 64).toNat).drop ((64 * k : Nat) : Int).toNat = ((b ++ padS b.length).drop (64 * k)).take 64 := by
        rw [show (((64 * k : Nat) : Int) + 64).toNat = 64 * k + 64 by omega, show ((64 * k : Nat) : Int).toNat = 64 * k from rfl, List.drop_take]
        congr 1; omega
      have he := eat_some (h := h) (b := ((b ++ padS b.length).drop (64 * k)).take 64) (by rw [List.length_take]; omega)
      rw [loopO_next (s' := ((eatS h (((b ++ padS b.length).drop (64 * k)).take 64)).1, (eatS h (((b ++ padS b.length).drop (64 * k)).take 64)).2.1, (eatS h (((b ++ padS b.length).drop (64 * k)).take 64)).2.2.1, (eatS h (((b ++ padS b.length).drop (64 * k)).take 64)).2.2.2.1, (eatS h (((b ++ padS b.length).drop (64 * k)).take 64)).2.2.2.2, ((64 * (k + 1) : Nat) : Int))) (by
        show M_signpostref02_Sum_v_b1 b (padS b.length) h.1 h.2.1 h.2.2.1 h.2.2.2.1 h.2.2.2.2 ((64 * k : Nat) : Int) = _
        unfold M_signpostref02_Sum_v_b1
        rw [List.nil_append, if_pos (by rw [List.length_append]; omega), if_pos (ok_small (by omega)), if_pos (by rw [List.length_append]; omega), ht, eat_block (by rw [List.length_take]; omega), he, some_bindP]
        simp only []
        rw [if_pos (ok_small (by omega)), show ((64 * (k + 1) : Nat) : Int) = ((64 * k : Nat) : Int) + 64 by omega]), ih (k + 1) _ (by omega), runB, List.drop_drop]
      rfl
  have := loop _ 0 h0S (Nat.zero_add _).symm
  rw [show ((64 * 0 : Nat) : Int) = 0 from rfl, show 64 * 0 = 0 from rfl, List.drop_zero] at this
  unfold M_signpostref02_Sum_v
  rw [if_pos (by omega), eN, ref_padS (by omega), some_bindP, List.nil_append, if_pos (by omega)]
  rw [show ((1732584193 : UInt32), (4023233417 : UInt32), (2562383102 : UInt32), (271733878 : UInt32), (3285377520 : UInt32), (0 : Int)) = (h0S.1, h0S.2.1, h0S.2.2.1, h0S.2.2.2.1, h0S.2.2.2.2, 0) from rfl, this, some_bindP]
  simp only []
  rw [out_ref, some_bindP]
  rfl
theorem rangeO_none0 {σ α ρ : Type} {f : σ → α → Option (σ ⊕ ρ)} {s : σ} : rangeO f [] s = some (.inl s) := rfl
theorem rangeO_more {σ α ρ : Type} {f : σ → α → Option (σ ⊕ ρ)} {s s' : σ} {x : α} {l : List α} (h : f s x = some (.inl s')) : rangeO f (x :: l) s = rangeO f l s' := by
  rw [rangeO, h]
theorem parts_r1 {out : List (List UInt8)} {p : List UInt8} (h : out.length ≤ 1000003) : M_label_Parts_r1 out p = some (.inl (out ++ [p])) := by
  unfold M_label_Parts_r1
  rw [if_pos (by omega)]
theorem parts_range (l : List (List UInt8)) : ∀ (out : List (List UInt8)), out.length + l.length ≤ 1000002 → rangeO (fun (y_ : List (List UInt8)) x => M_label_Parts_r1 y_ x) l out = some (.inl (out ++ l)) := by
  induction l with
  | nil => intro out _; rw [rangeO_none0, List.append_nil]
  | cons p l ih =>
    intro out h
    rw [List.length_cons] at h
    rw [rangeO_more (s' := out ++ [p]) (parts_r1 (by omega)), ih _ (by rw [List.length_append]; simp only [List.length_cons, List.length_nil]; omega), List.append_assoc, List.singleton_append]
theorem drop_two (A B : List UInt8) (c : UInt8) : (A ++ c :: B).drop (A.length + 1) = B := by rw [← List.drop_drop, List.drop_left]; rfl
theorem drop_three (A B C : List UInt8) : (A ++ 46 :: (B ++ 46 :: C)).drop (A.length + B.length + 2) = C := by
  rw [show A.length + B.length + 2 = (A.length + 1) + (B.length + 1) by omega, ← List.drop_drop, drop_two, drop_two]
theorem label_Parts {s : List UInt8} (hs : s.length ≤ 1000000) : M_label_Parts s = some (partsS s) := by
  have hc := partsS_count s
  unfold M_label_Parts
  rw [show M_label_parts s = some () from rfl, some_bindP, label_parts (by omega), parts_range _ _ (by simp only [List.length_nil]; omega), some_bindP]; rfl
theorem parts_cut (s : List UInt8) : partsS s = if (cutS s).2.2 = true then (cutS s).1 :: partsS (cutS s).2.1 else [s] := by
  rw [partsS_spl, spl_cut]
  unfold cutS
  by_cases h : 0 ≤ Lib.indexByte s 46
  · rw [if_pos h, if_pos h, if_pos rfl, partsS_spl]; rfl
  · rw [if_neg h, if_neg h, if_neg Bool.false_ne_true]; rfl
theorem cut_join {s : List UInt8} (h : (cutS s).2.2 = true) : s = (cutS s).1 ++ 46 :: (cutS s).2.1 ∧ Lib.indexByte s 46 = ((cutS s).1.length : Int) := by
  have hidx : ∀ (l : List UInt8), 0 ≤ Lib.indexByte l 46 → l = l.take (Lib.indexByte l 46).toNat ++ 46 :: l.drop (Lib.indexByte l 46 + 1).toNat := by
    intro l
    induction l with
    | nil => intro h; simp [Lib.indexByte] at h
    | cons c l ih =>
      intro h
      have hb := idx_lt l 46
      have e : Lib.indexByte (c :: l) 46 = if c = 46 then 0 else if Lib.indexByte l 46 = -1 then -1 else Lib.indexByte l 46 + 1 := by simp [Lib.indexByte]
      rw [e] at h ⊢
      by_cases hc : c = 46
      · rw [if_pos hc, hc]; rfl
      · rw [if_neg hc] at h ⊢
        by_cases hi : Lib.indexByte l 46 = -1
        · rw [if_pos hi] at h; omega
        · rw [if_neg hi]
          rw [show (Lib.indexByte l 46 + 1).toNat = (Lib.indexByte l 46).toNat + 1 by omega, show (Lib.indexByte l 46 + 1 + 1).toNat = (Lib.indexByte l 46 + 1).toNat + 1 by omega]
          rw [List.take_succ_cons, List.drop_succ_cons, List.cons_append, ← ih (by omega)]
  have hb := idx_lt s 46
  unfold cutS at h ⊢
  by_cases hi : 0 ≤ Lib.indexByte s 46
  · rw [if_pos hi]
    exact ⟨hidx s hi, by simp only [List.length_take]; omega⟩
  · rw [if_neg hi] at h; cases h
theorem foldC_dot (c : UInt8) : (foldC c = 46 ↔ c = 46) ∧ (foldC c = 95 ↔ c = 95) := by
  have key : ∀ n : Fin 256, (foldC (UInt8.ofNat n.val) = 46 ↔ UInt8.ofNat n.val = 46) ∧ (foldC (UInt8.ofNat n.val) = 95 ↔ UInt8.ofNat n.val = 95) := by decide +kernel
  have := key ⟨c.toNat, c.toNat_lt⟩
  simpa using this
theorem spl_fold : ∀ (s cur : List UInt8), spl (foldS cur) (foldS s) = (spl cur s).map foldS
  | [], cur => by simp [spl, foldS]
  | c :: t, cur => by
    have h1 := spl_fold t []
    have h2 := spl_fold t (cur ++ [c])
    unfold foldS at h1 h2 ⊢
    rw [List.map_cons, spl, spl]
    by_cases hc : c = 46
    · rw [if_pos hc, if_pos ((foldC_dot c).1.2 hc), List.map_cons, ← h1]; rfl
    · rw [if_neg hc, if_neg (fun e => hc ((foldC_dot c).1.1 e)), ← h2, List.map_append]; rfl
theorem parts_fold (s : List UInt8) : partsS (foldS s) = (partsS s).map foldS := by
  rw [partsS_spl, partsS_spl]; exact spl_fold s []
def headV : List (List UInt8) → Bool
  | x :: y :: _ :: _ => decide (1 < x.length) && (decide (x[0]? = some 95) && (decide (y = [95, 116, 99, 112]) || decide (y = [95, 117, 100, 112])))
  | _ => false
theorem headV_cons (x y z : List UInt8) (r : List (List UInt8)) : headV (x :: y :: z :: r) = (decide (1 < x.length) && (decide (x[0]? = some 95) && (decide (y = [95, 116, 99, 112]) || decide (y = [95, 117, 100, 112])))) := rfl
noncomputable def goodV (s : List UInt8) : Bool := goodN s && headV (partsS (foldS s))
theorem service_good {s : List UInt8} (hs : s.length ≤ 1000000) : M_service_Good s = some (goodV s) := by
  unfold M_service_Good goodV
  rw [label_good (by omega), some_bindP]
  cases goodN s with
  | false => rfl
  | true =>
    rw [if_pos rfl, label_fold (by omega), some_bindP, label_Parts (by rw [foldS_len]; omega), some_bindP, Bool.true_and]
    generalize partsS (foldS s) = l
    match l with
    | [] => rfl
    | [x] => rfl
    | [x, y] => rfl
    | x :: y :: z :: r =>
      rw [if_pos (by simp only [List.length_cons]; omega), show at? (x :: y :: z :: r) 0 = some x from rfl, some_bindP, headV_cons]
      by_cases h1 : 1 < x.length
      · rw [if_pos (by omega), decide_eq_true h1, show (0 : Int) = ((0 : Nat) : Int) from rfl, at?_in (by omega : 0 < x.length), some_bindP, List.getElem?_eq_getElem (by omega : 0 < x.length)]
        by_cases h2 : x[0] = 95
        · rw [if_pos h2, show at? (x :: y :: z :: r) 1 = some y from rfl, some_bindP, decide_eq_true (show some x[0] = some (95 : UInt8) by rw [h2])]
          unfold M_service_Good_1
          by_cases h3 : y = [95, 116, 99, 112]
          · rw [if_pos h3, some_bindP, decide_eq_true h3]; rfl
          · rw [if_neg h3, some_bindP, decide_eq_false h3]; rfl
        · rw [if_neg h2, decide_eq_false (fun e => h2 (Option.some.inj e))]; rfl
      · rw [if_neg (by omega), decide_eq_false h1]; rfl
theorem ref10_good {s : List UInt8} (hs : s.length ≤ 100000) : M_signpostref10_Good s = some (goodV s) := by
  unfold M_signpostref10_Good goodV
  rw [ref09_fold (by omega), some_bindP, ref09_parts (by rw [foldS_len]; omega), some_bindP, ref09_good (by omega), some_bindP]
  cases goodN s with
  | false => rfl
  | true =>
    rw [if_pos rfl, Bool.true_and]
    generalize partsS (foldS s) = l
    match l with
    | [] => rfl
    | [x] => rfl
    | [x, y] => rfl
    | x :: y :: z :: r =>
      rw [if_pos (by simp only [List.length_cons]; omega), show at? (x :: y :: z :: r) 0 = some x from rfl, some_bindP, headV_cons]
      by_cases h1 : 1 < x.length
      · rw [if_pos (by omega), decide_eq_true h1, show (0 : Int) = ((0 : Nat) : Int) from rfl, at?_in (by omega : 0 < x.length), some_bindP, List.getElem?_eq_getElem (by omega : 0 < x.length)]
        by_cases h2 : x[0] = 95
        · rw [if_pos h2, show at? (x :: y :: z :: r) 1 = some y from rfl, some_bindP, decide_eq_true (show some x[0] = some (95 : UInt8) by rw [h2])]
          by_cases h3 : y = [95, 116, 99, 112]
          · rw [if_pos h3, decide_eq_true h3]; rfl
          · rw [if_neg h3, decide_eq_false h3]; rfl
        · rw [if_neg h2, decide_eq_false (fun e => h2 (Option.some.inj e))]; rfl
      · rw [if_neg (by omega), decide_eq_false h1]; rfl
/-- The three of a service's name. -/
def p1 (s : List UInt8) : List UInt8 := (cutS s).1
def p2 (s : List UInt8) : List UInt8 := (cutS (cutS s).2.1).1
def p3 (s : List UInt8) : List UInt8 := (cutS (cutS s).2.1).2.1
theorem head_of_fold {x : List UInt8} (h : (foldS x)[0]? = some 95) : x = 95 :: x.drop 1 := by
  cases x with
  | nil => simp [foldS] at h
  | cons c x =>
    simp only [foldS, List.map_cons, List.getElem?_cons_zero, Option.some.injEq] at h
    rw [(foldC_dot c).2.1 h]; rfl
theorem goodV_form {s : List UInt8} (h : goodV s = true) : goodN s = true ∧ (cutS s).2.2 = true ∧ (cutS (cutS s).2.1).2.2 = true ∧ p1 s = 95 :: (p1 s).drop 1 ∧ p2 s = 95 :: (p2 s).drop 1 ∧ partsS s = p1 s :: p2 s :: partsS (p3 s) := by
  unfold goodV at h
  rw [Bool.and_eq_true, parts_fold] at h
  obtain ⟨hn, hh⟩ := h
  have h1 := parts_cut s
  have h2 := parts_cut (cutS s).2.1
  have h3 := parts_cut (p3 s)
  cases c1 : (cutS s).2.2 with
  | false => rw [c1, if_neg (by decide)] at h1; rw [h1] at hh; cases hh
  | true =>
    rw [c1, if_pos rfl] at h1
    cases c2 : (cutS (cutS s).2.1).2.2 with
    | false => rw [c2, if_neg (by decide)] at h2; rw [h1, h2] at hh; cases hh
    | true =>
      rw [c2, if_pos rfl] at h2
      rw [h2] at h1
      have h1' : partsS s = p1 s :: p2 s :: partsS (p3 s) := h1
      obtain ⟨z, r, hz⟩ : ∃ z r, partsS (p3 s) = z :: r := by
        rw [h3]
        split
        · exact ⟨_, _, rfl⟩
        · exact ⟨_, _, rfl⟩
      rw [h1', hz] at hh
      simp only [List.map_cons, headV, Bool.and_eq_true, Bool.or_eq_true, decide_eq_true_eq] at hh
      refine ⟨hn, rfl, rfl, head_of_fold hh.2.1, head_of_fold ?_, h1'⟩
      rcases hh.2.2 with e | e <;> rw [e] <;> rfl
theorem three_join {s : List UInt8} (h1 : (cutS s).2.2 = true) (h2 : (cutS (cutS s).2.1).2.2 = true) : s = p1 s ++ 46 :: (p2 s ++ 46 :: p3 s) := by
  have e1 := (cut_join h1).1
  have e2 := (cut_join h2).1
  unfold p1 p2 p3
  rw [← e2, ← e1]
theorem strings_index {s : List UInt8} : M_strings_Index s = some (Lib.indexByte s 46) := by
  unfold M_strings_Index
  have hi : M_stringslite_Index s = some (Lib.indexByte s 46) := by
    unfold M_stringslite_Index
    by_cases h : [46] = s
    · rw [if_pos h, ← h]; rfl
    · rw [if_neg h]; rfl
  rw [hi, some_bindP]
theorem split_round {s s2 : List UInt8} {a : List (List UInt8)} {i : Nat} (hs : 2 ≤ s.length) (hl : s.length ≤ 1000000) (hi : i < 2) (ha : a.length = 3) (h2 : s2.length ≤ 1000000) (hc : (cutS s2).2.2 = true) :
    M_strings_genSplit_b1 s s2 a (i : Int) = some (.inl ((cutS s2).2.1, a.set i (cutS s2).1, ((i + 1 : Nat) : Int))) := by
  obtain ⟨e1, e2⟩ := cut_join hc
  have hlen := congrArg List.length e1
  rw [List.length_append, List.length_cons] at hlen
  have hm : min 3 ((s.length : Int) + 1) = 3 := by omega
  have e3 : s2.take ((cutS s2).1.length) = (cutS s2).1 := (congrArg (List.take (cutS s2).1.length) e1).trans List.take_left
  have e4 : s2.drop ((cutS s2).1.length + 1) = (cutS s2).2.1 := (congrArg (List.drop ((cutS s2).1.length + 1)) e1).trans (drop_two _ _ _)
  unfold M_strings_genSplit_b1
  rw [hm, if_pos (by omega), strings_index, some_bindP, e2, if_neg (by omega), if_pos (ok_small (by omega)), if_pos (by omega), at?_in (by omega), some_bindP, if_pos (ok_small (by omega)), if_pos (by omega), if_pos (ok_small (by omega))]
  rw [show (((cutS s2).1.length : Int) + 1).toNat = (cutS s2).1.length + 1 by omega, show (((cutS s2).1.length : Int) + 0).toNat = (cutS s2).1.length by omega, e3, e4]
  rfl
theorem split_three {s : List UInt8} (hl : s.length ≤ 1000000) (h1 : (cutS s).2.2 = true) (h2 : (cutS (cutS s).2.1).2.2 = true) : M_strings_SplitN s = some [p1 s, p2 s, p3 s] := by
  have e := congrArg List.length (three_join h1 h2)
  simp only [List.length_append, List.length_cons] at e
  have e1 := congrArg List.length (cut_join h1).1
  simp only [List.length_append, List.length_cons] at e1
  have hm : min 3 ((s.length : Int) + 1) = 3 := by omega
  have hloop : loopO (fun z_ => M_strings_genSplit_b1 s z_.1 z_.2.1 z_.2.2) (s, List.replicate 3 ([] : List UInt8), ((0 : Nat) : Int)) = some (p3 s, [p1 s, p2 s, []], 2) := by
    rw [loopO_next (split_round (s2 := s) (a := List.replicate 3 []) (i := 0) (by omega) hl (by omega) rfl hl h1),
      loopO_next (split_round (s2 := (cutS s).2.1) (i := 1) (by omega) hl (by omega) (by simp) (by omega) h2),
      loopO_end (r := (p3 s, [p1 s, p2 s, []], 2)) (by
        show M_strings_genSplit_b1 s _ _ ((2 : Nat) : Int) = _
        unfold M_strings_genSplit_b1
        rw [hm, if_neg (by decide)]; rfl)]
  unfold M_strings_SplitN M_strings_genSplit
  rw [hm, if_pos (ok_small (by omega)), if_pos (by decide), if_pos (ok_small (by decide)), show (3 : Int).toNat = 3 from rfl, show (0 : Int) = ((0 : Nat) : Int) from rfl, hloop, some_bindP]
  rfl
noncomputable def splitV (s : List UInt8) : List UInt8 × List UInt8 × List UInt8 × Int := if goodV s = true then ((p1 s).drop 1, (p2 s).drop 1, p3 s, 0) else ([], [], [], 40)
theorem len_of_cons {x : List UInt8} (h : x = 95 :: x.drop 1) : 1 ≤ x.length := by rw [h]; simp
theorem service_split {s : List UInt8} (hs : s.length ≤ 1000000) : M_service_Split s = some (splitV s) := by
  unfold M_service_Split splitV
  rw [service_good hs, some_bindP]
  by_cases h : goodV s = true
  · obtain ⟨_, h1, h2, h3, h4, _⟩ := goodV_form h
    have l1 := len_of_cons h3
    have l2 := len_of_cons h4
    rw [if_pos h, if_pos h, split_three hs h1 h2, some_bindP, show at? [p1 s, p2 s, p3 s] 0 = some (p1 s) from rfl, some_bindP, if_pos (by omega), show at? [p1 s, p2 s, p3 s] 1 = some (p2 s) from rfl, some_bindP, if_pos (by omega),
      show at? [p1 s, p2 s, p3 s] 2 = some (p3 s) from rfl, some_bindP]
  · rw [if_neg h, if_neg h]
theorem ref10_split {s : List UInt8} (hs : s.length ≤ 100000) : M_signpostref10_Split s = some (splitV s) := by
  unfold M_signpostref10_Split splitV
  rw [ref10_good hs, some_bindP]
  by_cases h : goodV s = true
  · obtain ⟨_, h1, h2, h3, h4, h5⟩ := goodV_form h
    have l1 := len_of_cons h3
    have l2 := len_of_cons h4
    have e := congrArg List.length (three_join h1 h2)
    simp only [List.length_append, List.length_cons] at e
    have hd : s.drop ((p1 s).length + (p2 s).length + 2) = p3 s := (congrArg (List.drop ((p1 s).length + (p2 s).length + 2)) (three_join h1 h2)).trans (drop_three _ _ _)
    rw [if_pos h, if_pos h, ref09_parts (by omega), some_bindP, h5, show at? (p1 s :: p2 s :: partsS (p3 s)) 0 = some (p1 s) from rfl, some_bindP, if_pos (by omega), show at? (p1 s :: p2 s :: partsS (p3 s)) 1 = some (p2 s) from rfl, some_bindP, if_pos (by omega),
      if_pos (ok_small (by omega)), if_pos (ok_small (by omega)), if_pos (by omega), show (((p1 s).length : Int) + ((p2 s).length : Int) + 2).toNat = (p1 s).length + (p2 s).length + 2 by omega, hd]
  · rw [if_neg h, if_neg h]
theorem lives10 : M_signpostlaw10_lives = some true := by
  have g1 : goodV [95, 104, 116, 116, 112, 46, 95, 116, 99, 112, 46, 97, 46, 98] = true := by
    unfold goodV goodN
    rw [show partsS (foldS [95, 104, 116, 116, 112, 46, 95, 116, 99, 112, 46, 97, 46, 98]) = [[95, 104, 116, 116, 112], [95, 116, 99, 112], [97], [98]] by decide, show partsS [95, 104, 116, 116, 112, 46, 95, 116, 99, 112, 46, 97, 46, 98] = [[95, 104, 116, 116, 112], [95, 116, 99, 112], [97], [98]] by decide]
    decide
  have g2 : goodV [95, 104, 116, 116, 112, 46, 95, 105, 112, 46, 97] = false := by
    unfold goodV
    rw [show headV (partsS (foldS [95, 104, 116, 116, 112, 46, 95, 105, 112, 46, 97])) = false by decide, Bool.and_false]
  have g3 : goodV [95, 46, 95, 116, 99, 112, 46, 97] = false := by
    unfold goodV
    rw [show headV (partsS (foldS [95, 46, 95, 116, 99, 112, 46, 97])) = false by decide, Bool.and_false]
  have s1 : splitV [95, 104, 116, 116, 112, 46, 95, 116, 99, 112, 46, 97, 46, 98] = ([104, 116, 116, 112], [116, 99, 112], [97, 46, 98], 0) := by
    unfold splitV
    rw [if_pos g1]
    decide
  unfold M_signpostlaw10_lives
  rw [service_split (by decide), s1, some_bindP]
  simp only [if_true]
  rw [service_good (by decide), g2, some_bindP, if_neg (by decide), service_good (by decide), g3, some_bindP]; rfl
theorem service_canon {s : List UInt8} (hs : s.length ≤ 100000) : M_service_Canon s = some (if goodV s = true then (foldS s, 0) else ([], 40)) := by
  unfold M_service_Canon
  rw [service_good (by omega), some_bindP]
  by_cases h : goodV s = true
  · rw [if_pos h, if_pos h, label_fold (by omega), some_bindP]
  · rw [if_neg h, if_neg h]
/-! ### keys -/
theorem service_keyV {s : List UInt8} (hs : s.length ≤ 100000) : M_service_Key s = some (if goodV s = true then (sumV (foldS s), 0) else ((fun _ => 0), 40)) := by
  unfold M_service_Key
  rw [service_canon hs, some_bindP]
  by_cases h : goodV s = true
  · rw [if_pos h, if_pos h]
    simp only []
    unfold M_ident_Of
    rw [if_pos trivial, if_pos (by rw [foldS_len]; omega), sum_code (by rw [foldS_len]; omega), some_bindP, some_bindP]
  · rw [if_neg h, if_neg h]
    simp only []
    rw [if_neg (by decide)]
theorem ref10_canon {s : List UInt8} (hs : s.length ≤ 100000) : M_signpostref10_Canon s = some (if goodV s = true then (foldS s, 0) else ([], 40)) := by
  unfold M_signpostref10_Canon
  rw [ref10_good hs, some_bindP]
  by_cases h : goodV s = true
  · rw [if_pos h, if_pos h, ref09_fold (by omega), some_bindP]
  · rw [if_neg h, if_neg h]
theorem ref10_key {s : List UInt8} (hs : s.length ≤ 100000) : M_signpostref10_Key s = some (if goodV s = true then (sumV (foldS s), 0) else ((fun _ => 0), 40)) := by
  unfold M_signpostref10_Key
  rw [ref10_canon hs, some_bindP]
  by_cases h : goodV s = true
  · rw [if_pos h, if_pos h]
    simp only []
    rw [if_pos trivial, if_pos (by rw [foldS_len]; omega), sum_ref (by rw [foldS_len]; omega), some_bindP]
  · rw [if_neg h, if_neg h]
    simp only []
    rw [if_neg (by decide)]
/-! ### the statement -/
theorem pure_ServiceTells (s : List UInt8) (wf_s : s.length ≤ 140737488351232) : M_signpostlaw10_ServiceTells s = some true := by
  unfold M_signpostlaw10_ServiceTells
  by_cases hl : (600 : Int) < (s.length : Int)
  · rw [if_pos hl, lives10, some_bindP]
  · have hs : s.length ≤ 100000 := by omega
    rw [if_neg hl, service_split (by omega), ref10_split hs, service_canon hs, ref10_canon hs, service_keyV hs, ref10_key hs, service_good (by omega), ref10_good hs, lives10]
    generalize splitV s = A
    generalize (if goodV s = true then (foldS s, (0 : Int)) else ([], 40)) = B
    generalize (if goodV s = true then (sumV (foldS s), (0 : Int)) else ((fun _ => 0), 40)) = C
    obtain ⟨a1, a2, a3, a4⟩ := A
    obtain ⟨b1, b2⟩ := B
    obtain ⟨c1, c2⟩ := C
    simp only [some_bindP, if_true]
end Go.Proofs.YtpheilpcklfknaaDoor
