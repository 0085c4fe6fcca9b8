/-
  What the functions that the statement RosterReads reaches compute, as plain laws; and the statement about them. No condition.
-/
import Derived.Test.YtlkilokdbkjbmaaRosterReadsMod
import Derived.Test.YtlkilokdbkjbmaaBPure
namespace Go.Proofs.Ytlkilokdbkjbmaa
open Go Go.RowKit
set_option linter.unusedVariables false
set_option linter.unusedSimpArgs false
/-! ### names -/
theorem idx_lt : ∀ (l : List UInt8) (c : UInt8), -1 ≤ Lib.indexByte l c ∧ (0 ≤ Lib.indexByte l c → Lib.indexByte l c < l.length)
  | [], c => by simp [Lib.indexByte]
  | b :: l, c => by
    have h := idx_lt l c
    unfold Lib.indexByte
    simp only [List.length_cons]
    split
    · omega
    · split
      · omega
      · rename_i h1 h2
        simp only [beq_iff_eq] at h2
        omega
/-- A text cut at its first point. -/
def cutS (s : List UInt8) : List UInt8 × List UInt8 × Bool := if 0 ≤ Lib.indexByte s 46 then (s.take (Lib.indexByte s 46).toNat, s.drop (Lib.indexByte s 46 + 1).toNat, true) else (s, [], false)
theorem label_cut {s : List UInt8} (hs : s.length ≤ 4611686018427387904) : M_strings_Cut s = some (cutS s) := by
  have hi : M_stringslite_Index s = some (Lib.indexByte s 46) := by
    unfold M_stringslite_Index
    by_cases h : [46] = s
    · rw [if_pos h, ← h]; rfl
    · rw [if_neg h]; rfl
  have hb := idx_lt s 46
  unfold M_strings_Cut M_stringslite_Cut cutS
  rw [hi, Option.bind_some]
  by_cases h : 0 ≤ Lib.indexByte s 46
  · rw [if_pos h, if_pos (by omega), if_pos (ok_small (by omega)), if_pos (by omega), if_pos h]; rfl
  · rw [if_neg h, if_neg h]; rfl
/-- The texts between points. -/
def partsF : Nat → List UInt8 → List (List UInt8)
  | 0, s => [s]
  | n + 1, s => if (cutS s).2.2 = true then (cutS s).1 :: partsF n (cutS s).2.1 else [s]
def partsS (s : List UInt8) : List (List UInt8) := partsF s.length s
theorem cutS_len (s : List UInt8) : (cutS s).1.length ≤ s.length ∧ ((cutS s).2.2 = true → (cutS s).2.1.length < s.length) ∧ ((cutS s).2.2 = false → (cutS s).1 = s) := by
  have hb := idx_lt s 46
  unfold cutS
  split
  · refine ⟨by simp only [List.length_take]; omega, fun _ => ?_, fun h => (by cases h)⟩
    simp only [List.length_drop]; omega
  · exact ⟨Nat.le_refl _, (fun h => by cases h), fun _ => rfl⟩
theorem parts_loop {σ ρ : Type} {f : σ → List UInt8 → Option (σ ⊕ ρ)} : ∀ (n : Nat) (s : List UInt8) (z : σ), s.length ≤ n → s.length ≤ 4611686018427387904 →
    loopO (fun z_ => M_label_parts_1_p_b1 f z_.1 z_.2) (z, s) = rangeO f (partsF n s) z := by
  have hb : ∀ (s : List UInt8) (z : σ), s.length ≤ 4611686018427387904 → M_label_parts_1_p_b1 f z s = (f z (cutS s).1).bind fun y => match y with
      | .inl z2 => if (cutS s).2.2 = true then some (.inl (z2, (cutS s).2.1)) else some (.inr (.inl z2))
      | .inr x => some (.inr (.inr x)) := by
    intro s z hs
    unfold M_label_parts_1_p_b1
    rw [label_cut hs, Option.bind_some]
    rfl
  intro n
  induction n with
  | zero =>
    intro s z hn hs
    obtain ⟨h1, h2, h3⟩ := cutS_len s
    have hc : (cutS s).2.2 = false := by
      cases h : (cutS s).2.2 with
      | false => rfl
      | true => have := h2 h; omega
    have hb1 := hb s z hs
    rw [hc, h3 hc] at hb1
    simp only [partsF, rangeO]
    cases hf : f z s with
    | none =>
      rw [hf] at hb1
      exact loopO_none hb1
    | some y =>
      rw [hf] at hb1
      cases y with
      | inl z2 => exact loopO_end hb1
      | inr x => exact loopO_end hb1
  | succ n ih =>
    intro s z hn hs
    obtain ⟨h1, h2, h3⟩ := cutS_len s
    have hb1 := hb s z hs
    unfold partsF
    cases hc : (cutS s).2.2 with
    | true =>
      rw [hc] at hb1
      simp only [if_pos, rangeO]
      cases hf : f z (cutS s).1 with
      | none => rw [hf] at hb1; exact loopO_none hb1
      | some y =>
        rw [hf] at hb1
        cases y with
        | inl z2 => rw [loopO_next hb1]; exact ih _ _ (by have := h2 hc; omega) (by have := h2 hc; omega)
        | inr x => exact loopO_end hb1
    | false =>
      rw [hc, h3 hc] at hb1
      simp only [Bool.false_eq_true, if_false, rangeO]
      cases hf : f z s with
      | none => rw [hf] at hb1; exact loopO_none hb1
      | some y =>
        rw [hf] at hb1
        cases y with
        | inl z2 => exact loopO_end hb1
        | inr x => exact loopO_end hb1
theorem label_parts {σ ρ : Type} {f : σ → List UInt8 → Option (σ ⊕ ρ)} {s : List UInt8} {z : σ} (hs : s.length ≤ 4611686018427387904) : M_label_parts_1_p f s z = rangeO f (partsS s) z := by
  unfold M_label_parts_1_p partsS
  rw [parts_loop s.length s z (Nat.le_refl _) hs]
  cases rangeO f (partsF s.length s) z <;> rfl
theorem partsF_len : ∀ (n : Nat) (s : List UInt8), ∀ p ∈ partsF n s, p.length ≤ s.length
  | 0, s, p, hp => by simp only [partsF, List.mem_singleton] at hp; subst hp; exact Nat.le_refl _
  | n + 1, s, p, hp => by
    obtain ⟨h1, h2, h3⟩ := cutS_len s
    unfold partsF at hp
    split at hp
    · rename_i hc
      rcases List.mem_cons.1 hp with rfl | hp
      · exact h1
      · have := partsF_len n _ p hp; have := h2 hc; omega
    · simp only [List.mem_singleton] at hp; subst hp; exact Nat.le_refl _
/-! ### parts -/
noncomputable def plainS (c : UInt8) : Bool := (M_label_plain c).getD false
theorem label_plain (c : UInt8) : M_label_plain c = some (plainS c) := by
  unfold plainS M_label_plain M_label_plain_k1 M_label_plain_k2
  repeat' split
  all_goals rfl
theorem plain_loop09 {s : List UInt8} (hs : s.length ≤ 140737488355328) : ∀ (d k : Nat), s.length = k + d →
    loopO (fun z_ => M_label_Part_b2 s z_) (k : Int) = some (if (s.drop k).all plainS = true then .inl () else .inr false) := by
  intro d
  induction d with
  | zero =>
    intro k h
    rw [loopO_end (r := .inl ()) (by unfold M_label_Part_b2; rw [if_neg (by omega)]), List.drop_of_length_le (by omega)]; rfl
  | succ d ih =>
    intro k h
    have hk : k < s.length := by omega
    have hb : M_label_Part_b2 s (k : Int) = if plainS s[k] = true then some (.inl ((k : Int) + 1)) else some (.inr (.inr false)) := by
      unfold M_label_Part_b2
      rw [if_pos (by omega), at?_in hk, Option.bind_some, label_plain, Option.bind_some, if_pos (ok_small (by omega))]
    rw [List.drop_eq_getElem_cons hk, List.all_cons]
    cases hp : plainS s[k] with
    | true => rw [loopO_next (s' := ((k + 1 : Nat) : Int)) (by show M_label_Part_b2 s (k : Int) = _; rw [hb, if_pos hp]; rfl), ih (k + 1) (by omega), Bool.true_and]
    | false => rw [loopO_end (r := .inr false) (by show M_label_Part_b2 s (k : Int) = _; rw [hb, if_neg (by rw [hp]; decide)])]; rfl
noncomputable def partS (s : List UInt8) : Bool := decide (1 ≤ s.length ∧ s.length ≤ 63) && (!decide (s[0]? = some 45) && (!decide (s[s.length - 1]? = some 45) && s.all plainS))
theorem label_part {s : List UInt8} (hs : s.length ≤ 140737488355328) : M_label_Part s = some (partS s) := by
  have hk1 : M_label_Part_k1 s true = some false := rfl
  have hk2 : M_label_Part_k1 s false = some (s.all plainS) := by
    have := plain_loop09 hs s.length 0 (by omega)
    rw [show ((0 : Nat) : Int) = 0 from rfl, List.drop_zero] at this
    unfold M_label_Part_k1
    rw [if_neg (by decide), if_pos hs, this, Option.bind_some]
    cases s.all plainS <;> rfl
  unfold M_label_Part partS
  by_cases h1 : (s.length : Int) < 1
  · rw [if_pos h1, hk1, decide_eq_false (by omega)]; rfl
  · rw [if_neg h1]
    by_cases h2 : (63 : Int) < s.length
    · rw [if_pos h2, hk1, decide_eq_false (by omega)]; rfl
    · have h0 : 0 < s.length := by omega
      have hl : s.length - 1 < s.length := by omega
      rw [if_neg h2, decide_eq_true (by omega), show (0 : Int) = ((0 : Nat) : Int) from rfl, at?_in h0, Option.bind_some, if_pos (ok_small (by omega)),
        show (s.length : Int) - 1 = ((s.length - 1 : Nat) : Int) by omega, at?_in hl, Option.bind_some, List.getElem?_eq_getElem h0, List.getElem?_eq_getElem hl]
      by_cases h3 : s[0] = 45
      · rw [if_pos h3, hk1]; simp [h3]
      · rw [if_neg h3]
        by_cases h4 : s[s.length - 1] = 45
        · rw [decide_eq_true h4, hk1]; simp [h4]
        · rw [decide_eq_false h4, hk2]; simp [h3, h4]
noncomputable def goodN (s : List UInt8) : Bool := decide (s.length ≤ 253) && (partsS s).all partS
theorem good_range : ∀ (l : List (List UInt8)), (∀ p ∈ l, p.length ≤ 140737488355328) → rangeO (fun (_ : Unit) x => M_label_Good_r1 x) l () = some (if l.all partS = true then .inl () else .inr ())
  | [], _ => rfl
  | p :: l, h => by
    have hp : M_label_Good_r1 p = some (if partS p = true then .inl () else .inr ()) := by
      unfold M_label_Good_r1
      rw [label_part (h p (List.mem_cons_self ..)), Option.bind_some]
      split <;> rfl
    rw [List.all_cons]
    unfold rangeO
    rw [hp]
    cases hh : partS p with
    | true => simp only [if_pos, Bool.true_and]; exact good_range l (fun q hq => h q (List.mem_cons_of_mem _ hq))
    | false => rfl
theorem label_good {s : List UInt8} (hs : s.length ≤ 140737488355328) : M_label_Good s = some (goodN s) := by
  unfold M_label_Good goodN
  by_cases h : (253 : Int) < s.length
  · rw [if_pos h, decide_eq_false (by omega)]; rfl
  · rw [if_neg h, decide_eq_true (by omega), show M_label_parts s = some () from rfl, Option.bind_some, label_parts (by omega), good_range _ (fun p hp => by have := partsF_len _ _ p hp; omega), Option.bind_some]
    cases (partsS s).all partS <;> rfl
/-! ### texts folded -/
def foldC (c : UInt8) : UInt8 := if 65 ≤ c ∧ c ≤ 90 then c ||| 32 else c
def foldS (s : List UInt8) : List UInt8 := s.map foldC
theorem fold_loop09 {s : List UInt8} (hs : s.length ≤ 140737488355328) : ∀ (d k : Nat), s.length = k + d →
    loopO (fun z_ => M_label_Fold_b1 s z_.1 z_.2) ((s.take k).map foldC ++ s.drop k, (k : Int)) = some (foldS s) := by
  intro d
  induction d with
  | zero =>
    intro k h
    rw [loopO_end (r := (s.take k).map foldC ++ s.drop k) (by unfold M_label_Fold_b1; rw [if_neg (by omega)]), List.drop_of_length_le (by omega), List.take_of_length_le (by omega), List.append_nil]; rfl
  | succ d ih =>
    intro k h
    have hk : k < s.length := by omega
    have hlen : ((s.take k).map foldC).length = k := by rw [List.length_map, List.length_take]; omega
    have hx : at? ((s.take k).map foldC ++ s.drop k) (k : Int) = some s[k] := by
      rw [at?_nat, List.getElem?_append_right (by omega), hlen, Nat.sub_self, List.getElem?_drop, Nat.add_zero, List.getElem?_eq_getElem hk]
    have hset : ∀ c : UInt8, ((s.take k).map foldC ++ s.drop k).set k c = (s.take k).map foldC ++ c :: s.drop (k + 1) := by
      intro c
      rw [List.set_append_right _ _ (by omega), hlen, Nat.sub_self, List.drop_eq_getElem_cons hk]; rfl
    have hnext : (s.take (k + 1)).map foldC ++ s.drop (k + 1) = (s.take k).map foldC ++ foldC s[k] :: s.drop (k + 1) := by
      rw [List.take_succ_eq_append_getElem hk, List.map_append, List.append_assoc]; rfl
    have hsame : (s.take k).map foldC ++ s.drop k = (s.take k).map foldC ++ s[k] :: s.drop (k + 1) := by rw [← List.drop_eq_getElem_cons hk]
    have hb : M_label_Fold_b1 s ((s.take k).map foldC ++ s.drop k) (k : Int) = some (.inl ((s.take (k + 1)).map foldC ++ s.drop (k + 1), ((k + 1 : Nat) : Int))) := by
      unfold M_label_Fold_b1 M_label_Fold_k2
      rw [if_pos (by omega), hx, Option.bind_some, hnext]
      by_cases h1 : 65 ≤ s[k]
      · rw [if_pos h1]
        by_cases h2 : s[k] ≤ 90
        · rw [if_pos (decide_eq_true h2), Option.bind_some, if_pos (ok_small (by omega)), show foldC s[k] = s[k] ||| 32 from if_pos ⟨h1, h2⟩, show ((k : Int)).toNat = k from rfl, hset]; rfl
        · rw [if_neg (by simpa using h2), if_pos (ok_small (by omega)), show foldC s[k] = s[k] from if_neg (fun hh => h2 hh.2), ← hsame]; rfl
      · rw [if_neg h1, if_neg (by decide), if_pos (ok_small (by omega)), show foldC s[k] = s[k] from if_neg (fun hh => h1 hh.1), ← hsame]; rfl
    rw [loopO_next hb]
    exact ih (k + 1) (by omega)
theorem label_fold {s : List UInt8} (hs : s.length ≤ 140737488355328) : M_label_Fold s = some (foldS s) := by
  unfold M_label_Fold
  have := fold_loop09 hs s.length 0 (by omega)
  rw [List.take_zero, List.map_nil, List.nil_append, List.drop_zero, show ((0 : Nat) : Int) = 0 from rfl] at this
  rw [if_pos hs, this]; rfl
theorem foldS_len (s : List UInt8) : (foldS s).length = s.length := by unfold foldS; rw [List.length_map]
/-! ### texts between points, byte by byte -/
/-- The texts between points; the first one has begun. -/
def spl (cur : List UInt8) : List UInt8 → List (List UInt8)
  | [] => [cur]
  | c :: t => if c = 46 then cur :: spl [] t else spl (cur ++ [c]) t
theorem spl_cut : ∀ (s cur : List UInt8), spl cur s = if 0 ≤ Lib.indexByte s 46 then (cur ++ s.take (Lib.indexByte s 46).toNat) :: spl [] (s.drop (Lib.indexByte s 46 + 1).toNat) else [cur ++ s]
  | [], cur => by simp [spl, Lib.indexByte]
  | c :: t, cur => by
    have h := spl_cut t (cur ++ [c])
    have hb := idx_lt t 46
    have e : Lib.indexByte (c :: t) 46 = if c = 46 then 0 else if Lib.indexByte t 46 = -1 then -1 else Lib.indexByte t 46 + 1 := by simp [Lib.indexByte]
    rw [e, spl]
    by_cases hc : c = 46
    · simp only [if_pos hc]; simp
    · simp only [if_neg hc]
      rw [h]
      by_cases hi : Lib.indexByte t 46 = -1
      · simp only [hi, reduceIte]; simp
      · simp only [if_neg hi]
        rw [if_pos (by omega), if_pos (by omega)]
        rw [show (Lib.indexByte t 46 + 1).toNat = (Lib.indexByte t 46).toNat + 1 by omega, show (Lib.indexByte t 46 + 1 + 1).toNat = (Lib.indexByte t 46).toNat + 1 + 1 by omega]
        simp
theorem partsF_spl : ∀ (n : Nat) (s : List UInt8), s.length ≤ n → partsF n s = spl [] s
  | 0, s, h => by
    have : s = [] := List.length_eq_zero_iff.1 (by omega)
    subst this; rfl
  | n + 1, s, h => by
    have hb := idx_lt s 46
    rw [spl_cut]
    unfold partsF cutS
    by_cases hi : 0 ≤ Lib.indexByte s 46
    · rw [if_pos hi, if_pos hi, if_pos rfl, partsF_spl n _ (by simp only [List.length_drop]; omega)]; rfl
    · rw [if_neg hi, if_neg hi, if_neg Bool.false_ne_true]; rfl
theorem partsS_spl (s : List UInt8) : partsS s = spl [] s := partsF_spl _ s (Nat.le_refl _)
theorem spl_count : ∀ (s cur : List UInt8), (spl cur s).length ≤ s.length + 1
  | [], cur => by simp [spl]
  | c :: t, cur => by
    unfold spl
    split
    · have := spl_count t []; simp only [List.length_cons]; omega
    · have := spl_count t (cur ++ [c]); simp only [List.length_cons]; omega
theorem partsS_count (s : List UInt8) : (partsS s).length ≤ s.length + 1 := by rw [partsS_spl]; exact spl_count s []
theorem part_len {p : List UInt8} (h : partS p = true) : 1 ≤ p.length ∧ p.length ≤ 63 := by
  unfold partS at h
  rw [Bool.and_eq_true, decide_eq_true_eq] at h
  exact h.1
theorem goodN_iff {s : List UInt8} : goodN s = true ↔ s.length ≤ 253 ∧ ∀ p ∈ partsS s, partS p = true := by
  unfold goodN
  rw [Bool.and_eq_true, decide_eq_true_eq, List.all_eq_true]
/-- The bytes of texts, each behind its length. -/
def wireL : List (List UInt8) → List UInt8
  | [] => []
  | p :: l => UInt8.ofInt (p.length : Int) :: p ++ wireL l
theorem wireL_fold : ∀ (l : List (List UInt8)) (o : List UInt8), l.foldl (fun o p => o ++ UInt8.ofInt (p.length : Int) :: p) o = o ++ wireL l
  | [], o => by simp [wireL]
  | p :: l, o => by
    rw [List.foldl_cons, wireL_fold l]; simp [wireL, List.append_assoc]
theorem wireL_len : ∀ (l : List (List UInt8)), (∀ p ∈ l, p.length ≤ 63) → (wireL l).length ≤ 64 * l.length
  | [], _ => by simp [wireL]
  | p :: l, h => by
    have := wireL_len l (fun q hq => h q (List.mem_cons_of_mem _ hq))
    have := h p (List.mem_cons_self ..)
    simp only [wireL, List.length_cons, List.length_append, List.cons_append]; omega
/-- A name's bytes. -/
def wireS (s : List UInt8) : List UInt8 := wireL (partsS s) ++ [0]
/-! ### signpostref09 -/
theorem ref09_parts_loop {s : List UInt8} (hs : s.length ≤ 1000000) : ∀ (d : Nat) (out : List (List UInt8)) (f i : Nat), s.length = i + d → f ≤ i → out.length ≤ i →
    loopO (fun z_ => M_signpostref09_Parts_b1 s z_.1 z_.2.1 z_.2.2) (out, (f : Int), (i : Int)) = some (out ++ spl ((s.take i).drop f) (s.drop i)) := by
  intro d
  induction d with
  | zero =>
    intro out f i h hf ho
    rw [loopO_next (s' := (out ++ [(s.take i).drop f], ((i + 1 : Nat) : Int), ((i + 1 : Nat) : Int))) (by
        show M_signpostref09_Parts_b1 s out (f : Int) (i : Int) = _
        unfold M_signpostref09_Parts_b1 M_signpostref09_Parts_k2
        rw [if_pos (by omega), if_pos (by omega), if_pos rfl, if_pos (by omega), if_pos (by omega), if_pos (ok_small (by omega)), if_pos (ok_small (by omega))]; rfl),
      loopO_end (r := out ++ [(s.take i).drop f]) (by show M_signpostref09_Parts_b1 s _ ((i + 1 : Nat) : Int) ((i + 1 : Nat) : Int) = _; unfold M_signpostref09_Parts_b1; rw [if_neg (by omega)]), List.drop_of_length_le (by omega : s.length ≤ i)]
    rfl
  | succ d ih =>
    intro out f i h hf ho
    have hk : i < s.length := by omega
    have hb : M_signpostref09_Parts_b1 s out (f : Int) (i : Int) = M_signpostref09_Parts_k2 (f : Int) (i : Int) out s (decide (s[i] = 46)) := by
      unfold M_signpostref09_Parts_b1
      rw [if_pos (by omega), if_neg (by omega), at?_in hk, Option.bind_some]
    rw [List.drop_eq_getElem_cons hk]
    unfold spl
    by_cases hc : s[i] = 46
    · rw [loopO_next (s' := (out ++ [(s.take i).drop f], ((i + 1 : Nat) : Int), ((i + 1 : Nat) : Int))) (by
        show M_signpostref09_Parts_b1 s out (f : Int) (i : Int) = _
        rw [hb, decide_eq_true hc]
        unfold M_signpostref09_Parts_k2
        rw [if_pos rfl, if_pos (by omega), if_pos (by omega), if_pos (ok_small (by omega)), if_pos (ok_small (by omega))]; rfl), ih _ _ _ (by omega) (Nat.le_refl _) (by simp; omega), if_pos hc, show (s.take (i + 1)).drop (i + 1) = [] from List.drop_of_length_le (by rw [List.length_take]; omega), List.append_assoc]
      rfl
    · rw [loopO_next (s' := (out, (f : Int), ((i + 1 : Nat) : Int))) (by
        show M_signpostref09_Parts_b1 s out (f : Int) (i : Int) = _
        rw [hb, decide_eq_false hc]
        unfold M_signpostref09_Parts_k2
        rw [if_neg (by decide), if_pos (ok_small (by omega))]; rfl), ih _ _ _ (by omega) (by omega) (by omega), if_neg hc,
        show (s.take (i + 1)).drop f = (s.take i).drop f ++ [s[i]] by
          rw [List.take_succ_eq_append_getElem hk, List.drop_append_of_le_length (by rw [List.length_take]; omega)]]
theorem ref09_parts {s : List UInt8} (hs : s.length ≤ 1000000) : M_signpostref09_Parts s = some (partsS s) := by
  unfold M_signpostref09_Parts
  have := ref09_parts_loop hs s.length [] 0 0 (by omega) (by omega) (by simp)
  rw [show ((0 : Nat) : Int) = 0 from rfl] at this
  rw [this, Option.bind_some, partsS_spl]
  rfl
theorem ref09_part_step {s : List UInt8} {k : Nat} (hs : s.length ≤ 140737488355328) (hk : k < s.length) : M_signpostref09_Part_b1 s (k : Int) = if plainS s[k] = true then some (.inl ((k : Int) + 1)) else some (.inr (.inr false)) := by
  have hp := label_plain s[k]
  unfold M_label_plain M_label_plain_k1 M_label_plain_k2 at hp
  unfold M_signpostref09_Part_b1 M_signpostref09_letter M_signpostref09_Part_k3 M_signpostref09_Part_k2
  rw [if_pos (by omega), at?_in hk]
  simp only [Option.bind_some]
  rw [if_pos (ok_small (by omega))]
  by_cases h1 : 97 ≤ s[k] <;> by_cases h2 : s[k] ≤ 122 <;> by_cases h3 : 65 ≤ s[k] <;> by_cases h4 : s[k] ≤ 90 <;> by_cases h5 : 48 ≤ s[k] <;> by_cases h6 : s[k] ≤ 57 <;> by_cases h7 : s[k] = 45 <;>
    simp only [h1, h2, h3, h4, h5, h6, h7, if_true, if_false, Option.some.injEq] at hp <;>
    simp only [h1, h2, h3, h4, h5, h6, h7, ← hp, if_true, if_false, Option.bind_some, decide_true, decide_false, Bool.false_eq_true, Bool.not_eq_true', decide_eq_false_iff_not, decide_eq_true_eq, Bool.not_true, Bool.not_false, reduceIte] <;> (try split) <;> simp_all
theorem ref09_part_loop {s : List UInt8} (hs : s.length ≤ 140737488355328) : ∀ (d k : Nat), s.length = k + d →
    loopO (fun z_ => M_signpostref09_Part_b1 s z_) (k : Int) = some (if (s.drop k).all plainS = true then .inl () else .inr false) := by
  intro d
  induction d with
  | zero =>
    intro k h
    rw [loopO_end (r := .inl ()) (by unfold M_signpostref09_Part_b1; rw [if_neg (by omega)]), List.drop_of_length_le (by omega)]; rfl
  | succ d ih =>
    intro k h
    have hk : k < s.length := by omega
    have hb := ref09_part_step hs hk
    rw [List.drop_eq_getElem_cons hk, List.all_cons]
    cases hp : plainS s[k] with
    | true => rw [loopO_next (s' := ((k + 1 : Nat) : Int)) (by show M_signpostref09_Part_b1 s (k : Int) = _; rw [hb, if_pos hp]; rfl), ih (k + 1) (by omega), Bool.true_and]
    | false => rw [loopO_end (r := .inr false) (by show M_signpostref09_Part_b1 s (k : Int) = _; rw [hb, if_neg (by rw [hp]; decide)])]; rfl
theorem ref09_part {s : List UInt8} (hs : s.length ≤ 140737488355328) : M_signpostref09_Part s = some (partS s) := by
  unfold M_signpostref09_Part
  have := ref09_part_loop hs s.length 0 (by omega)
  rw [show ((0 : Nat) : Int) = 0 from rfl, List.drop_zero] at this
  rw [this, Option.bind_some]
  unfold partS
  cases ha : s.all plainS with
  | false => simp
  | true =>
    rw [if_pos rfl]
    simp only []
    by_cases h1 : (1 : Int) ≤ s.length
    · rw [if_pos h1]
      by_cases h2 : (s.length : Int) ≤ 63
      · have h0 : 0 < s.length := by omega
        have hl : s.length - 1 < s.length := by omega
        rw [if_pos h2, decide_eq_true (by omega), show (0 : Int) = ((0 : Nat) : Int) from rfl, at?_in h0, Option.bind_some, if_pos (ok_small (by omega)),
          show (s.length : Int) - 1 = ((s.length - 1 : Nat) : Int) by omega, at?_in hl, Option.bind_some, List.getElem?_eq_getElem h0, List.getElem?_eq_getElem hl]
        by_cases h3 : s[0] = 45
        · rw [if_pos h3]; simp [h3]
        · rw [if_neg h3]; simp [h3]
      · rw [if_neg h2, decide_eq_false (by omega)]; rfl
    · rw [if_neg h1, decide_eq_false (by omega)]; rfl
theorem ref09_good_loop {l : List (List UInt8)} (hl : l.length ≤ 1000001) (h : ∀ p ∈ l, p.length ≤ 140737488355328) : ∀ (d k : Nat), l.length = k + d →
    loopO (fun z_ => M_signpostref09_Good_b1 l z_) (k : Int) = some (if (l.drop k).all partS = true then .inl () else .inr false) := by
  intro d
  induction d with
  | zero =>
    intro k h
    rw [loopO_end (r := .inl ()) (by unfold M_signpostref09_Good_b1; rw [if_neg (by omega)]), List.drop_of_length_le (by omega)]; rfl
  | succ d ih =>
    intro k h1
    have hk : k < l.length := by omega
    have hb : M_signpostref09_Good_b1 l (k : Int) = if partS l[k] = true then some (.inl ((k : Int) + 1)) else some (.inr (.inr false)) := by
      unfold M_signpostref09_Good_b1
      rw [if_pos (by omega), at?_in hk, Option.bind_some, ref09_part (h _ (List.getElem_mem hk)), Option.bind_some, if_pos (ok_small (by omega))]
    rw [List.drop_eq_getElem_cons hk, List.all_cons]
    cases hp : partS l[k] with
    | true => rw [loopO_next (s' := ((k + 1 : Nat) : Int)) (by show M_signpostref09_Good_b1 l (k : Int) = _; rw [hb, if_pos hp]; rfl), ih (k + 1) (by omega), Bool.true_and]
    | false => rw [loopO_end (r := .inr false) (by show M_signpostref09_Good_b1 l (k : Int) = _; rw [hb, if_neg (by rw [hp]; decide)])]; rfl
theorem ref09_good {s : List UInt8} (hs : s.length ≤ 1000000) : M_signpostref09_Good s = some (goodN s) := by
  have hc := partsS_count s
  unfold M_signpostref09_Good
  have := ref09_good_loop (l := partsS s) (by omega) (fun p hp => by have := partsF_len _ _ p hp; omega) (partsS s).length 0 (by omega)
  rw [show ((0 : Nat) : Int) = 0 from rfl, List.drop_zero] at this
  rw [ref09_parts hs, Option.bind_some, this, Option.bind_some]
  unfold goodN
  cases (partsS s).all partS with
  | false => simp
  | true =>
    rw [if_pos rfl]
    simp only []
    rw [if_pos (ok_small (by omega)), Bool.and_true]
    exact congrArg some (decide_eq_decide.2 (by omega))
theorem fold09_byte (c : UInt8) (h1 : 65 ≤ c) (h2 : c ≤ 90) : c + 97 - 65 = c ||| 32 := by
  have key : ∀ n : Fin 256, 65 ≤ n.val → n.val ≤ 90 → UInt8.ofNat n.val + 97 - 65 = UInt8.ofNat n.val ||| 32 := by decide +kernel
  have hc := c.toNat_lt
  have := key ⟨c.toNat, hc⟩ (UInt8.le_iff_toNat_le.1 h1) (UInt8.le_iff_toNat_le.1 h2)
  simpa using this
theorem ref09_fold_loop {s : List UInt8} (hs : s.length ≤ 140737488355328) : ∀ (d k : Nat), s.length = k + d →
    loopO (fun z_ => M_signpostref09_Fold_b1 s z_.1 z_.2) ((s.take k).map foldC ++ s.drop k, (k : Int)) = some (foldS s) := by
  intro d
  induction d with
  | zero =>
    intro k h
    rw [loopO_end (r := (s.take k).map foldC ++ s.drop k) (by unfold M_signpostref09_Fold_b1; rw [if_neg (by omega)]), List.drop_of_length_le (by omega), List.take_of_length_le (by omega), List.append_nil]; rfl
  | succ d ih =>
    intro k h
    have hk : k < s.length := by omega
    have hlen : ((s.take k).map foldC).length = k := by rw [List.length_map, List.length_take]; omega
    have hx : at? ((s.take k).map foldC ++ s.drop k) (k : Int) = some s[k] := by
      rw [at?_nat, List.getElem?_append_right (by omega), hlen, Nat.sub_self, List.getElem?_drop, Nat.add_zero, List.getElem?_eq_getElem hk]
    have hset : ∀ c : UInt8, ((s.take k).map foldC ++ s.drop k).set k c = (s.take k).map foldC ++ c :: s.drop (k + 1) := by
      intro c
      rw [List.set_append_right _ _ (by omega), hlen, Nat.sub_self, List.drop_eq_getElem_cons hk]; rfl
    have hnext : (s.take (k + 1)).map foldC ++ s.drop (k + 1) = (s.take k).map foldC ++ foldC s[k] :: s.drop (k + 1) := by
      rw [List.take_succ_eq_append_getElem hk, List.map_append, List.append_assoc]; rfl
    have hsame : (s.take k).map foldC ++ s.drop k = (s.take k).map foldC ++ s[k] :: s.drop (k + 1) := by rw [← List.drop_eq_getElem_cons hk]
    have hb : M_signpostref09_Fold_b1 s ((s.take k).map foldC ++ s.drop k) (k : Int) = some (.inl ((s.take (k + 1)).map foldC ++ s.drop (k + 1), ((k + 1 : Nat) : Int))) := by
      unfold M_signpostref09_Fold_b1 M_signpostref09_Fold_k2
      rw [if_pos (by omega), hx, Option.bind_some, hnext]
      by_cases h1 : 65 ≤ s[k]
      · rw [if_pos h1]
        by_cases h2 : s[k] ≤ 90
        · rw [if_pos (decide_eq_true h2), Option.bind_some, if_pos (ok_small (by omega)), fold09_byte _ h1 h2, show foldC s[k] = s[k] ||| 32 from if_pos ⟨h1, h2⟩, show ((k : Int)).toNat = k from rfl, hset]; rfl
        · rw [if_neg (by simpa using h2), if_pos (ok_small (by omega)), show foldC s[k] = s[k] from if_neg (fun hh => h2 hh.2), ← hsame]; rfl
      · rw [if_neg h1, if_neg (by decide), if_pos (ok_small (by omega)), show foldC s[k] = s[k] from if_neg (fun hh => h1 hh.1), ← hsame]; rfl
    rw [loopO_next hb]
    exact ih (k + 1) (by omega)
theorem ref09_fold {s : List UInt8} (hs : s.length ≤ 140737488355328) : M_signpostref09_Fold s = some (foldS s) := by
  unfold M_signpostref09_Fold
  have := ref09_fold_loop hs s.length 0 (by omega)
  rw [List.take_zero, List.map_nil, List.nil_append, List.drop_zero, show ((0 : Nat) : Int) = 0 from rfl] at this
  rw [if_pos hs, this]; rfl
/-! ### octet -/
theorem octet_may (w : Int) : M_octet_may w = some (decide (1 ≤ w ∧ w ≤ 8)) := by
  unfold M_octet_may
  by_cases h : 1 ≤ w <;> simp [h]
/-- The number that stands at a place. -/
def getS (b : List UInt8) (a w : Int) : UInt64 × Bool := if (1 ≤ w ∧ w ≤ 8) ∧ 0 ≤ a ∧ a + w ≤ b.length then (num ((b.drop a.toNat).take w.toNat), true) else (0, false)
theorem octet_get {b : List UInt8} {a w : Int} (hb : b.length ≤ 4611686018427387904) : M_octet_Get_v b a w = some (getS b a w) := by
  have hk : ∀ t, M_octet_Get_v_k1 a b w t = if t = true then some (0, false) else if (0 ≤ a ∧ 0 ≤ w) ∧ a + w ≤ b.length then some (num ((b.drop a.toNat).take w.toNat), true) else M_octet_Get_v_k1 a b w t := by
    intro t
    by_cases ht : t = true
    · subst ht; rfl
    · rw [if_neg ht]
      by_cases h : (0 ≤ a ∧ 0 ≤ w) ∧ a + w ≤ b.length
      · rw [if_pos h]
        unfold M_octet_Get_v_k1
        have e : (b.take (a + w).toNat).drop a.toNat = (b.drop a.toNat).take w.toNat := by
          rw [List.drop_take]; congr 1; omega
        rw [if_neg ht, if_pos (ok_small (by omega)), if_pos (by omega), loop_fold0 ((b.drop a.toNat).take w.toNat) (fun n x => n * 256 + x.toUInt64) (by simp; omega)]
        · rfl
        · intro s t
          unfold M_octet_Get_v_b2
          rw [e]
          simp only [shl_or]
      · rw [if_neg h]
  unfold M_octet_Get_v
  rw [octet_may, Option.bind_some]
  unfold getS
  by_cases h1 : 1 ≤ w ∧ w ≤ 8
  · rw [if_pos (decide_eq_true h1)]
    by_cases h2 : a < 0
    · rw [if_pos h2, hk, if_pos rfl, if_neg (by omega)]
    · rw [if_neg h2]
      by_cases h3 : (b.length : Int) < a
      · rw [if_pos h3, hk, if_pos rfl, if_neg (by omega)]
      · rw [if_neg h3, if_pos (ok_small (by omega)), hk]
        by_cases h4 : (b.length : Int) - a < w
        · rw [if_pos (decide_eq_true h4), if_neg (by omega)]
        · rw [if_neg (by simpa using h4), if_pos (by omega), if_pos (by omega)]
  · rw [if_neg (by simpa using h1), hk, if_pos rfl, if_neg (by simp [h1])]
/-! ### octet.Reader -/
/-- What a reader of these bytes tells next, and what is left. -/
def takeS (r : List UInt8) (bad : Bool) (n : Int) : List UInt8 × List UInt8 × Bool := if bad = true ∨ n < 0 ∨ (r.length : Int) < n then ([], [], true) else (r.take n.toNat, r.drop n.toNat, bad)
def numS (r : List UInt8) (bad : Bool) (w : Int) : UInt64 × List UInt8 × Bool := if bad = true ∨ ¬ (1 ≤ w ∧ w ≤ 8) ∨ (r.length : Int) < w then (0, [], true) else (num (r.take w.toNat), r.drop w.toNat, bad)
theorem octet_cut (r : List UInt8) (o bad : Bool) (n : Int) : M_octet_rest_cut_po r o bad n = some (if bad = true ∨ n < 0 ∨ (r.length : Int) < n then .inl () else .inr ()) := by
  have h1 : M_octet_rest_cut_po_k1 r bad n o true = some (.inl ()) := rfl
  unfold M_octet_rest_cut_po
  by_cases hb : bad = true
  · rw [if_pos hb, h1, if_pos (.inl hb)]
  · rw [if_neg hb]
    by_cases hn : n < 0
    · rw [if_pos hn, h1, if_pos (.inr (.inl hn))]
    · rw [if_neg hn]
      by_cases hl : (r.length : Int) < n
      · rw [decide_eq_true hl, h1, if_pos (.inr (.inr hl))]
      · rw [decide_eq_false hl, if_neg (by simp [hb, hn, hl])]
        unfold M_octet_rest_cut_po_k1
        rw [if_neg (by decide), if_pos (by omega), if_pos (by omega)]
theorem octet_take {r : List UInt8} {bad : Bool} {n : Int} (hr : r.length ≤ 140737488355328) : M_octet_Reader_Take_po r true bad n = some (takeS r bad n) := by
  unfold M_octet_Reader_Take_po M_octet_Reader_none_po takeS
  rw [Option.bind_some, if_pos rfl, octet_cut, Option.bind_some]
  by_cases h : bad = true ∨ n < 0 ∨ (r.length : Int) < n
  · simp only [if_pos h]
  · simp only [if_neg h]
    rw [if_pos (by rw [List.length_take]; omega)]; rfl
theorem takeS_len (r : List UInt8) (bad : Bool) (n : Int) : (takeS r bad n).2.1.length ≤ r.length := by
  unfold takeS; split <;> simp
theorem numS_len (r : List UInt8) (bad : Bool) (n : Int) : (numS r bad n).2.1.length ≤ r.length := by
  unfold numS; split <;> simp
theorem takeS_suffix (r : List UInt8) (bad : Bool) (n : Int) : (takeS r bad n).2.1 <:+ r := by
  unfold takeS; split
  · exact List.nil_suffix
  · exact List.drop_suffix _ _
theorem numS_suffix (r : List UInt8) (bad : Bool) (n : Int) : (numS r bad n).2.1 <:+ r := by
  unfold numS; split
  · exact List.nil_suffix
  · exact List.drop_suffix _ _
theorem octet_num {r : List UInt8} {bad : Bool} {w : Int} (hr : r.length ≤ 140737488355328) : M_octet_Reader_Num_po r true bad w = some (numS r bad w) := by
  unfold M_octet_Reader_Num_po M_octet_Reader_none_po numS
  rw [Option.bind_some, if_pos rfl, octet_may, Option.bind_some]
  by_cases h1 : 1 ≤ w ∧ w ≤ 8
  · rw [if_pos (decide_eq_true h1), octet_cut, Option.bind_some]
    by_cases h : bad = true ∨ w < 0 ∨ (r.length : Int) < w
    · simp only [if_pos h]
      rw [if_pos (by rcases h with h | h | h; · exact .inl h
                     · omega
                     · exact .inr (.inr h))]
    · simp only [if_neg h]
      rw [octet_get (by rw [List.length_take]; omega), Option.bind_some, if_neg (by simp only [not_or] at h ⊢; exact ⟨h.1, fun hh => hh h1, h.2.2⟩)]
      unfold getS
      rw [if_pos ⟨h1, by omega, by rw [List.length_take]; omega⟩]
      simp [List.take_take]
  · rw [if_neg (by simpa using h1), if_pos (.inr (.inl h1))]
    rfl
/-! ### signpostref01 -/
theorem ref01_loop {b : List UInt8} {a w : Nat} (hb : b.length ≤ 4611686018427387904) (h : a + w ≤ b.length) : ∀ (d k : Nat) (s : UInt64), w = k + d →
    loopO (fun z_ => M_signpostref01_Get_v_b2 (a : Int) b (w : Int) z_.1 z_.2) (s, (k : Int)) = some ((((b.drop a).take w).drop k).foldl (fun n x => n * 256 + x.toUInt64) s) := by
  intro d
  induction d with
  | zero =>
    intro k s hk
    rw [loopO_end (r := s) (by simp only [M_signpostref01_Get_v_b2]; rw [if_neg (by omega)]), List.drop_of_length_le (by simp; omega)]; rfl
  | succ d ih =>
    intro k s hk
    have hlen : ((b.drop a).take w).length = w := by rw [List.length_take, List.length_drop]; omega
    have hx : at? b ((a : Int) + (k : Int)) = some ((b.drop a).take w)[k] := by
      have := at?_in (l := b) (k := a + k) (by omega)
      rw [Int.natCast_add] at this
      rw [this]; simp
    rw [loopO_next (s' := (s * 256 + (((b.drop a).take w)[k]).toUInt64, ((k + 1 : Nat) : Int))) (by
      simp only [M_signpostref01_Get_v_b2]
      rw [if_pos (by omega), if_pos (ok_small (by omega)), hx, Option.bind_some, if_pos (ok_small (by omega))]; rfl), ih (k + 1) _ (by omega), List.drop_eq_getElem_cons (i := k) (by omega)]
    rfl
theorem ref01_get {b : List UInt8} {a w : Int} (hb : b.length ≤ 4611686018427387904) : M_signpostref01_Get_v b a w = some (getS b a w) := by
  have hk0 : M_signpostref01_Get_v_k1 a b w true = some (0, false) := rfl
  unfold M_signpostref01_Get_v getS
  by_cases h1 : w < 1
  · rw [if_pos h1, hk0, if_neg (by omega)]
  · rw [if_neg h1]
    by_cases h2 : 8 < w
    · rw [if_pos h2, hk0, if_neg (by omega)]
    · rw [if_neg h2]
      by_cases h3 : a < 0
      · rw [if_pos h3, hk0, if_neg (by omega)]
      · rw [if_neg h3]
        by_cases h4 : (b.length : Int) < a
        · rw [if_pos h4, hk0, if_neg (by omega)]
        · rw [if_neg h4, if_pos (ok_small (by omega))]
          by_cases h5 : (b.length : Int) - a < w
          · rw [decide_eq_true h5, hk0, if_neg (by omega)]
          · rw [decide_eq_false h5, if_pos (by omega)]
            obtain ⟨a', rfl⟩ : ∃ n : Nat, a = n := ⟨a.toNat, by omega⟩
            obtain ⟨w', rfl⟩ : ∃ n : Nat, w = n := ⟨w.toNat, by omega⟩
            unfold M_signpostref01_Get_v_k1
            rw [if_neg (by decide)]
            have := ref01_loop (a := a') (w := w') hb (by omega) w' 0 0 (by omega)
            rw [show ((0 : Nat) : Int) = 0 from rfl] at this
            rw [this]
            rfl
/-- Where a reader of the reference stands, if this is left. -/
def refAt (B r : List UInt8) : Int := (B.length : Int) - r.length
theorem refAt_drop {B r : List UInt8} (h : r <:+ B) : B.drop (refAt B r).toNat = r ∧ 0 ≤ refAt B r ∧ refAt B r ≤ B.length := by
  obtain ⟨p, rfl⟩ := h
  unfold refAt
  rw [List.length_append]
  have : ((p.length + r.length : Nat) : Int) - r.length = p.length := by omega
  rw [this]
  refine ⟨?_, by omega, by omega⟩
  simp
theorem ref01_take {B r : List UInt8} {bad : Bool} {n : Int} (hB : B.length ≤ 140737488355328) (hr : r <:+ B) (hn : n ≤ 9223372036854775807) :
    M_signpostref01_Reader_Take_pv B (refAt B r) bad n = some ((takeS r bad n).1, refAt B (takeS r bad n).2.1, (takeS r bad n).2.2) := by
  obtain ⟨h1, h2, h3⟩ := refAt_drop hr
  have hk : ∀ A, M_signpostref01_Reader_Take_pv_k1 A B bad n true = some ([], (B.length : Int), true) := fun A => rfl
  have e0 : refAt B [] = B.length := by simp [refAt]
  have e1 : (B.length : Int) - refAt B r = r.length := by unfold refAt; omega
  unfold M_signpostref01_Reader_Take_pv takeS
  by_cases hb : bad = true
  · rw [if_pos hb, hk, if_pos (.inl hb), e0]
  · rw [if_neg hb]
    by_cases hn0 : n < 0
    · rw [if_pos hn0, hk, if_pos (.inr (.inl hn0)), e0]
    · rw [if_neg hn0, e1, if_pos (ok_small (by have := hr.length_le; omega))]
      by_cases hl : (r.length : Int) < n
      · rw [decide_eq_true hl, hk, if_pos (.inr (.inr hl)), e0]
      · rw [decide_eq_false hl, if_neg (by simp [hb, hn0, hl])]
        unfold M_signpostref01_Reader_Take_pv_k1
        have e2 : refAt B r + n - n = refAt B r := by omega
        have e3 : (B.take (refAt B r + n).toNat).drop (refAt B r).toNat = r.take n.toNat := by
          rw [List.drop_take, h1]; congr 1; omega
        have e4 : refAt B (r.drop n.toNat) = refAt B r + n := by
          unfold refAt; rw [List.length_drop]; omega
        rw [if_neg (by decide), if_pos (ok_small (by omega)), e2, if_pos (ok_small (by omega)), if_pos (by omega), e3, if_pos (by rw [List.length_take]; omega), e4]
        rfl
theorem ref01_num {B r : List UInt8} {bad : Bool} {w : Int} (hB : B.length ≤ 140737488355328) (hr : r <:+ B) :
    M_signpostref01_Reader_Num_pv B (refAt B r) bad w = some ((numS r bad w).1, refAt B (numS r bad w).2.1, (numS r bad w).2.2) := by
  obtain ⟨h1, h2, h3⟩ := refAt_drop hr
  have hk : ∀ A b u, M_signpostref01_Reader_Num_pv_k1 A B b u w true = some (0, (B.length : Int), true) := fun A b u => rfl
  have e0 : refAt B [] = B.length := by simp [refAt]
  have e1 : (B.length : Int) - refAt B r = r.length := by unfold refAt; omega
  unfold M_signpostref01_Reader_Num_pv numS
  rw [ref01_get (by omega), Option.bind_some]
  unfold getS
  by_cases hb : bad = true
  · simp only [if_pos hb, hk]
    rw [if_pos (.inl hb), e0]
  · by_cases hg : (1 ≤ w ∧ w ≤ 8) ∧ 0 ≤ refAt B r ∧ refAt B r + w ≤ B.length
    · simp only [if_pos hg, if_neg hb]
      rw [if_neg (by simp only [not_or]; exact ⟨hb, fun h => h hg.1, by omega⟩)]
      unfold M_signpostref01_Reader_Num_pv_k1
      have e4 : refAt B (r.drop w.toNat) = refAt B r + w := by
        unfold refAt; rw [List.length_drop]; omega
      rw [if_neg (by decide), if_pos (ok_small (by omega)), h1, e4]
    · simp only [if_neg hg, if_neg hb, Bool.not_false, hk]
      rw [if_pos (by
        by_cases hw : 1 ≤ w ∧ w ≤ 8
        · exact .inr (.inr (by omega))
        · exact .inr (.inl hw)), e0]
/-! ### instances -/
noncomputable def goodI (i : G_api_Instance) : Bool := decide (1 ≤ i.Life ∧ i.Life ≤ 2147483647) && (if i.Gone = true then decide (i.Priority = 0 ∧ i.Weight = 0 ∧ i.Port = 0 ∧ i.Target = []) else !decide (i.Port = 0) && (goodN i.Target && decide (foldS i.Target = i.Target)))
theorem inst_good {i : G_api_Instance} (h : i.Target.length ≤ 140737488355328) : M_inst_Good i = some (goodI i) := by
  have hk1 : M_inst_Good_k1 i true = some false := rfl
  have hm : i.Target.length ≤ maxLen := by simp only [maxLen]; omega
  unfold M_inst_Good goodI
  by_cases h1 : i.Life < 1
  · rw [if_pos h1, hk1, decide_eq_false (fun hh => absurd h1 (UInt32.not_lt.2 hh.1))]; rfl
  · rw [if_neg h1]
    by_cases h2 : 2147483647 < i.Life
    · rw [decide_eq_true h2, hk1, decide_eq_false (fun hh => absurd h2 (UInt32.not_lt.2 hh.2))]; rfl
    · rw [decide_eq_false h2, decide_eq_true ⟨UInt32.not_lt.1 h1, UInt32.not_lt.1 h2⟩, Bool.true_and]
      unfold M_inst_Good_k1
      rw [if_neg (by decide)]
      by_cases hg : i.Gone = true
      · rw [if_pos hg, if_pos hg, if_pos hm]
        refine congrArg some (decide_eq_decide.2 ?_)
        cases i
        simp only [G_api_Instance.mk.injEq, true_and]
        constructor
        · rintro ⟨a, b, c, d⟩; exact ⟨a.symm, b.symm, c.symm, d.symm⟩
        · rintro ⟨a, b, c, d⟩; exact ⟨a.symm, b.symm, c.symm, d.symm⟩
      · rw [if_neg hg, if_neg hg]
        by_cases hp : i.Port = 0
        · rw [if_pos hp, decide_eq_true hp]; rfl
        · rw [if_neg hp, decide_eq_false hp, label_good h, Option.bind_some]
          cases goodN i.Target with
          | false => rfl
          | true => rw [if_pos rfl, label_fold h, Option.bind_some]; rfl
/-- What a target may at most be. -/
theorem goodI_len {i : G_api_Instance} (h : goodI i = true) : i.Target.length ≤ 253 := by
  unfold goodI at h
  rw [Bool.and_eq_true] at h
  by_cases hg : i.Gone = true
  · rw [if_pos hg] at h
    rw [(of_decide_eq_true h.2).2.2.2]; simp
  · rw [if_neg hg, Bool.and_eq_true, Bool.and_eq_true] at h
    exact (goodN_iff.1 h.2.2.1).1
/-! ### signpostref11 -/
theorem ref11_good {i : G_api_Instance} (h : i.Target.length ≤ 1000000) : M_signpostref11_Good i = some (goodI i) := by
  have hk1 : M_signpostref11_Good_k1 i true = some false := rfl
  unfold M_signpostref11_Good goodI
  by_cases h1 : i.Life < 1
  · rw [if_pos h1, hk1, decide_eq_false (fun hh => absurd h1 (UInt32.not_lt.2 hh.1))]; rfl
  · rw [if_neg h1]
    by_cases h2 : 2147483647 < i.Life
    · rw [decide_eq_true h2, hk1, decide_eq_false (fun hh => absurd h2 (UInt32.not_lt.2 hh.2))]; rfl
    · rw [decide_eq_false h2, decide_eq_true ⟨UInt32.not_lt.1 h1, UInt32.not_lt.1 h2⟩, Bool.true_and]
      unfold M_signpostref11_Good_k1 M_signpostref11_Good_k2
      rw [if_neg (by decide)]
      by_cases hg : i.Gone = true
      · rw [if_pos hg, if_pos hg]
        by_cases h3 : i.Priority = 0
        · by_cases h4 : i.Weight = 0
          · by_cases h5 : i.Port = 0
            · simp [h3, h4, h5]
            · simp [h3, h4, h5]
          · simp [h3, h4]
        · simp [h3]
      · rw [if_neg hg, if_neg hg]
        by_cases hp : i.Port = 0
        · rw [if_pos hp, decide_eq_true hp]; rfl
        · rw [if_neg hp, decide_eq_false hp, ref09_good h, Option.bind_some]
          cases goodN i.Target with
          | false => rfl
          | true => rw [if_pos rfl, ref09_fold (by omega), Option.bind_some]; rfl
/-! ### instances, read -/
/-- A reader's text. -/
def textS (r : List UInt8) (bad : Bool) (most : Int) : List UInt8 × List UInt8 × Bool :=
  if (numS r bad 2).2.2 = true ∨ most < ((numS r bad 2).1.toNat : Int) ∨ 1024 < ((numS r bad 2).1.toNat : Int) then ([], [], true) else takeS (numS r bad 2).2.1 (numS r bad 2).2.2 ((numS r bad 2).1.toNat : Int)
theorem num_small : ∀ (l : List UInt8) (s : UInt64), l.length ≤ 2 → s.toNat < 65536 → l.length = 2 → (l.foldl (fun n x => n * 256 + x.toUInt64) s).toNat < 9223372036854775808
  | [a, b], s, _, hs, _ => by
    have ha := a.toNat_lt
    have hb := b.toNat_lt
    simp only [List.foldl_cons, List.foldl_nil, UInt64.toNat_add, UInt64.toNat_mul, UInt8.toNat_toUInt64, show (256 : UInt64).toNat = 256 from rfl]
    omega
theorem numS_two (r : List UInt8) (bad : Bool) : (numS r bad 2).1.toNat < 9223372036854775808 := by
  unfold numS
  split
  · decide
  · rename_i h
    simp only [not_or] at h
    have hl : (r.take (2 : Int).toNat).length = 2 := by rw [List.length_take]; omega
    exact num_small _ 0 (by omega) (by decide) hl
theorem octet_rtext {r : List UInt8} {bad : Bool} {most : Int} (hr : r.length ≤ 140737488355328) : M_octet_Reader_Text_po r true bad most = some (textS r bad most) := by
  have hn := numS_len r bad 2
  have h2 := numS_two r bad
  unfold M_octet_Reader_Text_po M_octet_Reader_none_po textS
  rw [some_bindP, if_pos rfl, octet_num hr, some_bindP]
  generalize numS r bad 2 = x at hn h2 ⊢
  obtain ⟨n, r', b'⟩ := x
  have hk : M_octet_Reader_Text_po_k1 true n r' b' true = some ([], [], true) := rfl
  simp only [] at hn h2 ⊢
  rw [if_pos h2]
  by_cases h3 : b' = true
  · rw [if_pos h3, hk, if_pos (.inl h3)]
  · rw [if_neg h3]
    by_cases h4 : most < (n.toNat : Int)
    · rw [if_pos h4, hk, if_pos (.inr (.inl h4))]
    · rw [if_neg h4]
      by_cases h5 : 1024 < (n.toNat : Int)
      · rw [decide_eq_true h5, hk, if_pos (.inr (.inr h5))]
      · rw [decide_eq_false h5, if_neg (by simp only [not_or]; exact ⟨h3, h4, h5⟩)]
        unfold M_octet_Reader_Text_po_k1
        rw [if_neg (by decide), octet_take (by omega)]; rfl
theorem textS_suffix (r : List UInt8) (bad : Bool) (n : Int) : (textS r bad n).2.1 <:+ r := by
  unfold textS; split
  · exact List.nil_suffix
  · exact (takeS_suffix _ _ _).trans (numS_suffix _ _ _)
theorem textS_len (r : List UInt8) (bad : Bool) (n : Int) : (textS r bad n).1.length ≤ r.length := by
  unfold textS; split
  · simp
  · have := numS_len r bad 2
    unfold takeS; split
    · simp
    · rw [List.length_take]; omega
/-- What is read, as fields; the number that tells whether it is gone; what is left. -/
def fieldsI (r : List UInt8) (bad : Bool) : G_api_Instance × UInt64 × List UInt8 × Bool :=
  let a := takeS r bad 20
  let b := numS a.2.1 a.2.2 8
  let c := numS b.2.1 b.2.2 8
  let d := numS c.2.1 c.2.2 4
  let e := numS d.2.1 d.2.2 1
  if e.1 = 0 then
    let f := numS e.2.1 e.2.2 2
    let g := numS f.2.1 f.2.2 2
    let h := numS g.2.1 g.2.2 2
    let t := textS h.2.1 h.2.2 1024
    (G_api_Instance.mk (copyA (fun _ => 0) a.1) b.1 c.1 d.1.toUInt32 (decide (e.1 = 1)) f.1.toUInt16 g.1.toUInt16 h.1.toUInt16 t.1, e.1, t.2.1, t.2.2)
  else (G_api_Instance.mk (copyA (fun _ => 0) a.1) b.1 c.1 d.1.toUInt32 (decide (e.1 = 1)) 0 0 0 [], e.1, e.2.1, e.2.2)
def noneI : G_api_Instance := G_api_Instance.mk (fun _ => 0) 0 0 0 false 0 0 0 []
noncomputable def readI (r : List UInt8) (bad : Bool) : G_api_Instance × Bool × List UInt8 × Bool :=
  if (fieldsI r bad).2.2.2 = true ∨ 1 < (fieldsI r bad).2.1 ∨ goodI (fieldsI r bad).1 = false then (noneI, false, [], true) else ((fieldsI r bad).1, true, (fieldsI r bad).2.2.1, (fieldsI r bad).2.2.2)
theorem take_back (r : List UInt8) (bad : Bool) : takeS r bad (-1) = ([], [], true) := by unfold takeS; rw [if_pos (.inr (.inl (by decide)))]
theorem read_k1 {r : List UInt8} {bad : Bool} {i : G_api_Instance} {n : UInt64} (hr : r.length ≤ 140737488355328) (hi : i.Target.length ≤ 140737488355328) :
    M_inst_Read_po_k1 true n r bad i = some (if bad = true ∨ 1 < n ∨ goodI i = false then (noneI, false, [], true) else (i, true, r, bad)) := by
  have hk : M_inst_Read_po_k2 r bad i true true = some (noneI, false, [], true) := by
    unfold M_inst_Read_po_k2
    rw [if_pos rfl, octet_take hr, take_back, some_bindP]; rfl
  unfold M_inst_Read_po_k1 M_octet_Reader_Bad_po M_octet_Reader_none_po
  rw [some_bindP, if_pos rfl, some_bindP]
  by_cases h1 : bad = true
  · rw [if_pos h1, hk, if_pos (.inl h1)]
  · rw [if_neg h1]
    by_cases h2 : 1 < n
    · rw [if_pos h2, hk, if_pos (.inr (.inl h2))]
    · rw [if_neg h2, inst_good hi, some_bindP]
      cases h3 : goodI i with
      | false => rw [Bool.not_false, hk, if_pos (.inr (.inr rfl))]
      | true =>
        rw [Bool.not_true, if_neg (by simp only [not_or]; exact ⟨h1, h2, by decide⟩)]
        unfold M_inst_Read_po_k2
        rw [if_neg (by decide)]
theorem inst_read {r : List UInt8} {bad : Bool} (hr : r.length ≤ 140737488355328) : M_inst_Read_po r true bad = some (readI r bad) := by
  have l1 := takeS_len r bad 20
  unfold M_inst_Read_po readI fieldsI
  rw [octet_take hr, some_bindP]
  generalize takeS r bad 20 = a at l1 ⊢
  obtain ⟨a1, a2, a3⟩ := a
  simp only [] at l1 ⊢
  have l2 := numS_len a2 a3 8
  rw [octet_num (by omega), some_bindP]
  generalize numS a2 a3 8 = b at l2 ⊢
  obtain ⟨b1, b2, b3⟩ := b
  simp only [] at l2 ⊢
  have l3 := numS_len b2 b3 8
  rw [octet_num (by omega), some_bindP]
  generalize numS b2 b3 8 = c at l3 ⊢
  obtain ⟨c1, c2, c3⟩ := c
  simp only [] at l3 ⊢
  have l4 := numS_len c2 c3 4
  rw [octet_num (by omega), some_bindP]
  generalize numS c2 c3 4 = d at l4 ⊢
  obtain ⟨d1, d2, d3⟩ := d
  simp only [] at l4 ⊢
  have l5 := numS_len d2 d3 1
  rw [octet_num (by omega), some_bindP]
  generalize numS d2 d3 1 = e at l5 ⊢
  obtain ⟨e1, e2, e3⟩ := e
  simp only [] at l5 ⊢
  by_cases h0 : e1 = 0
  · simp only [if_pos h0]
    have l6 := numS_len e2 e3 2
    rw [octet_num (by omega), some_bindP]
    generalize numS e2 e3 2 = f at l6 ⊢
    obtain ⟨f1, f2, f3⟩ := f
    simp only [] at l6 ⊢
    have l7 := numS_len f2 f3 2
    rw [octet_num (by omega), some_bindP]
    generalize numS f2 f3 2 = g at l7 ⊢
    obtain ⟨g1, g2, g3⟩ := g
    simp only [] at l7 ⊢
    have l8 := numS_len g2 g3 2
    rw [octet_num (by omega), some_bindP]
    generalize numS g2 g3 2 = h at l8 ⊢
    obtain ⟨h1, h2, h3⟩ := h
    simp only [] at l8 ⊢
    have l9 := (textS_suffix h2 h3 1024).length_le
    have l10 := textS_len h2 h3 1024
    rw [octet_rtext (by omega), some_bindP]
    generalize textS h2 h3 1024 = t at l9 l10 ⊢
    obtain ⟨t1, t2, t3⟩ := t
    simp only [] at l9 l10 ⊢
    exact read_k1 (by omega) (by simp only []; omega)
  · simp only [if_neg h0]
    exact read_k1 (by omega) (by simp)
theorem ref01_rtext {B r : List UInt8} {bad : Bool} {most : Int} (hB : B.length ≤ 140737488355328) (hr : r <:+ B) :
    M_signpostref01_Reader_Text_pv B (refAt B r) bad most = some ((textS r bad most).1, refAt B (textS r bad most).2.1, (textS r bad most).2.2) := by
  have hn := numS_suffix r bad 2
  have h2 := numS_two r bad
  have e0 : refAt B [] = B.length := by simp [refAt]
  unfold M_signpostref01_Reader_Text_pv textS
  rw [ref01_num hB hr, some_bindP]
  generalize numS r bad 2 = x at hn h2 ⊢
  obtain ⟨n, r', b'⟩ := x
  have hk : M_signpostref01_Reader_Text_pv_k1 B n (refAt B r') b' true = some ([], (B.length : Int), true) := rfl
  simp only [] at hn h2 ⊢
  rw [if_pos h2]
  by_cases h3 : b' = true
  · rw [if_pos h3, hk, if_pos (.inl h3), e0]
  · rw [if_neg h3]
    by_cases h4 : most < (n.toNat : Int)
    · rw [if_pos h4, hk, if_pos (.inr (.inl h4)), e0]
    · rw [if_neg h4]
      by_cases h5 : 1024 < (n.toNat : Int)
      · rw [decide_eq_true h5, hk, if_pos (.inr (.inr h5)), e0]
      · rw [decide_eq_false h5, if_neg (by simp only [not_or]; exact ⟨h3, h4, h5⟩)]
        unfold M_signpostref01_Reader_Text_pv_k1
        rw [if_neg (by decide), ref01_take hB (hn.trans hr) (by omega)]; rfl
theorem readR_k1 {B r : List UInt8} {bad : Bool} {i : G_api_Instance} {n : UInt64} (hB : B.length ≤ 140737488355328) (hr : r <:+ B) (hi : i.Target.length ≤ 1000000) :
    M_signpostref11_Read_pv_k1 B n (refAt B r) bad i = some (if bad = true ∨ 1 < n ∨ goodI i = false then (noneI, false, refAt B [], true) else (i, true, refAt B r, bad)) := by
  have hk : M_signpostref11_Read_pv_k2 (refAt B r) B bad i true = some (noneI, false, refAt B [], true) := by
    unfold M_signpostref11_Read_pv_k2
    rw [if_pos rfl, ref01_take hB hr (by decide), take_back, some_bindP]; rfl
  unfold M_signpostref11_Read_pv_k1
  by_cases h1 : bad = true
  · rw [if_pos h1, hk, if_pos (.inl h1)]
  · rw [if_neg h1]
    by_cases h2 : 1 < n
    · rw [if_pos h2, hk, if_pos (.inr (.inl h2))]
    · rw [if_neg h2, ref11_good hi, some_bindP]
      cases h3 : goodI i with
      | false => rw [Bool.not_false, hk, if_pos (.inr (.inr rfl))]
      | true =>
        rw [Bool.not_true, if_neg (by simp only [not_or]; exact ⟨h1, h2, by decide⟩)]
        unfold M_signpostref11_Read_pv_k2
        rw [if_neg (by decide)]
theorem ref11_read {B r : List UInt8} {bad : Bool} (hB : B.length ≤ 1000000) (hr : r <:+ B) :
    M_signpostref11_Read_pv B (refAt B r) bad = some ((readI r bad).1, (readI r bad).2.1, refAt B (readI r bad).2.2.1, (readI r bad).2.2.2) := by
  have fin : ∀ (i : G_api_Instance) (n : UInt64) (r' : List UInt8) (b' : Bool), (if b' = true ∨ 1 < n ∨ goodI i = false then (noneI, false, refAt B [], true) else (i, true, refAt B r', b')) =
      ((if b' = true ∨ 1 < n ∨ goodI i = false then (noneI, false, [], true) else (i, true, r', b')).1, (if b' = true ∨ 1 < n ∨ goodI i = false then (noneI, false, [], true) else (i, true, r', b')).2.1,
        refAt B (if b' = true ∨ 1 < n ∨ goodI i = false then (noneI, false, [], true) else (i, true, r', b')).2.2.1, (if b' = true ∨ 1 < n ∨ goodI i = false then (noneI, false, [], true) else (i, true, r', b')).2.2.2) := by
    intro i n r' b'
    split <;> rfl
  have hB' : B.length ≤ 140737488355328 := by omega
  have l0 := hr.length_le
  have l1 := takeS_suffix r bad 20
  unfold M_signpostref11_Read_pv readI fieldsI
  rw [ref01_take hB' hr (by decide), some_bindP]
  generalize takeS r bad 20 = a at l1 ⊢
  obtain ⟨a1, a2, a3⟩ := a
  simp only [] at l1 ⊢
  have s1 := l1.trans hr
  have l2 := numS_suffix a2 a3 8
  rw [ref01_num hB' s1, some_bindP]
  generalize numS a2 a3 8 = b at l2 ⊢
  obtain ⟨b1, b2, b3⟩ := b
  simp only [] at l2 ⊢
  have s2 := l2.trans s1
  have l3 := numS_suffix b2 b3 8
  rw [ref01_num hB' s2, some_bindP]
  generalize numS b2 b3 8 = c at l3 ⊢
  obtain ⟨c1, c2, c3⟩ := c
  simp only [] at l3 ⊢
  have s3 := l3.trans s2
  have l4 := numS_suffix c2 c3 4
  rw [ref01_num hB' s3, some_bindP]
  generalize numS c2 c3 4 = d at l4 ⊢
  obtain ⟨d1, d2, d3⟩ := d
  simp only [] at l4 ⊢
  have s4 := l4.trans s3
  have l5 := numS_suffix d2 d3 1
  rw [ref01_num hB' s4, some_bindP]
  generalize numS d2 d3 1 = e at l5 ⊢
  obtain ⟨e1, e2, e3⟩ := e
  simp only [] at l5 ⊢
  have s5 := l5.trans s4
  by_cases h0 : e1 = 0
  · simp only [if_pos h0]
    have l6 := numS_suffix e2 e3 2
    rw [ref01_num hB' s5, some_bindP]
    generalize numS e2 e3 2 = f at l6 ⊢
    obtain ⟨f1, f2, f3⟩ := f
    simp only [] at l6 ⊢
    have s6 := l6.trans s5
    have l7 := numS_suffix f2 f3 2
    rw [ref01_num hB' s6, some_bindP]
    generalize numS f2 f3 2 = g at l7 ⊢
    obtain ⟨g1, g2, g3⟩ := g
    simp only [] at l7 ⊢
    have s7 := l7.trans s6
    have l8 := numS_suffix g2 g3 2
    rw [ref01_num hB' s7, some_bindP]
    generalize numS g2 g3 2 = h at l8 ⊢
    obtain ⟨h1, h2, h3⟩ := h
    simp only [] at l8 ⊢
    have s8 := l8.trans s7
    have l9 := textS_suffix h2 h3 1024
    have l10 := textS_len h2 h3 1024
    rw [ref01_rtext hB' s8, some_bindP]
    generalize textS h2 h3 1024 = t at l9 l10 ⊢
    obtain ⟨t1, t2, t3⟩ := t
    simp only [] at l9 l10 ⊢
    have s9 := l9.trans s8
    have := s8.length_le
    rw [readR_k1 hB' s9 (by simp only []; omega), fin]
  · simp only [if_neg h0]
    rw [readR_k1 hB' s5 (by simp), fin]
theorem ite_both {α : Type} {c : Prop} [Decidable c] {P : α → Prop} {x y : α} (hx : P x) (hy : P y) : P (if c then x else y) := by split <;> assumption
theorem readI_len (r : List UInt8) (bad : Bool) : (readI r bad).1.Target.length ≤ r.length ∧ (readI r bad).2.2.1 <:+ r := by
  have key : (fieldsI r bad).1.Target.length ≤ r.length ∧ (fieldsI r bad).2.2.1 <:+ r := by
    have l1 := takeS_suffix r bad 20
    unfold fieldsI
    simp only []
    generalize takeS r bad 20 = a at l1 ⊢
    have l2 := numS_suffix a.2.1 a.2.2 8
    generalize numS a.2.1 a.2.2 8 = b at l2 ⊢
    have l3 := numS_suffix b.2.1 b.2.2 8
    generalize numS b.2.1 b.2.2 8 = c at l3 ⊢
    have l4 := numS_suffix c.2.1 c.2.2 4
    generalize numS c.2.1 c.2.2 4 = d at l4 ⊢
    have l5 := numS_suffix d.2.1 d.2.2 1
    generalize numS d.2.1 d.2.2 1 = e at l5 ⊢
    have s5 := l5.trans (l4.trans (l3.trans (l2.trans l1)))
    have l6 := numS_suffix e.2.1 e.2.2 2
    generalize numS e.2.1 e.2.2 2 = f at l6 ⊢
    have l7 := numS_suffix f.2.1 f.2.2 2
    generalize numS f.2.1 f.2.2 2 = g at l7 ⊢
    have l8 := numS_suffix g.2.1 g.2.2 2
    generalize numS g.2.1 g.2.2 2 = h at l8 ⊢
    have s8 := l8.trans (l7.trans (l6.trans s5))
    have l9 := textS_suffix h.2.1 h.2.2 1024
    have l10 := textS_len h.2.1 h.2.2 1024
    generalize textS h.2.1 h.2.2 1024 = t at l9 l10 ⊢
    have := s8.length_le
    refine ite_both (P := fun x : G_api_Instance × UInt64 × List UInt8 × Bool => x.1.Target.length ≤ r.length ∧ x.2.2.1 <:+ r) ?_ ?_
    · exact ⟨Nat.le_trans l10 this, l9.trans s8⟩
    · exact ⟨Nat.zero_le _, s5⟩
  unfold readI
  exact ite_both (P := fun x : G_api_Instance × Bool × List UInt8 × Bool => x.1.Target.length ≤ r.length ∧ x.2.2.1 <:+ r) ⟨Nat.zero_le _, List.nil_suffix⟩ key
theorem compare_ltS : ∀ (a b : List UInt8), Lib.compareBytes a b = if ltS a b = true then -1 else if (ltS a b || decide (a = b)) = true then 0 else 1
  | [], [] => by decide
  | [], _ :: _ => by simp [Lib.compareBytes, ltS, Op.bytesLess]
  | _ :: _, [] => by simp [Lib.compareBytes, ltS, Op.bytesLess]
  | a :: x, b :: y => by
    have h := compare_ltS x y
    unfold ltS at h ⊢
    unfold Lib.compareBytes
    rw [Op.bytesLess]
    by_cases h1 : a < b
    · simp [h1]
    · by_cases h2 : b < a
      · have h3 : a ≠ b := fun e => by subst e; exact UInt8.lt_irrefl _ h2
        simp [h1, h2, h3]
      · have h3 : a = b := UInt8.le_antisymm (UInt8.not_lt.1 h2) (UInt8.not_lt.1 h1)
        subst h3
        simp [h1, h]
/-! ### rosters -/
theorem le_compare (a b : List UInt8) : (0 : Int) ≤ Lib.compareBytes a b ↔ ltS a b = false := by
  rw [compare_ltS]
  cases ltS a b with
  | true => simp
  | false =>
    simp only [Bool.false_eq_true, if_false, Bool.false_or]
    split <;> simp
theorem good_sim {l : List G_api_Instance} (hl : ∀ x ∈ l, x.Target.length ≤ 1000000) (hn : l.length ≤ 1000000) : ∀ (d k : Nat), l.length = k + d →
    ∃ r, loopO (fun z_ => M_roster_Good_v_b1 l z_) (k : Int) = some r ∧ loopO (fun z_ => M_signpostref12_Good_v_b1 l z_) (k : Int) = some r := by
  intro d
  induction d with
  | zero =>
    intro k h
    exact ⟨.inl (), loopO_end (by unfold M_roster_Good_v_b1; rw [if_neg (by omega)]), loopO_end (by unfold M_signpostref12_Good_v_b1; rw [if_neg (by omega)])⟩
  | succ d ih =>
    intro k h
    have hk : k < l.length := by omega
    have ht := hl _ (List.getElem_mem hk)
    have key : ∃ c : Bool, M_roster_Good_v_b1 l (k : Int) = (if c = true then some (.inl ((k : Int) + 1)) else some (.inr (.inr false))) ∧ M_signpostref12_Good_v_b1 l (k : Int) = (if c = true then some (.inl ((k : Int) + 1)) else some (.inr (.inr false))) := by
      have c1 : (k : Int) < (l.length : Int) := by omega
      have c2 : ok64 ((k : Int) + 1) := ok_small (by omega)
      have c4 : ok64 ((k : Int) - 1) := ok_small (by omega)
      have i1 := inst_good (i := l[k]) (by omega)
      have i2 := ref11_good (i := l[k]) ht
      unfold M_roster_Good_v_b1 M_signpostref12_Good_v_b1
      simp only [if_pos c1, at?_in hk, some_bindP, i1, i2]
      cases goodI l[k] with
      | false => exact ⟨false, rfl, rfl⟩
      | true =>
        by_cases h0 : k = 0
        · have c3 : ¬ ((0 : Int) < (k : Int)) := by omega
          simp only [if_neg c3, if_pos c2, if_true]
          exact ⟨true, rfl, rfl⟩
        · have c3 : (0 : Int) < (k : Int) := by omega
          have ea : at? l ((k : Int) - 1) = some l[k - 1] := by rw [show (k : Int) - 1 = ((k - 1 : Nat) : Int) by omega, at?_in (by omega : k - 1 < l.length)]
          have e3 : M_roster_order l[k - 1] l[k].Publisher = some () := rfl
          have e4 : M_signpostref12_before l[k - 1] l[k] = some () := rfl
          simp only [if_pos c3, if_pos c2, if_pos c4, ea, some_bindP, e3, e4, if_true]
          cases hc : ltS (List.ofFn l[k - 1].Publisher) (List.ofFn l[k].Publisher) with
          | true => exact ⟨true, by rw [if_neg (fun e => by rw [le_compare, hc] at e; cases e)] <;> rfl, by rw [if_pos rfl] <;> rfl⟩
          | false => exact ⟨false, by rw [if_pos ((le_compare _ _).2 hc)] <;> rfl, by rw [if_neg Bool.false_ne_true] <;> rfl⟩
    obtain ⟨c, h1, h2⟩ := key
    cases c with
    | true =>
      obtain ⟨r, h3, h4⟩ := ih (k + 1) (by omega)
      refine ⟨r, ?_, ?_⟩
      · rw [loopO_next (s' := ((k + 1 : Nat) : Int)) (by show M_roster_Good_v_b1 l (k : Int) = _; rw [h1]; rfl)]; exact h3
      · rw [loopO_next (s' := ((k + 1 : Nat) : Int)) (by show M_signpostref12_Good_v_b1 l (k : Int) = _; rw [h2]; rfl)]; exact h4
    | false =>
      refine ⟨.inr false, loopO_end ?_, loopO_end ?_⟩
      · show M_roster_Good_v_b1 l (k : Int) = _; rw [h1]; rfl
      · show M_signpostref12_Good_v_b1 l (k : Int) = _; rw [h2]; rfl
theorem roster_good {l : List G_api_Instance} (hl : ∀ x ∈ l, x.Target.length ≤ 1000000) (hn : l.length ≤ 1000000) : ∃ g, M_roster_Good_v l = some g ∧ M_signpostref12_Good_v l = some g := by
  obtain ⟨r, h1, h2⟩ := good_sim hl hn l.length 0 (by omega)
  rw [show ((0 : Nat) : Int) = 0 from rfl] at h1 h2
  unfold M_roster_Good_v M_signpostref12_Good_v
  rw [h1, h2]
  cases r <;> exact ⟨_, rfl, rfl⟩
theorem good_nil : M_roster_Good_v [] = some true := by
  unfold M_roster_Good_v
  rw [loopO_end (r := .inl ()) (by unfold M_roster_Good_v_b1; rw [if_neg (by decide)]), some_bindP]; rfl
theorem readI_cases (r : List UInt8) : ((readI r false).2.1 = true ∧ (readI r false).2.2.2 = false) ∨ readI r false = (noneI, false, [], true) := by
  unfold readI
  split
  · exact .inr rfl
  · rename_i hh
    simp only [not_or] at hh
    exact .inl ⟨rfl, by simpa using hh.1⟩
theorem num_one_lt (r : List UInt8) (bad : Bool) : (numS r bad 1).1.toNat ≤ 255 := by
  unfold numS
  split
  · decide
  · rename_i h
    simp only [not_or] at h
    cases r with
    | nil => simp at h
    | cons x t =>
      have := x.toNat_lt
      simp [num]; omega
theorem read_sim {B : List UInt8} (hB : B.length ≤ 6000) {n : UInt64} (hn : n.toNat ≤ 255) : ∀ (m : Nat) (r : List UInt8) (out : List G_api_Instance) (t : UInt64), n.toNat = t.toNat + m → r <:+ B → out.length = t.toNat → (∀ x ∈ out, x.Target.length ≤ 6000) →
    (∃ r' out', loopO (fun z_ => M_roster_Read_po_b1 true n z_.1 z_.2.1 z_.2.2.1 z_.2.2.2) (r, false, out, t) = some (.inl (r', false, out')) ∧
      loopO (fun z_ => M_signpostref12_Read_pv_b1 B n z_.1 z_.2.1 z_.2.2.1 z_.2.2.2) (refAt B r, false, out, (t.toNat : Int)) = some (refAt B r', false, out') ∧ r' <:+ B ∧ out'.length ≤ 255 ∧ ∀ x ∈ out', x.Target.length ≤ 6000) ∨
    (∃ o, loopO (fun z_ => M_roster_Read_po_b1 true n z_.1 z_.2.1 z_.2.2.1 z_.2.2.2) (r, false, out, t) = some (.inr ([], [], true)) ∧
      loopO (fun z_ => M_signpostref12_Read_pv_b1 B n z_.1 z_.2.1 z_.2.2.1 z_.2.2.2) (refAt B r, false, out, (t.toNat : Int)) = some (refAt B [], true, o)) := by
  intro m
  induction m with
  | zero =>
    intro r out t h hr ho hx
    refine .inl ⟨r, out, loopO_end ?_, loopO_end ?_, hr, by omega, hx⟩
    · show M_roster_Read_po_b1 true n r false out t = _
      unfold M_roster_Read_po_b1
      rw [if_neg (fun e => by rw [UInt64.lt_iff_toNat_lt] at e; omega)]
    · show M_signpostref12_Read_pv_b1 B n (refAt B r) false out (t.toNat : Int) = _
      unfold M_signpostref12_Read_pv_b1 M_signpostref12_Read_pv_k2
      rw [if_neg (by omega), if_neg (by decide)]
  | succ m ih =>
    intro r out t h hr ho hx
    have hlen := hr.length_le
    have hp : M_roster_Read_po_b1 true n r false out t = if (readI r false).2.1 = true then some (.inl ((readI r false).2.2.1, (readI r false).2.2.2, out ++ [(readI r false).1], t + 1)) else some (.inr (.inr ([], (readI r false).2.2.1, (readI r false).2.2.2))) := by
      unfold M_roster_Read_po_b1
      rw [if_pos (UInt64.lt_iff_toNat_lt.2 (by omega)), inst_read (by omega), some_bindP]
      have hc : (out.length + 1) * 72 ≤ 140737488355328 := by omega
      simp only [if_pos hc]
    have hq : M_signpostref12_Read_pv_b1 B n (refAt B r) false out (t.toNat : Int) = some (.inl (refAt B (readI r false).2.2.1, (readI r false).2.2.2, out ++ [(readI r false).1], (t.toNat : Int) + 1)) := by
      unfold M_signpostref12_Read_pv_b1 M_signpostref12_Read_pv_k2
      rw [if_pos (by omega), if_pos (by decide), ref11_read (by omega) hr, some_bindP]
      simp only []
      rw [if_pos (by omega), if_pos (ok_small (by omega))]
    have ht : (t + 1).toNat = t.toNat + 1 := by rw [UInt64.toNat_add]; show (t.toNat + 1) % 2 ^ 64 = _; omega
    obtain ⟨g1, g2⟩ := readI_len r false
    rcases readI_cases r with ⟨h1, h2⟩ | h1
    · rw [if_pos h1, h2] at hp
      rw [h2] at hq
      rw [loopO_next (s' := ((readI r false).2.2.1, false, out ++ [(readI r false).1], t + 1)) (by show M_roster_Read_po_b1 true n r false out t = _; exact hp),
        loopO_next (s' := (refAt B (readI r false).2.2.1, false, out ++ [(readI r false).1], ((t + 1).toNat : Int))) (by show M_signpostref12_Read_pv_b1 B n (refAt B r) false out (t.toNat : Int) = _; rw [hq, ht]; rfl)]
      refine ih _ _ _ (by omega) (g2.trans hr) (by rw [List.length_append, ho, ht]; rfl) ?_
      intro x hxx
      rcases List.mem_append.1 hxx with hxx | hxx
      · exact hx x hxx
      · rw [List.mem_singleton.1 hxx]; omega
    · rw [h1, if_neg (by decide)] at hp
      rw [h1] at hq
      refine .inr ⟨out ++ [noneI], loopO_end ?_, ?_⟩
      · show M_roster_Read_po_b1 true n r false out t = _; exact hp
      · rw [loopO_next (s' := (refAt B [], true, out ++ [noneI], (t.toNat : Int) + 1)) (by show M_signpostref12_Read_pv_b1 B n (refAt B r) false out (t.toNat : Int) = _; exact hq)]
        refine loopO_end ?_
        show M_signpostref12_Read_pv_b1 B n (refAt B []) true (out ++ [noneI]) ((t.toNat : Int) + 1) = _
        unfold M_signpostref12_Read_pv_b1 M_signpostref12_Read_pv_k2
        split <;> rfl
theorem roster_read {b : List UInt8} (hb : b.length ≤ 6000) : ∃ l r bad, M_roster_Read_po b true false = some (l, r, bad) ∧ M_signpostref12_Read_pv b 0 false = some (l, refAt b r, bad) ∧ r <:+ b ∧ l.length ≤ 255 ∧ ∀ x ∈ l, x.Target.length ≤ 6000 := by
  have hN := num_one_lt b false
  have hs := numS_suffix b false 1
  have e0 : refAt b b = 0 := by unfold refAt; omega
  have hr0 := ref01_num (B := b) (r := b) (bad := false) (w := 1) (by omega) List.suffix_rfl
  rw [e0] at hr0
  have hbad : (numS b false 1).2.2 = true → numS b false 1 = (0, [], true) := by
    unfold numS
    split
    · exact fun _ => rfl
    · exact fun h => by cases h
  have take : ∀ (r : List UInt8) (bad : Bool), r <:+ b → M_signpostref01_Reader_Take_pv b (refAt b r) bad (-1) = some ([], refAt b [], true) := by
    intro r bad hr
    rw [ref01_take (by omega) hr (by decide), take_back]
  unfold M_roster_Read_po M_signpostref12_Read_pv
  rw [octet_num (by omega), hr0, some_bindP, some_bindP]
  generalize numS b false 1 = x at hN hs hbad ⊢
  obtain ⟨n, r1, b1⟩ := x
  simp only [] at hN hs hbad ⊢
  rw [if_pos (by omega)]
  cases b1 with
  | true =>
    obtain ⟨rfl, rfl, _⟩ : n = 0 ∧ r1 = [] ∧ True := by
      have := hbad rfl
      simp only [Prod.mk.injEq] at this
      exact ⟨this.1, this.2.1, trivial⟩
    have l1 : loopO (fun z_ => M_roster_Read_po_b1 true 0 z_.1 z_.2.1 z_.2.2.1 z_.2.2.2) (([] : List UInt8), true, ([] : List G_api_Instance), 0) = some (.inl ([], true, [])) := loopO_end (by
      show M_roster_Read_po_b1 true 0 [] true [] 0 = _
      unfold M_roster_Read_po_b1
      rw [if_neg (by decide)])
    have l2 : loopO (fun z_ => M_signpostref12_Read_pv_b1 b 0 z_.1 z_.2.1 z_.2.2.1 z_.2.2.2) (refAt b [], true, ([] : List G_api_Instance), 0) = some (refAt b [], true, []) := loopO_end (by
      show M_signpostref12_Read_pv_b1 b 0 (refAt b []) true [] 0 = _
      unfold M_signpostref12_Read_pv_b1 M_signpostref12_Read_pv_k2
      rw [if_neg (by decide), if_neg (by decide)])
    rw [l1, l2, some_bindP, some_bindP]
    simp only [good_nil, some_bindP, if_true]
    rw [take [] true hs, some_bindP]
    exact ⟨[], [], true, rfl, rfl, List.nil_suffix, by simp, fun x hx => by cases hx⟩
  | false =>
    rcases read_sim hb hN n.toNat r1 [] 0 (by simp) hs rfl (fun x hx => by cases hx) with ⟨r', out', h1, h2, h3, h4, h5⟩ | ⟨o, h1, h2⟩
    · rw [show (((0 : UInt64).toNat : Nat) : Int) = 0 from rfl] at h2
      rw [h1, h2, some_bindP, some_bindP]
      simp only []
      obtain ⟨g, hg1, hg2⟩ := roster_good (l := out') (fun x hx => by have := h5 x hx; omega) (by omega)
      simp only [hg1, hg2, some_bindP, Bool.false_eq_true, if_false]
      cases g with
      | true =>
        simp only [if_true]
        exact ⟨out', r', false, rfl, rfl, h3, h4, h5⟩
      | false =>
        have := h3.length_le
        have ot := octet_take (r := r') (bad := false) (n := -1) (by omega)
        rw [take_back] at ot
        simp only [Bool.false_eq_true, if_false, ot, take r' false h3, some_bindP]
        exact ⟨[], [], true, rfl, rfl, List.nil_suffix, by simp, fun x hx => by cases hx⟩
    · rw [show (((0 : UInt64).toNat : Nat) : Int) = 0 from rfl] at h2
      rw [h1, h2, some_bindP, some_bindP]
      simp only [if_true, take [] true List.nil_suffix, some_bindP]
      exact ⟨[], [], true, rfl, rfl, List.nil_suffix, by simp, fun x hx => by cases hx⟩
theorem same_self {l : List G_api_Instance} (hl : ∀ x ∈ l, x.Target.length ≤ 6000) (hn : l.length ≤ 1000) : M_signpostref12_Same_vv l l = some true := by
  have key : ∀ (d k : Nat), l.length = k + d → loopO (fun z_ => M_signpostref12_Same_vv_b1 l l z_) (k : Int) = some (.inl ()) := by
    intro d
    induction d with
    | zero => intro k h; exact loopO_end (by unfold M_signpostref12_Same_vv_b1; rw [if_neg (by omega)])
    | succ d ih =>
      intro k h
      have hk : k < l.length := by omega
      have ht := hl _ (List.getElem_mem hk)
      have hm : l[k].Target.length ≤ maxLen := by simp only [maxLen]; omega
      rw [loopO_next (s' := ((k + 1 : Nat) : Int)) (by
        show M_signpostref12_Same_vv_b1 l l (k : Int) = _
        unfold M_signpostref12_Same_vv_b1
        rw [if_pos (by omega), at?_in hk, some_bindP, some_bindP, if_pos hm, if_pos hm, if_pos rfl, if_pos (ok_small (by omega))]; rfl)]
      exact ih (k + 1) (by omega)
  have := key l.length 0 (by omega)
  rw [show ((0 : Nat) : Int) = 0 from rfl] at this
  unfold M_signpostref12_Same_vv
  rw [if_pos rfl, this, some_bindP]
/-! ### the example -/
def ex12 (n : UInt64) : G_api_Instance := G_api_Instance.mk (fun _ => 0) n 0 5 false 0 0 80 [97]
theorem ex_good (n : UInt64) : goodI (ex12 n) = true := by
  have hp : partsS [97] = [[97]] := by decide
  have e : goodI (ex12 n) = goodI (ex12 1) := rfl
  rw [e]
  unfold goodI goodN
  rw [show (ex12 1).Target = [97] from rfl, hp]; decide
theorem ex_list (n : UInt64) : M_roster_Good_v [ex12 n] = some true := by
  unfold M_roster_Good_v
  rw [show (0 : Int) = ((0 : Nat) : Int) from rfl, loopO_next (s' := ((1 : Nat) : Int)) (by
      show M_roster_Good_v_b1 [ex12 n] ((0 : Nat) : Int) = _
      unfold M_roster_Good_v_b1
      rw [if_pos (by simp), show at? [ex12 n] ((0 : Nat) : Int) = some (ex12 n) from rfl, some_bindP, inst_good (show ([97] : List UInt8).length ≤ 140737488355328 by decide), ex_good, some_bindP, if_pos rfl, if_neg (by decide), if_pos (ok_small (by decide))]; rfl),
    loopO_end (r := .inl ()) (by
      show M_roster_Good_v_b1 [ex12 n] ((1 : Nat) : Int) = _
      unfold M_roster_Good_v_b1
      rw [if_neg (by simp)]), some_bindP]
  rfl
theorem put_nil (n : UInt64) : M_roster_Put_v [] (ex12 n) = some (.inr ([ex12 n], true)) := by
  have hb : M_slices_BinarySearchFunc_ID_v_roster_order [] (ex12 n).Publisher = some (0, false) := by
    unfold M_slices_BinarySearchFunc_ID_v_roster_order
    rw [loopO_end (r := 0) (by unfold M_slices_BinarySearchFunc_ID_v_roster_order_b1; rw [if_neg (by decide)]), some_bindP]
    simp only []
    rw [if_neg (by decide)]
  unfold M_roster_Put_v M_roster_Put_v_k1
  rw [good_nil, some_bindP, if_pos rfl, inst_good (show ([97] : List UInt8).length ≤ 140737488355328 by decide), ex_good, some_bindP, if_neg (by decide), hb, some_bindP]
  simp only []
  rw [if_neg (by decide)]
  unfold M_roster_Put_v_k2
  rw [if_pos (by decide), if_neg (by decide)]
  have hc : copyL (List.replicate ([] : List G_api_Instance).length (G_api_Instance.mk (fun _ => 0) 0 0 0 false 0 0 0 ([] : List UInt8))) 0 (([] : List G_api_Instance).take (min ([] : List G_api_Instance).length ((List.replicate ([] : List G_api_Instance).length (G_api_Instance.mk (fun _ => 0) 0 0 0 false 0 0 0 ([] : List UInt8))).length))) = [] := rfl
  rw [hc]
  unfold M_slices_Insert_Instance_ov
  rw [if_pos (by decide), if_neg (by simp), if_pos (show (0 : Int) = ((([] : List G_api_Instance).length : Nat) : Int) from rfl), if_pos (by simp), some_bindP, if_pos (by simp)]
  rfl
theorem cmp_ex : ∃ x, M_inst_Cmp (ex12 2) (ex12 1) = some x ∧ 0 < x := by
  refine ⟨1, ?_, by decide⟩
  unfold M_inst_Cmp
  rw [show M_cmp_Compare_uint64 (ex12 2).Seq (ex12 1).Seq = some 1 by decide, some_bindP, show M_inst_bit (ex12 2).Gone = some 0 from rfl, some_bindP, show M_inst_bit (ex12 1).Gone = some 0 from rfl, some_bindP,
    show M_cmp_Compare_int 0 0 = some 0 by decide, some_bindP, show M_cmp_Compare_uint64 (ex12 2).Born (ex12 1).Born = some 0 by decide, some_bindP, show M_cmp_Compare_uint32 (ex12 2).Life (ex12 1).Life = some 0 by decide, some_bindP,
    show M_bytes_Compare_vv (List.ofFn (ex12 2).Publisher) (List.ofFn (ex12 1).Publisher) = some () from rfl, some_bindP, show M_cmp_Compare_uint16 (ex12 2).Priority (ex12 1).Priority = some 0 by decide, some_bindP,
    show M_cmp_Compare_uint16 (ex12 2).Weight (ex12 1).Weight = some 0 by decide, some_bindP, show M_cmp_Compare_uint16 (ex12 2).Port (ex12 1).Port = some 0 by decide, some_bindP, show M_cmp_Compare_string (ex12 2).Target (ex12 1).Target = some 0 by decide, some_bindP]
  unfold M_cmp_Or_int_v
  rw [loopO_end (r := .inr 1) (by rfl), some_bindP]
  rfl
theorem put_one : M_roster_Put_v [ex12 1] (ex12 2) = some (.inr ([ex12 2], true)) := by
  have hb : M_slices_BinarySearchFunc_ID_v_roster_order [ex12 1] (ex12 2).Publisher = some (0, true) := by
    unfold M_slices_BinarySearchFunc_ID_v_roster_order
    rw [loopO_next (s' := (0, 0)) (by
        show M_slices_BinarySearchFunc_ID_v_roster_order_b1 (ex12 2).Publisher [ex12 1] 0 1 = _
        unfold M_slices_BinarySearchFunc_ID_v_roster_order_b1
        have h0 : (shr64 (UInt64.ofInt (0 + 1)) 1).toNat = 0 := by decide
        rw [if_pos (by decide), if_pos (ok_small (by decide)), h0, if_pos (by decide), show at? [ex12 1] ((0 : Nat) : Int) = some (ex12 1) from rfl, some_bindP, show M_roster_order (ex12 1) (ex12 2).Publisher = some () from rfl, some_bindP,
          show Lib.compareBytes (List.ofFn (ex12 1).Publisher) (List.ofFn (ex12 2).Publisher) = 0 by decide, if_neg (by decide)]; rfl),
      loopO_end (r := 0) (by unfold M_slices_BinarySearchFunc_ID_v_roster_order_b1; rw [if_neg (by decide)]), some_bindP]
    simp only []
    rw [if_pos (by decide), show at? [ex12 1] 0 = some (ex12 1) from rfl, some_bindP, show M_roster_order (ex12 1) (ex12 2).Publisher = some () from rfl, some_bindP, show Lib.compareBytes (List.ofFn (ex12 1).Publisher) (List.ofFn (ex12 2).Publisher) = 0 by decide]
    rfl
  obtain ⟨x, hx, hx0⟩ := cmp_ex
  unfold M_roster_Put_v M_roster_Put_v_k1
  rw [ex_list, some_bindP, if_pos rfl, inst_good (show ([97] : List UInt8).length ≤ 140737488355328 by decide), ex_good, some_bindP, if_neg (by decide), hb, some_bindP]
  simp only [if_true]
  rw [show at? [ex12 1] 0 = some (ex12 1) from rfl, some_bindP, hx, some_bindP, if_neg (by omega)]
  unfold M_roster_Put_v_k2
  rw [if_pos (by simp), if_pos rfl]
  rfl
theorem lives12 : M_signpostlaw12_lives = some true := by
  have e1 : (G_api_Instance.mk (fun _ => 0) 1 0 5 false 0 0 80 ([97] : List UInt8)) = ex12 1 := rfl
  have e2 : (G_api_Instance.mk (fun _ => 0) 2 0 5 false 0 0 80 ([97] : List UInt8)) = ex12 2 := rfl
  unfold M_signpostlaw12_lives
  rw [e1, e2, put_nil, some_bindP]
  simp only []
  rw [put_one, some_bindP]
  simp only [if_true]
  rw [if_pos (show (([ex12 2].length : Nat) : Int) = 1 from rfl), show at? [ex12 2] 0 = some (ex12 2) from rfl, some_bindP, if_pos (show (ex12 2).Target.length ≤ maxLen by decide), if_pos rfl, ex_list, some_bindP]
/-! ### the statement -/
theorem pure_RosterReads (b : List UInt8) (hl_b : b.length ≤ 140737488351232) : M_signpostlaw12_RosterReads_v b = some true := by
  have hz : M_roster_Read_z = some () := by
    unfold M_roster_Read_z
    rw [show M_octet_Reader_Num_z 1 = some () from rfl, some_bindP, loopO_end (r := ()) rfl, some_bindP]
    rw [good_nil, some_bindP, if_pos rfl]
  unfold M_signpostlaw12_RosterReads_v M_octet_Open_v
  rw [lives12]
  by_cases h : (6000 : Int) < b.length
  · rw [if_pos h]; rfl
  · obtain ⟨l, r, bad, h1, h2, h3, h4, h5⟩ := roster_read (b := b) (by omega)
    have hr := h3.length_le
    rw [if_neg h, if_pos (by omega), some_bindP, List.nil_append, h1, h2]
    simp only [some_bindP]
    rw [same_self h5 (by omega), some_bindP, if_pos rfl]
    unfold M_octet_Reader_Left_po M_octet_Reader_none_po M_octet_rest_left_po M_signpostref01_Reader_Left_pv M_octet_Reader_Bad_po M_octet_Reader_none_po
    rw [some_bindP, if_pos rfl, some_bindP, some_bindP, if_pos (ok_small (by unfold refAt; omega)), some_bindP, if_pos (by unfold refAt; omega), some_bindP, if_pos rfl, some_bindP, if_pos rfl, hz, some_bindP]
end Go.Proofs.Ytlkilokdbkjbmaa
