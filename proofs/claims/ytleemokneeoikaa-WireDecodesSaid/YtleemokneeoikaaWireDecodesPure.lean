/-
  What the functions that the statement WireDecodes reaches compute, as plain laws; and the statement about them. No condition.
-/
import Derived.Test.YtleemokneeoikaaWireDecodesMod
import Derived.Test.YtleemokneeoikaaBPure
namespace Go.Proofs.Ytleemokneeoikaa
open Go Go.RowKit
set_option linter.unusedVariables false
set_option linter.unusedSimpArgs false
/-! ### names -/
theorem idx_lt : ∀ (l : List UInt8) (c : UInt8), -1 ≤ Lib.indexByte l c ∧ (0 ≤ Lib.indexByte l c → Lib.indexByte l c < l.length)
  | [], c => by simp [Lib.indexByte]
  | b :: l, c => by
    have h := idx_lt l c
    unfold Lib.indexByte
    simp only [List.length_cons]
    split
    · omega
    · split
      · omega
      · rename_i h1 h2
        simp only [beq_iff_eq] at h2
        omega
/-- A text cut at its first point. -/
def cutS (s : List UInt8) : List UInt8 × List UInt8 × Bool := if 0 ≤ Lib.indexByte s 46 then (s.take (Lib.indexByte s 46).toNat, s.drop (Lib.indexByte s 46 + 1).toNat, true) else (s, [], false)
theorem label_cut {s : List UInt8} (hs : s.length ≤ 4611686018427387904) : M_strings_Cut s = some (cutS s) := by
  have hi : M_stringslite_Index s = some (Lib.indexByte s 46) := by
    unfold M_stringslite_Index
    by_cases h : [46] = s
    · rw [if_pos h, ← h]; rfl
    · rw [if_neg h]; rfl
  have hb := idx_lt s 46
  unfold M_strings_Cut M_stringslite_Cut cutS
  rw [hi, Option.bind_some]
  by_cases h : 0 ≤ Lib.indexByte s 46
  · rw [if_pos h, if_pos (by omega), if_pos (ok_small (by omega)), if_pos (by omega), if_pos h]; rfl
  · rw [if_neg h, if_neg h]; rfl
/-- The texts between points. -/
def partsF : Nat → List UInt8 → List (List UInt8)
  | 0, s => [s]
  | n + 1, s => if (cutS s).2.2 = true then (cutS s).1 :: partsF n (cutS s).2.1 else [s]
def partsS (s : List UInt8) : List (List UInt8) := partsF s.length s
theorem cutS_len (s : List UInt8) : (cutS s).1.length ≤ s.length ∧ ((cutS s).2.2 = true → (cutS s).2.1.length < s.length) ∧ ((cutS s).2.2 = false → (cutS s).1 = s) := by
  have hb := idx_lt s 46
  unfold cutS
  split
  · refine ⟨by simp only [List.length_take]; omega, fun _ => ?_, fun h => (by cases h)⟩
    simp only [List.length_drop]; omega
  · exact ⟨Nat.le_refl _, (fun h => by cases h), fun _ => rfl⟩
theorem parts_loop {σ ρ : Type} {f : σ → List UInt8 → Option (σ ⊕ ρ)} : ∀ (n : Nat) (s : List UInt8) (z : σ), s.length ≤ n → s.length ≤ 4611686018427387904 →
    loopO (fun z_ => M_label_parts_1_p_b1 f z_.1 z_.2) (z, s) = rangeO f (partsF n s) z := by
  have hb : ∀ (s : List UInt8) (z : σ), s.length ≤ 4611686018427387904 → M_label_parts_1_p_b1 f z s = (f z (cutS s).1).bind fun y => match y with
      | .inl z2 => if (cutS s).2.2 = true then some (.inl (z2, (cutS s).2.1)) else some (.inr (.inl z2))
      | .inr x => some (.inr (.inr x)) := by
    intro s z hs
    unfold M_label_parts_1_p_b1
    rw [label_cut hs, Option.bind_some]
    rfl
  intro n
  induction n with
  | zero =>
    intro s z hn hs
    obtain ⟨h1, h2, h3⟩ := cutS_len s
    have hc : (cutS s).2.2 = false := by
      cases h : (cutS s).2.2 with
      | false => rfl
      | true => have := h2 h; omega
    have hb1 := hb s z hs
    rw [hc, h3 hc] at hb1
    simp only [partsF, rangeO]
    cases hf : f z s with
    | none =>
      rw [hf] at hb1
      exact loopO_none hb1
    | some y =>
      rw [hf] at hb1
      cases y with
      | inl z2 => exact loopO_end hb1
      | inr x => exact loopO_end hb1
  | succ n ih =>
    intro s z hn hs
    obtain ⟨h1, h2, h3⟩ := cutS_len s
    have hb1 := hb s z hs
    unfold partsF
    cases hc : (cutS s).2.2 with
    | true =>
      rw [hc] at hb1
      simp only [if_pos, rangeO]
      cases hf : f z (cutS s).1 with
      | none => rw [hf] at hb1; exact loopO_none hb1
      | some y =>
        rw [hf] at hb1
        cases y with
        | inl z2 => rw [loopO_next hb1]; exact ih _ _ (by have := h2 hc; omega) (by have := h2 hc; omega)
        | inr x => exact loopO_end hb1
    | false =>
      rw [hc, h3 hc] at hb1
      simp only [Bool.false_eq_true, if_false, rangeO]
      cases hf : f z s with
      | none => rw [hf] at hb1; exact loopO_none hb1
      | some y =>
        rw [hf] at hb1
        cases y with
        | inl z2 => exact loopO_end hb1
        | inr x => exact loopO_end hb1
theorem label_parts {σ ρ : Type} {f : σ → List UInt8 → Option (σ ⊕ ρ)} {s : List UInt8} {z : σ} (hs : s.length ≤ 4611686018427387904) : M_label_parts_1_p f s z = rangeO f (partsS s) z := by
  unfold M_label_parts_1_p partsS
  rw [parts_loop s.length s z (Nat.le_refl _) hs]
  cases rangeO f (partsF s.length s) z <;> rfl
theorem partsF_len : ∀ (n : Nat) (s : List UInt8), ∀ p ∈ partsF n s, p.length ≤ s.length
  | 0, s, p, hp => by simp only [partsF, List.mem_singleton] at hp; subst hp; exact Nat.le_refl _
  | n + 1, s, p, hp => by
    obtain ⟨h1, h2, h3⟩ := cutS_len s
    unfold partsF at hp
    split at hp
    · rename_i hc
      rcases List.mem_cons.1 hp with rfl | hp
      · exact h1
      · have := partsF_len n _ p hp; have := h2 hc; omega
    · simp only [List.mem_singleton] at hp; subst hp; exact Nat.le_refl _
/-! ### parts -/
noncomputable def plainS (c : UInt8) : Bool := (M_label_plain c).getD false
theorem label_plain (c : UInt8) : M_label_plain c = some (plainS c) := by
  unfold plainS M_label_plain M_label_plain_k1 M_label_plain_k2
  repeat' split
  all_goals rfl
theorem plain_loop09 {s : List UInt8} (hs : s.length ≤ 140737488355328) : ∀ (d k : Nat), s.length = k + d →
    loopO (fun z_ => M_label_Part_b2 s z_) (k : Int) = some (if (s.drop k).all plainS = true then .inl () else .inr false) := by
  intro d
  induction d with
  | zero =>
    intro k h
    rw [loopO_end (r := .inl ()) (by unfold M_label_Part_b2; rw [if_neg (by omega)]), List.drop_of_length_le (by omega)]; rfl
  | succ d ih =>
    intro k h
    have hk : k < s.length := by omega
    have hb : M_label_Part_b2 s (k : Int) = if plainS s[k] = true then some (.inl ((k : Int) + 1)) else some (.inr (.inr false)) := by
      unfold M_label_Part_b2
      rw [if_pos (by omega), at?_in hk, Option.bind_some, label_plain, Option.bind_some, if_pos (ok_small (by omega))]
    rw [List.drop_eq_getElem_cons hk, List.all_cons]
    cases hp : plainS s[k] with
    | true => rw [loopO_next (s' := ((k + 1 : Nat) : Int)) (by show M_label_Part_b2 s (k : Int) = _; rw [hb, if_pos hp]; rfl), ih (k + 1) (by omega), Bool.true_and]
    | false => rw [loopO_end (r := .inr false) (by show M_label_Part_b2 s (k : Int) = _; rw [hb, if_neg (by rw [hp]; decide)])]; rfl
noncomputable def partS (s : List UInt8) : Bool := decide (1 ≤ s.length ∧ s.length ≤ 63) && (!decide (s[0]? = some 45) && (!decide (s[s.length - 1]? = some 45) && s.all plainS))
theorem label_part {s : List UInt8} (hs : s.length ≤ 140737488355328) : M_label_Part s = some (partS s) := by
  have hk1 : M_label_Part_k1 s true = some false := rfl
  have hk2 : M_label_Part_k1 s false = some (s.all plainS) := by
    have := plain_loop09 hs s.length 0 (by omega)
    rw [show ((0 : Nat) : Int) = 0 from rfl, List.drop_zero] at this
    unfold M_label_Part_k1
    rw [if_neg (by decide), if_pos hs, this, Option.bind_some]
    cases s.all plainS <;> rfl
  unfold M_label_Part partS
  by_cases h1 : (s.length : Int) < 1
  · rw [if_pos h1, hk1, decide_eq_false (by omega)]; rfl
  · rw [if_neg h1]
    by_cases h2 : (63 : Int) < s.length
    · rw [if_pos h2, hk1, decide_eq_false (by omega)]; rfl
    · have h0 : 0 < s.length := by omega
      have hl : s.length - 1 < s.length := by omega
      rw [if_neg h2, decide_eq_true (by omega), show (0 : Int) = ((0 : Nat) : Int) from rfl, at?_in h0, Option.bind_some, if_pos (ok_small (by omega)),
        show (s.length : Int) - 1 = ((s.length - 1 : Nat) : Int) by omega, at?_in hl, Option.bind_some, List.getElem?_eq_getElem h0, List.getElem?_eq_getElem hl]
      by_cases h3 : s[0] = 45
      · rw [if_pos h3, hk1]; simp [h3]
      · rw [if_neg h3]
        by_cases h4 : s[s.length - 1] = 45
        · rw [decide_eq_true h4, hk1]; simp [h4]
        · rw [decide_eq_false h4, hk2]; simp [h3, h4]
noncomputable def goodN (s : List UInt8) : Bool := decide (s.length ≤ 253) && (partsS s).all partS
theorem good_range : ∀ (l : List (List UInt8)), (∀ p ∈ l, p.length ≤ 140737488355328) → rangeO (fun (_ : Unit) x => M_label_Good_r1 x) l () = some (if l.all partS = true then .inl () else .inr ())
  | [], _ => rfl
  | p :: l, h => by
    have hp : M_label_Good_r1 p = some (if partS p = true then .inl () else .inr ()) := by
      unfold M_label_Good_r1
      rw [label_part (h p (List.mem_cons_self ..)), Option.bind_some]
      split <;> rfl
    rw [List.all_cons]
    unfold rangeO
    rw [hp]
    cases hh : partS p with
    | true => simp only [if_pos, Bool.true_and]; exact good_range l (fun q hq => h q (List.mem_cons_of_mem _ hq))
    | false => rfl
theorem label_good {s : List UInt8} (hs : s.length ≤ 140737488355328) : M_label_Good s = some (goodN s) := by
  unfold M_label_Good goodN
  by_cases h : (253 : Int) < s.length
  · rw [if_pos h, decide_eq_false (by omega)]; rfl
  · rw [if_neg h, decide_eq_true (by omega), show M_label_parts s = some () from rfl, Option.bind_some, label_parts (by omega), good_range _ (fun p hp => by have := partsF_len _ _ p hp; omega), Option.bind_some]
    cases (partsS s).all partS <;> rfl
/-! ### texts folded -/
def foldC (c : UInt8) : UInt8 := if 65 ≤ c ∧ c ≤ 90 then c ||| 32 else c
def foldS (s : List UInt8) : List UInt8 := s.map foldC
theorem fold_loop09 {s : List UInt8} (hs : s.length ≤ 140737488355328) : ∀ (d k : Nat), s.length = k + d →
    loopO (fun z_ => M_label_Fold_b1 s z_.1 z_.2) ((s.take k).map foldC ++ s.drop k, (k : Int)) = some (foldS s) := by
  intro d
  induction d with
  | zero =>
    intro k h
    rw [loopO_end (r := (s.take k).map foldC ++ s.drop k) (by unfold M_label_Fold_b1; rw [if_neg (by omega)]), List.drop_of_length_le (by omega), List.take_of_length_le (by omega), List.append_nil]; rfl
  | succ d ih =>
    intro k h
    have hk : k < s.length := by omega
    have hlen : ((s.take k).map foldC).length = k := by rw [List.length_map, List.length_take]; omega
    have hx : at? ((s.take k).map foldC ++ s.drop k) (k : Int) = some s[k] := by
      rw [at?_nat, List.getElem?_append_right (by omega), hlen, Nat.sub_self, List.getElem?_drop, Nat.add_zero, List.getElem?_eq_getElem hk]
    have hset : ∀ c : UInt8, ((s.take k).map foldC ++ s.drop k).set k c = (s.take k).map foldC ++ c :: s.drop (k + 1) := by
      intro c
      rw [List.set_append_right _ _ (by omega), hlen, Nat.sub_self, List.drop_eq_getElem_cons hk]; rfl
    have hnext : (s.take (k + 1)).map foldC ++ s.drop (k + 1) = (s.take k).map foldC ++ foldC s[k] :: s.drop (k + 1) := by
      rw [List.take_succ_eq_append_getElem hk, List.map_append, List.append_assoc]; rfl
    have hsame : (s.take k).map foldC ++ s.drop k = (s.take k).map foldC ++ s[k] :: s.drop (k + 1) := by rw [← List.drop_eq_getElem_cons hk]
    have hb : M_label_Fold_b1 s ((s.take k).map foldC ++ s.drop k) (k : Int) = some (.inl ((s.take (k + 1)).map foldC ++ s.drop (k + 1), ((k + 1 : Nat) : Int))) := by
      unfold M_label_Fold_b1 M_label_Fold_k2
      rw [if_pos (by omega), hx, Option.bind_some, hnext]
      by_cases h1 : 65 ≤ s[k]
      · rw [if_pos h1]
        by_cases h2 : s[k] ≤ 90
        · rw [if_pos (decide_eq_true h2), Option.bind_some, if_pos (ok_small (by omega)), show foldC s[k] = s[k] ||| 32 from if_pos ⟨h1, h2⟩, show ((k : Int)).toNat = k from rfl, hset]; rfl
        · rw [if_neg (by simpa using h2), if_pos (ok_small (by omega)), show foldC s[k] = s[k] from if_neg (fun hh => h2 hh.2), ← hsame]; rfl
      · rw [if_neg h1, if_neg (by decide), if_pos (ok_small (by omega)), show foldC s[k] = s[k] from if_neg (fun hh => h1 hh.1), ← hsame]; rfl
    rw [loopO_next hb]
    exact ih (k + 1) (by omega)
theorem label_fold {s : List UInt8} (hs : s.length ≤ 140737488355328) : M_label_Fold s = some (foldS s) := by
  unfold M_label_Fold
  have := fold_loop09 hs s.length 0 (by omega)
  rw [List.take_zero, List.map_nil, List.nil_append, List.drop_zero, show ((0 : Nat) : Int) = 0 from rfl] at this
  rw [if_pos hs, this]; rfl
/-! ### texts between points, byte by byte -/
/-- The texts between points; the first one has begun. -/
def spl (cur : List UInt8) : List UInt8 → List (List UInt8)
  | [] => [cur]
  | c :: t => if c = 46 then cur :: spl [] t else spl (cur ++ [c]) t
theorem spl_cut : ∀ (s cur : List UInt8), spl cur s = if 0 ≤ Lib.indexByte s 46 then (cur ++ s.take (Lib.indexByte s 46).toNat) :: spl [] (s.drop (Lib.indexByte s 46 + 1).toNat) else [cur ++ s]
  | [], cur => by simp [spl, Lib.indexByte]
  | c :: t, cur => by
    have h := spl_cut t (cur ++ [c])
    have hb := idx_lt t 46
    have e : Lib.indexByte (c :: t) 46 = if c = 46 then 0 else if Lib.indexByte t 46 = -1 then -1 else Lib.indexByte t 46 + 1 := by simp [Lib.indexByte]
    rw [e, spl]
    by_cases hc : c = 46
    · simp only [if_pos hc]; simp
    · simp only [if_neg hc]
      rw [h]
      by_cases hi : Lib.indexByte t 46 = -1
      · simp only [hi, reduceIte]; simp
      · simp only [if_neg hi]
        rw [if_pos (by omega), if_pos (by omega)]
        rw [show (Lib.indexByte t 46 + 1).toNat = (Lib.indexByte t 46).toNat + 1 by omega, show (Lib.indexByte t 46 + 1 + 1).toNat = (Lib.indexByte t 46).toNat + 1 + 1 by omega]
        simp
theorem partsF_spl : ∀ (n : Nat) (s : List UInt8), s.length ≤ n → partsF n s = spl [] s
  | 0, s, h => by
    have : s = [] := List.length_eq_zero_iff.1 (by omega)
    subst this; rfl
  | n + 1, s, h => by
    have hb := idx_lt s 46
    rw [spl_cut]
    unfold partsF cutS
    by_cases hi : 0 ≤ Lib.indexByte s 46
    · rw [if_pos hi, if_pos hi, if_pos rfl, partsF_spl n _ (by simp only [List.length_drop]; omega)]; rfl
    · rw [if_neg hi, if_neg hi, if_neg Bool.false_ne_true]; rfl
theorem partsS_spl (s : List UInt8) : partsS s = spl [] s := partsF_spl _ s (Nat.le_refl _)
theorem spl_count : ∀ (s cur : List UInt8), (spl cur s).length ≤ s.length + 1
  | [], cur => by simp [spl]
  | c :: t, cur => by
    unfold spl
    split
    · have := spl_count t []; simp only [List.length_cons]; omega
    · have := spl_count t (cur ++ [c]); simp only [List.length_cons]; omega
theorem partsS_count (s : List UInt8) : (partsS s).length ≤ s.length + 1 := by rw [partsS_spl]; exact spl_count s []
theorem goodN_iff {s : List UInt8} : goodN s = true ↔ s.length ≤ 253 ∧ ∀ p ∈ partsS s, partS p = true := by
  unfold goodN
  rw [Bool.and_eq_true, decide_eq_true_eq, List.all_eq_true]
/-- The bytes of texts, each behind its length. -/
def wireL : List (List UInt8) → List UInt8
  | [] => []
  | p :: l => UInt8.ofInt (p.length : Int) :: p ++ wireL l
/-- A name's bytes. -/
def wireS (s : List UInt8) : List UInt8 := wireL (partsS s) ++ [0]
/-! ### signpostref09 -/
theorem ref09_parts_loop {s : List UInt8} (hs : s.length ≤ 1000000) : ∀ (d : Nat) (out : List (List UInt8)) (f i : Nat), s.length = i + d → f ≤ i → out.length ≤ i →
    loopO (fun z_ => M_signpostref09_Parts_b1 s z_.1 z_.2.1 z_.2.2) (out, (f : Int), (i : Int)) = some (out ++ spl ((s.take i).drop f) (s.drop i)) := by
  intro d
  induction d with
  | zero =>
    intro out f i h hf ho
    rw [loopO_next (s' := (out ++ [(s.take i).drop f], ((i + 1 : Nat) : Int), ((i + 1 : Nat) : Int))) (by
        show M_signpostref09_Parts_b1 s out (f : Int) (i : Int) = _
        unfold M_signpostref09_Parts_b1 M_signpostref09_Parts_k2
        rw [if_pos (by omega), if_pos (by omega), if_pos rfl, if_pos (by omega), if_pos (by omega), if_pos (ok_small (by omega)), if_pos (ok_small (by omega))]; rfl),
      loopO_end (r := out ++ [(s.take i).drop f]) (by show M_signpostref09_Parts_b1 s _ ((i + 1 : Nat) : Int) ((i + 1 : Nat) : Int) = _; unfold M_signpostref09_Parts_b1; rw [if_neg (by omega)]), List.drop_of_length_le (by omega : s.length ≤ i)]
    rfl
  | succ d ih =>
    intro out f i h hf ho
    have hk : i < s.length := by omega
    have hb : M_signpostref09_Parts_b1 s out (f : Int) (i : Int) = M_signpostref09_Parts_k2 (f : Int) (i : Int) out s (decide (s[i] = 46)) := by
      unfold M_signpostref09_Parts_b1
      rw [if_pos (by omega), if_neg (by omega), at?_in hk, Option.bind_some]
    rw [List.drop_eq_getElem_cons hk]
    unfold spl
    by_cases hc : s[i] = 46
    · rw [loopO_next (s' := (out ++ [(s.take i).drop f], ((i + 1 : Nat) : Int), ((i + 1 : Nat) : Int))) (by
        show M_signpostref09_Parts_b1 s out (f : Int) (i : Int) = _
        rw [hb, decide_eq_true hc]
        unfold M_signpostref09_Parts_k2
        rw [if_pos rfl, if_pos (by omega), if_pos (by omega), if_pos (ok_small (by omega)), if_pos (ok_small (by omega))]; rfl), ih _ _ _ (by omega) (Nat.le_refl _) (by simp; omega), if_pos hc, show (s.take (i + 1)).drop (i + 1) = [] from List.drop_of_length_le (by rw [List.length_take]; omega), List.append_assoc]
      rfl
    · rw [loopO_next (s' := (out, (f : Int), ((i + 1 : Nat) : Int))) (by
        show M_signpostref09_Parts_b1 s out (f : Int) (i : Int) = _
        rw [hb, decide_eq_false hc]
        unfold M_signpostref09_Parts_k2
        rw [if_neg (by decide), if_pos (ok_small (by omega))]; rfl), ih _ _ _ (by omega) (by omega) (by omega), if_neg hc,
        show (s.take (i + 1)).drop f = (s.take i).drop f ++ [s[i]] by
          rw [List.take_succ_eq_append_getElem hk, List.drop_append_of_le_length (by rw [List.length_take]; omega)]]
theorem ref09_parts {s : List UInt8} (hs : s.length ≤ 1000000) : M_signpostref09_Parts s = some (partsS s) := by
  unfold M_signpostref09_Parts
  have := ref09_parts_loop hs s.length [] 0 0 (by omega) (by omega) (by simp)
  rw [show ((0 : Nat) : Int) = 0 from rfl] at this
  rw [this, Option.bind_some, partsS_spl]
  rfl
theorem ref09_part_step {s : List UInt8} {k : Nat} (hs : s.length ≤ 140737488355328) (hk : k < s.length) : M_signpostref09_Part_b1 s (k : Int) = if plainS s[k] = true then some (.inl ((k : Int) + 1)) else some (.inr (.inr false)) := by
  have hp := label_plain s[k]
  unfold M_label_plain M_label_plain_k1 M_label_plain_k2 at hp
  unfold M_signpostref09_Part_b1 M_signpostref09_letter M_signpostref09_Part_k3 M_signpostref09_Part_k2
  rw [if_pos (by omega), at?_in hk]
  simp only [Option.bind_some]
  rw [if_pos (ok_small (by omega))]
  by_cases h1 : 97 ≤ s[k] <;> by_cases h2 : s[k] ≤ 122 <;> by_cases h3 : 65 ≤ s[k] <;> by_cases h4 : s[k] ≤ 90 <;> by_cases h5 : 48 ≤ s[k] <;> by_cases h6 : s[k] ≤ 57 <;> by_cases h7 : s[k] = 45 <;>
    simp only [h1, h2, h3, h4, h5, h6, h7, if_true, if_false, Option.some.injEq] at hp <;>
    simp only [h1, h2, h3, h4, h5, h6, h7, ← hp, if_true, if_false, Option.bind_some, decide_true, decide_false, Bool.false_eq_true, Bool.not_eq_true', decide_eq_false_iff_not, decide_eq_true_eq, Bool.not_true, Bool.not_false, reduceIte] <;> (try split) <;> simp_all
theorem ref09_part_loop {s : List UInt8} (hs : s.length ≤ 140737488355328) : ∀ (d k : Nat), s.length = k + d →
    loopO (fun z_ => M_signpostref09_Part_b1 s z_) (k : Int) = some (if (s.drop k).all plainS = true then .inl () else .inr false) := by
  intro d
  induction d with
  | zero =>
    intro k h
    rw [loopO_end (r := .inl ()) (by unfold M_signpostref09_Part_b1; rw [if_neg (by omega)]), List.drop_of_length_le (by omega)]; rfl
  | succ d ih =>
    intro k h
    have hk : k < s.length := by omega
    have hb := ref09_part_step hs hk
    rw [List.drop_eq_getElem_cons hk, List.all_cons]
    cases hp : plainS s[k] with
    | true => rw [loopO_next (s' := ((k + 1 : Nat) : Int)) (by show M_signpostref09_Part_b1 s (k : Int) = _; rw [hb, if_pos hp]; rfl), ih (k + 1) (by omega), Bool.true_and]
    | false => rw [loopO_end (r := .inr false) (by show M_signpostref09_Part_b1 s (k : Int) = _; rw [hb, if_neg (by rw [hp]; decide)])]; rfl
theorem ref09_part {s : List UInt8} (hs : s.length ≤ 140737488355328) : M_signpostref09_Part s = some (partS s) := by
  unfold M_signpostref09_Part
  have := ref09_part_loop hs s.length 0 (by omega)
  rw [show ((0 : Nat) : Int) = 0 from rfl, List.drop_zero] at this
  rw [this, Option.bind_some]
  unfold partS
  cases ha : s.all plainS with
  | false => simp
  | true =>
    rw [if_pos rfl]
    simp only []
    by_cases h1 : (1 : Int) ≤ s.length
    · rw [if_pos h1]
      by_cases h2 : (s.length : Int) ≤ 63
      · have h0 : 0 < s.length := by omega
        have hl : s.length - 1 < s.length := by omega
        rw [if_pos h2, decide_eq_true (by omega), show (0 : Int) = ((0 : Nat) : Int) from rfl, at?_in h0, Option.bind_some, if_pos (ok_small (by omega)),
          show (s.length : Int) - 1 = ((s.length - 1 : Nat) : Int) by omega, at?_in hl, Option.bind_some, List.getElem?_eq_getElem h0, List.getElem?_eq_getElem hl]
        by_cases h3 : s[0] = 45
        · rw [if_pos h3]; simp [h3]
        · rw [if_neg h3]; simp [h3]
      · rw [if_neg h2, decide_eq_false (by omega)]; rfl
    · rw [if_neg h1, decide_eq_false (by omega)]; rfl
theorem ref09_good_loop {l : List (List UInt8)} (hl : l.length ≤ 1000001) (h : ∀ p ∈ l, p.length ≤ 140737488355328) : ∀ (d k : Nat), l.length = k + d →
    loopO (fun z_ => M_signpostref09_Good_b1 l z_) (k : Int) = some (if (l.drop k).all partS = true then .inl () else .inr false) := by
  intro d
  induction d with
  | zero =>
    intro k h
    rw [loopO_end (r := .inl ()) (by unfold M_signpostref09_Good_b1; rw [if_neg (by omega)]), List.drop_of_length_le (by omega)]; rfl
  | succ d ih =>
    intro k h1
    have hk : k < l.length := by omega
    have hb : M_signpostref09_Good_b1 l (k : Int) = if partS l[k] = true then some (.inl ((k : Int) + 1)) else some (.inr (.inr false)) := by
      unfold M_signpostref09_Good_b1
      rw [if_pos (by omega), at?_in hk, Option.bind_some, ref09_part (h _ (List.getElem_mem hk)), Option.bind_some, if_pos (ok_small (by omega))]
    rw [List.drop_eq_getElem_cons hk, List.all_cons]
    cases hp : partS l[k] with
    | true => rw [loopO_next (s' := ((k + 1 : Nat) : Int)) (by show M_signpostref09_Good_b1 l (k : Int) = _; rw [hb, if_pos hp]; rfl), ih (k + 1) (by omega), Bool.true_and]
    | false => rw [loopO_end (r := .inr false) (by show M_signpostref09_Good_b1 l (k : Int) = _; rw [hb, if_neg (by rw [hp]; decide)])]; rfl
theorem ref09_good {s : List UInt8} (hs : s.length ≤ 1000000) : M_signpostref09_Good s = some (goodN s) := by
  have hc := partsS_count s
  unfold M_signpostref09_Good
  have := ref09_good_loop (l := partsS s) (by omega) (fun p hp => by have := partsF_len _ _ p hp; omega) (partsS s).length 0 (by omega)
  rw [show ((0 : Nat) : Int) = 0 from rfl, List.drop_zero] at this
  rw [ref09_parts hs, Option.bind_some, this, Option.bind_some]
  unfold goodN
  cases (partsS s).all partS with
  | false => simp
  | true =>
    rw [if_pos rfl]
    simp only []
    rw [if_pos (ok_small (by omega)), Bool.and_true]
    exact congrArg some (decide_eq_decide.2 (by omega))
theorem fold09_byte (c : UInt8) (h1 : 65 ≤ c) (h2 : c ≤ 90) : c + 97 - 65 = c ||| 32 := by
  have key : ∀ n : Fin 256, 65 ≤ n.val → n.val ≤ 90 → UInt8.ofNat n.val + 97 - 65 = UInt8.ofNat n.val ||| 32 := by decide +kernel
  have hc := c.toNat_lt
  have := key ⟨c.toNat, hc⟩ (UInt8.le_iff_toNat_le.1 h1) (UInt8.le_iff_toNat_le.1 h2)
  simpa using this
theorem ref09_fold_loop {s : List UInt8} (hs : s.length ≤ 140737488355328) : ∀ (d k : Nat), s.length = k + d →
    loopO (fun z_ => M_signpostref09_Fold_b1 s z_.1 z_.2) ((s.take k).map foldC ++ s.drop k, (k : Int)) = some (foldS s) := by
  intro d
  induction d with
  | zero =>
    intro k h
    rw [loopO_end (r := (s.take k).map foldC ++ s.drop k) (by unfold M_signpostref09_Fold_b1; rw [if_neg (by omega)]), List.drop_of_length_le (by omega), List.take_of_length_le (by omega), List.append_nil]; rfl
  | succ d ih =>
    intro k h
    have hk : k < s.length := by omega
    have hlen : ((s.take k).map foldC).length = k := by rw [List.length_map, List.length_take]; omega
    have hx : at? ((s.take k).map foldC ++ s.drop k) (k : Int) = some s[k] := by
      rw [at?_nat, List.getElem?_append_right (by omega), hlen, Nat.sub_self, List.getElem?_drop, Nat.add_zero, List.getElem?_eq_getElem hk]
    have hset : ∀ c : UInt8, ((s.take k).map foldC ++ s.drop k).set k c = (s.take k).map foldC ++ c :: s.drop (k + 1) := by
      intro c
      rw [List.set_append_right _ _ (by omega), hlen, Nat.sub_self, List.drop_eq_getElem_cons hk]; rfl
    have hnext : (s.take (k + 1)).map foldC ++ s.drop (k + 1) = (s.take k).map foldC ++ foldC s[k] :: s.drop (k + 1) := by
      rw [List.take_succ_eq_append_getElem hk, List.map_append, List.append_assoc]; rfl
    have hsame : (s.take k).map foldC ++ s.drop k = (s.take k).map foldC ++ s[k] :: s.drop (k + 1) := by rw [← List.drop_eq_getElem_cons hk]
    have hb : M_signpostref09_Fold_b1 s ((s.take k).map foldC ++ s.drop k) (k : Int) = some (.inl ((s.take (k + 1)).map foldC ++ s.drop (k + 1), ((k + 1 : Nat) : Int))) := by
      unfold M_signpostref09_Fold_b1 M_signpostref09_Fold_k2
      rw [if_pos (by omega), hx, Option.bind_some, hnext]
      by_cases h1 : 65 ≤ s[k]
      · rw [if_pos h1]
        by_cases h2 : s[k] ≤ 90
        · rw [if_pos (decide_eq_true h2), Option.bind_some, if_pos (ok_small (by omega)), fold09_byte _ h1 h2, show foldC s[k] = s[k] ||| 32 from if_pos ⟨h1, h2⟩, show ((k : Int)).toNat = k from rfl, hset]; rfl
        · rw [if_neg (by simpa using h2), if_pos (ok_small (by omega)), show foldC s[k] = s[k] from if_neg (fun hh => h2 hh.2), ← hsame]; rfl
      · rw [if_neg h1, if_neg (by decide), if_pos (ok_small (by omega)), show foldC s[k] = s[k] from if_neg (fun hh => h1 hh.1), ← hsame]; rfl
    rw [loopO_next hb]
    exact ih (k + 1) (by omega)
theorem ref09_fold {s : List UInt8} (hs : s.length ≤ 140737488355328) : M_signpostref09_Fold s = some (foldS s) := by
  unfold M_signpostref09_Fold
  have := ref09_fold_loop hs s.length 0 (by omega)
  rw [List.take_zero, List.map_nil, List.nil_append, List.drop_zero, show ((0 : Nat) : Int) = 0 from rfl] at this
  rw [if_pos hs, this]; rfl
/-! ### octet -/
theorem octet_may (w : Int) : M_octet_may w = some (decide (1 ≤ w ∧ w ≤ 8)) := by
  unfold M_octet_may
  by_cases h : 1 ≤ w <;> simp [h]
/-- The number that stands at a place. -/
def getS (b : List UInt8) (a w : Int) : UInt64 × Bool := if (1 ≤ w ∧ w ≤ 8) ∧ 0 ≤ a ∧ a + w ≤ b.length then (num ((b.drop a.toNat).take w.toNat), true) else (0, false)
theorem octet_get {b : List UInt8} {a w : Int} (hb : b.length ≤ 4611686018427387904) : M_octet_Get_v b a w = some (getS b a w) := by
  have hk : ∀ t, M_octet_Get_v_k1 a b w t = if t = true then some (0, false) else if (0 ≤ a ∧ 0 ≤ w) ∧ a + w ≤ b.length then some (num ((b.drop a.toNat).take w.toNat), true) else M_octet_Get_v_k1 a b w t := by
    intro t
    by_cases ht : t = true
    · subst ht; rfl
    · rw [if_neg ht]
      by_cases h : (0 ≤ a ∧ 0 ≤ w) ∧ a + w ≤ b.length
      · rw [if_pos h]
        unfold M_octet_Get_v_k1
        have e : (b.take (a + w).toNat).drop a.toNat = (b.drop a.toNat).take w.toNat := by
          rw [List.drop_take]; congr 1; omega
        rw [if_neg ht, if_pos (ok_small (by omega)), if_pos (by omega), loop_fold0 ((b.drop a.toNat).take w.toNat) (fun n x => n * 256 + x.toUInt64) (by simp; omega)]
        · rfl
        · intro s t
          unfold M_octet_Get_v_b2
          rw [e]
          simp only [shl_or]
      · rw [if_neg h]
  unfold M_octet_Get_v
  rw [octet_may, Option.bind_some]
  unfold getS
  by_cases h1 : 1 ≤ w ∧ w ≤ 8
  · rw [if_pos (decide_eq_true h1)]
    by_cases h2 : a < 0
    · rw [if_pos h2, hk, if_pos rfl, if_neg (by omega)]
    · rw [if_neg h2]
      by_cases h3 : (b.length : Int) < a
      · rw [if_pos h3, hk, if_pos rfl, if_neg (by omega)]
      · rw [if_neg h3, if_pos (ok_small (by omega)), hk]
        by_cases h4 : (b.length : Int) - a < w
        · rw [if_pos (decide_eq_true h4), if_neg (by omega)]
        · rw [if_neg (by simpa using h4), if_pos (by omega), if_pos (by omega)]
  · rw [if_neg (by simpa using h1), hk, if_pos rfl, if_neg (by simp [h1])]
/-! ### octet.Reader -/
/-- What a reader of these bytes tells next, and what is left. -/
def takeS (r : List UInt8) (bad : Bool) (n : Int) : List UInt8 × List UInt8 × Bool := if bad = true ∨ n < 0 ∨ (r.length : Int) < n then ([], [], true) else (r.take n.toNat, r.drop n.toNat, bad)
def numS (r : List UInt8) (bad : Bool) (w : Int) : UInt64 × List UInt8 × Bool := if bad = true ∨ ¬ (1 ≤ w ∧ w ≤ 8) ∨ (r.length : Int) < w then (0, [], true) else (num (r.take w.toNat), r.drop w.toNat, bad)
theorem octet_cut (r : List UInt8) (o bad : Bool) (n : Int) : M_octet_rest_cut_po r o bad n = some (if bad = true ∨ n < 0 ∨ (r.length : Int) < n then .inl () else .inr ()) := by
  have h1 : M_octet_rest_cut_po_k1 r bad n o true = some (.inl ()) := rfl
  unfold M_octet_rest_cut_po
  by_cases hb : bad = true
  · rw [if_pos hb, h1, if_pos (.inl hb)]
  · rw [if_neg hb]
    by_cases hn : n < 0
    · rw [if_pos hn, h1, if_pos (.inr (.inl hn))]
    · rw [if_neg hn]
      by_cases hl : (r.length : Int) < n
      · rw [decide_eq_true hl, h1, if_pos (.inr (.inr hl))]
      · rw [decide_eq_false hl, if_neg (by simp [hb, hn, hl])]
        unfold M_octet_rest_cut_po_k1
        rw [if_neg (by decide), if_pos (by omega), if_pos (by omega)]
theorem octet_take {r : List UInt8} {bad : Bool} {n : Int} (hr : r.length ≤ 140737488355328) : M_octet_Reader_Take_po r true bad n = some (takeS r bad n) := by
  unfold M_octet_Reader_Take_po M_octet_Reader_none_po takeS
  rw [Option.bind_some, if_pos rfl, octet_cut, Option.bind_some]
  by_cases h : bad = true ∨ n < 0 ∨ (r.length : Int) < n
  · simp only [if_pos h]
  · simp only [if_neg h]
    rw [if_pos (by rw [List.length_take]; omega)]; rfl
theorem takeS_len (r : List UInt8) (bad : Bool) (n : Int) : (takeS r bad n).2.1.length ≤ r.length := by
  unfold takeS; split <;> simp
theorem numS_len (r : List UInt8) (bad : Bool) (n : Int) : (numS r bad n).2.1.length ≤ r.length := by
  unfold numS; split <;> simp
theorem takeS_suffix (r : List UInt8) (bad : Bool) (n : Int) : (takeS r bad n).2.1 <:+ r := by
  unfold takeS; split
  · exact List.nil_suffix
  · exact List.drop_suffix _ _
theorem numS_suffix (r : List UInt8) (bad : Bool) (n : Int) : (numS r bad n).2.1 <:+ r := by
  unfold numS; split
  · exact List.nil_suffix
  · exact List.drop_suffix _ _
theorem octet_num {r : List UInt8} {bad : Bool} {w : Int} (hr : r.length ≤ 140737488355328) : M_octet_Reader_Num_po r true bad w = some (numS r bad w) := by
  unfold M_octet_Reader_Num_po M_octet_Reader_none_po numS
  rw [Option.bind_some, if_pos rfl, octet_may, Option.bind_some]
  by_cases h1 : 1 ≤ w ∧ w ≤ 8
  · rw [if_pos (decide_eq_true h1), octet_cut, Option.bind_some]
    by_cases h : bad = true ∨ w < 0 ∨ (r.length : Int) < w
    · simp only [if_pos h]
      rw [if_pos (by rcases h with h | h | h; · exact .inl h
                     · omega
                     · exact .inr (.inr h))]
    · simp only [if_neg h]
      rw [octet_get (by rw [List.length_take]; omega), Option.bind_some, if_neg (by simp only [not_or] at h ⊢; exact ⟨h.1, fun hh => hh h1, h.2.2⟩)]
      unfold getS
      rw [if_pos ⟨h1, by omega, by rw [List.length_take]; omega⟩]
      simp [List.take_take]
  · rw [if_neg (by simpa using h1), if_pos (.inr (.inl h1))]
    rfl
/-! ### numbers put -/
/-- The bytes of a number, so many, the most significant first. -/
def putF (n : UInt64) : Nat → List UInt8
  | 0 => []
  | d + 1 => (shr64 n (8 * d)).toUInt8 :: putF n d
theorem putF_len (n : UInt64) : ∀ d, (putF n d).length = d
  | 0 => rfl
  | d + 1 => by rw [putF, List.length_cons, putF_len n d]
theorem put_loop {n : UInt64} {w : Nat} (hw : w ≤ 8) : ∀ (d k : Nat) (out : List UInt8), w = k + d → out.length + d ≤ 140737488355328 →
    loopO (fun z_ => M_octet_Put_v_b1 n (w : Int) z_.1 z_.2) (out, (k : Int)) = some (out ++ putF n d) := by
  intro d
  induction d with
  | zero =>
    intro k out h ho
    rw [loopO_end (r := out) (by unfold M_octet_Put_v_b1; rw [if_neg (by omega)]), putF, List.append_nil]
  | succ d ih =>
    intro k out h ho
    have e : (UInt64.ofInt (8 * (((w : Int) - 1) - (k : Int)))).toNat = 8 * d := by
      rw [show (8 * (((w : Int) - 1) - (k : Int)) : Int) = ((8 * d : Nat) : Int) by omega]
      rw [show UInt64.ofInt ((8 * d : Nat) : Int) = UInt64.ofNat (8 * d) by
        apply UInt64.toNat_inj.1
        simp [UInt64.ofInt, UInt64.toNat_ofNat']; omega, UInt64.toNat_ofNat']
      omega
    rw [loopO_next (s' := (out ++ [(shr64 n (8 * d)).toUInt8], ((k + 1 : Nat) : Int))) (by
      show M_octet_Put_v_b1 n (w : Int) out (k : Int) = _
      unfold M_octet_Put_v_b1
      rw [if_pos (by omega), if_pos (ok_small (by omega)), if_pos (ok_small (by omega)), if_pos (ok_small (by omega)), if_pos (by omega), if_pos (ok_small (by omega)), e]; rfl),
      ih (k + 1) _ (by omega) (by rw [List.length_append, List.length_singleton]; omega), putF, List.append_assoc]
    rfl
theorem octet_put {b : List UInt8} {n : UInt64} {w : Int} (hb : b.length ≤ 140737488355320) : M_octet_Put_v b n w = some (if 1 ≤ w ∧ w ≤ 8 then b ++ putF n w.toNat else b) := by
  unfold M_octet_Put_v
  rw [if_pos (by omega), octet_may, Option.bind_some]
  by_cases h : 1 ≤ w ∧ w ≤ 8
  · have hl := put_loop (n := n) (w := w.toNat) (by omega) w.toNat 0 b (by omega) (by omega)
    rw [show ((w.toNat : Nat) : Int) = w by omega, show ((0 : Nat) : Int) = 0 from rfl] at hl
    rw [if_pos (decide_eq_true h), if_pos h, List.nil_append, hl]
    rfl
  · rw [if_neg (by simpa using h), if_neg h]; rfl
/-! ### what is read is what was put -/
/-- The number that bytes tell, without a limit. -/
def val : List UInt8 → Nat
  | [] => 0
  | x :: l => x.toNat * 256 ^ l.length + val l
theorem val_lt : ∀ l : List UInt8, val l < 256 ^ l.length
  | [] => by simp [val]
  | x :: l => by
    have h1 := val_lt l
    have h2 := x.toNat_lt
    have h3 : x.toNat * 256 ^ l.length ≤ 255 * 256 ^ l.length := Nat.mul_le_mul_right _ (by omega)
    rw [val, List.length_cons, Nat.pow_succ]
    omega
theorem fold_val : ∀ (l : List UInt8) (s : UInt64), (l.foldl (fun n x => n * 256 + x.toUInt64) s).toNat = (s.toNat * 256 ^ l.length + val l) % 18446744073709551616
  | [], s => by
    have := s.toNat_lt
    simp [val]
  | x :: l, s => by
    rw [List.foldl_cons, fold_val l]
    have e1 : x.toUInt64.toNat = x.toNat := by simp
    rw [UInt64.toNat_add, UInt64.toNat_mul, e1, show (256 : UInt64).toNat = 256 from rfl]
    have e3 : (s.toNat * 256 % 2 ^ 64 + x.toNat) % 2 ^ 64 = (s.toNat * 256 + x.toNat) % 18446744073709551616 := by omega
    rw [e3, Nat.add_mod, Nat.mul_mod, Nat.mod_mod, ← Nat.mul_mod, ← Nat.add_mod]
    congr 1
    rw [val, List.length_cons, Nat.pow_succ, Nat.add_mul, Nat.mul_comm (256 ^ l.length) 256, ← Nat.mul_assoc]
    omega
theorem num_val (l : List UInt8) (h : l.length ≤ 8) : (num l).toNat = val l := by
  have h1 := fold_val l 0
  have h2 := val_lt l
  have h3 : 256 ^ l.length ≤ 256 ^ 8 := Nat.pow_le_pow_right (by omega) h
  rw [show (0 : UInt64).toNat = 0 from rfl, Nat.zero_mul, Nat.zero_add, Nat.mod_eq_of_lt (by omega)] at h1
  exact h1
theorem put_val : ∀ (l : List UInt8) (n : UInt64) (q : Nat), l.length ≤ 8 → n.toNat = q * 256 ^ l.length + val l → putF n l.length = l
  | [], n, q, _, _ => rfl
  | x :: l, n, q, hl, e => by
    have h1 := val_lt l
    have h2 := x.toNat_lt
    have hn := n.toNat_lt
    have h3 : 0 < 256 ^ l.length := Nat.pow_pos (by omega)
    have e0 : (256 : Nat) ^ l.length = 2 ^ (8 * l.length) := by rw [Nat.pow_mul]
    have e' : n.toNat = (q * 256 + x.toNat) * 256 ^ l.length + val l := by
      rw [e, val, List.length_cons, Nat.pow_succ, Nat.add_mul, Nat.mul_comm (256 ^ l.length) 256, ← Nat.mul_assoc]; omega
    rw [List.length_cons, putF, put_val l n (q * 256 + x.toNat) (by rw [List.length_cons] at hl; omega) e']
    congr 1
    apply UInt8.toNat_inj.1
    have e1 : n.toNat / 256 ^ l.length = q * 256 + x.toNat := by
      rw [e', Nat.add_comm, Nat.add_mul_div_right _ _ h3, Nat.div_eq_of_lt h1]; omega
    have e2 : (shr64 n (8 * l.length)).toUInt8.toNat = n.toNat / 256 ^ l.length % 256 := by
      rw [e0]
      have : n.toNat / 2 ^ (8 * l.length) ≤ n.toNat := Nat.div_le_self _ _
      simp [shr64]
    rw [e2, e1]; omega
theorem put_num (l : List UInt8) (h : l.length ≤ 8) : putF (num l) l.length = l := put_val l (num l) 0 h (by rw [num_val l h]; omega)
/-! ### signpostref01 -/
theorem ref01_loop {b : List UInt8} {a w : Nat} (hb : b.length ≤ 4611686018427387904) (h : a + w ≤ b.length) : ∀ (d k : Nat) (s : UInt64), w = k + d →
    loopO (fun z_ => M_signpostref01_Get_v_b2 (a : Int) b (w : Int) z_.1 z_.2) (s, (k : Int)) = some ((((b.drop a).take w).drop k).foldl (fun n x => n * 256 + x.toUInt64) s) := by
  intro d
  induction d with
  | zero =>
    intro k s hk
    rw [loopO_end (r := s) (by simp only [M_signpostref01_Get_v_b2]; rw [if_neg (by omega)]), List.drop_of_length_le (by simp; omega)]; rfl
  | succ d ih =>
    intro k s hk
    have hlen : ((b.drop a).take w).length = w := by rw [List.length_take, List.length_drop]; omega
    have hx : at? b ((a : Int) + (k : Int)) = some ((b.drop a).take w)[k] := by
      have := at?_in (l := b) (k := a + k) (by omega)
      rw [Int.natCast_add] at this
      rw [this]; simp
    rw [loopO_next (s' := (s * 256 + (((b.drop a).take w)[k]).toUInt64, ((k + 1 : Nat) : Int))) (by
      simp only [M_signpostref01_Get_v_b2]
      rw [if_pos (by omega), if_pos (ok_small (by omega)), hx, Option.bind_some, if_pos (ok_small (by omega))]; rfl), ih (k + 1) _ (by omega), List.drop_eq_getElem_cons (i := k) (by omega)]
    rfl
theorem ref01_get {b : List UInt8} {a w : Int} (hb : b.length ≤ 4611686018427387904) : M_signpostref01_Get_v b a w = some (getS b a w) := by
  have hk0 : M_signpostref01_Get_v_k1 a b w true = some (0, false) := rfl
  unfold M_signpostref01_Get_v getS
  by_cases h1 : w < 1
  · rw [if_pos h1, hk0, if_neg (by omega)]
  · rw [if_neg h1]
    by_cases h2 : 8 < w
    · rw [if_pos h2, hk0, if_neg (by omega)]
    · rw [if_neg h2]
      by_cases h3 : a < 0
      · rw [if_pos h3, hk0, if_neg (by omega)]
      · rw [if_neg h3]
        by_cases h4 : (b.length : Int) < a
        · rw [if_pos h4, hk0, if_neg (by omega)]
        · rw [if_neg h4, if_pos (ok_small (by omega))]
          by_cases h5 : (b.length : Int) - a < w
          · rw [decide_eq_true h5, hk0, if_neg (by omega)]
          · rw [decide_eq_false h5, if_pos (by omega)]
            obtain ⟨a', rfl⟩ : ∃ n : Nat, a = n := ⟨a.toNat, by omega⟩
            obtain ⟨w', rfl⟩ : ∃ n : Nat, w = n := ⟨w.toNat, by omega⟩
            unfold M_signpostref01_Get_v_k1
            rw [if_neg (by decide)]
            have := ref01_loop (a := a') (w := w') hb (by omega) w' 0 0 (by omega)
            rw [show ((0 : Nat) : Int) = 0 from rfl] at this
            rw [this]
            rfl
/-- Where a reader of the reference stands, if this is left. -/
def refAt (B r : List UInt8) : Int := (B.length : Int) - r.length
theorem refAt_drop {B r : List UInt8} (h : r <:+ B) : B.drop (refAt B r).toNat = r ∧ 0 ≤ refAt B r ∧ refAt B r ≤ B.length := by
  obtain ⟨p, rfl⟩ := h
  unfold refAt
  rw [List.length_append]
  have : ((p.length + r.length : Nat) : Int) - r.length = p.length := by omega
  rw [this]
  refine ⟨?_, by omega, by omega⟩
  simp
theorem ref01_take {B r : List UInt8} {bad : Bool} {n : Int} (hB : B.length ≤ 140737488355328) (hr : r <:+ B) (hn : n ≤ 9223372036854775807) :
    M_signpostref01_Reader_Take_pv B (refAt B r) bad n = some ((takeS r bad n).1, refAt B (takeS r bad n).2.1, (takeS r bad n).2.2) := by
  obtain ⟨h1, h2, h3⟩ := refAt_drop hr
  have hk : ∀ A, M_signpostref01_Reader_Take_pv_k1 A B bad n true = some ([], (B.length : Int), true) := fun A => rfl
  have e0 : refAt B [] = B.length := by simp [refAt]
  have e1 : (B.length : Int) - refAt B r = r.length := by unfold refAt; omega
  unfold M_signpostref01_Reader_Take_pv takeS
  by_cases hb : bad = true
  · rw [if_pos hb, hk, if_pos (.inl hb), e0]
  · rw [if_neg hb]
    by_cases hn0 : n < 0
    · rw [if_pos hn0, hk, if_pos (.inr (.inl hn0)), e0]
    · rw [if_neg hn0, e1, if_pos (ok_small (by have := hr.length_le; omega))]
      by_cases hl : (r.length : Int) < n
      · rw [decide_eq_true hl, hk, if_pos (.inr (.inr hl)), e0]
      · rw [decide_eq_false hl, if_neg (by simp [hb, hn0, hl])]
        unfold M_signpostref01_Reader_Take_pv_k1
        have e2 : refAt B r + n - n = refAt B r := by omega
        have e3 : (B.take (refAt B r + n).toNat).drop (refAt B r).toNat = r.take n.toNat := by
          rw [List.drop_take, h1]; congr 1; omega
        have e4 : refAt B (r.drop n.toNat) = refAt B r + n := by
          unfold refAt; rw [List.length_drop]; omega
        rw [if_neg (by decide), if_pos (ok_small (by omega)), e2, if_pos (ok_small (by omega)), if_pos (by omega), e3, if_pos (by rw [List.length_take]; omega), e4]
        rfl
theorem ref01_num {B r : List UInt8} {bad : Bool} {w : Int} (hB : B.length ≤ 140737488355328) (hr : r <:+ B) :
    M_signpostref01_Reader_Num_pv B (refAt B r) bad w = some ((numS r bad w).1, refAt B (numS r bad w).2.1, (numS r bad w).2.2) := by
  obtain ⟨h1, h2, h3⟩ := refAt_drop hr
  have hk : ∀ A b u, M_signpostref01_Reader_Num_pv_k1 A B b u w true = some (0, (B.length : Int), true) := fun A b u => rfl
  have e0 : refAt B [] = B.length := by simp [refAt]
  have e1 : (B.length : Int) - refAt B r = r.length := by unfold refAt; omega
  unfold M_signpostref01_Reader_Num_pv numS
  rw [ref01_get (by omega), Option.bind_some]
  unfold getS
  by_cases hb : bad = true
  · simp only [if_pos hb, hk]
    rw [if_pos (.inl hb), e0]
  · by_cases hg : (1 ≤ w ∧ w ≤ 8) ∧ 0 ≤ refAt B r ∧ refAt B r + w ≤ B.length
    · simp only [if_pos hg, if_neg hb]
      rw [if_neg (by simp only [not_or]; exact ⟨hb, fun h => h hg.1, by omega⟩)]
      unfold M_signpostref01_Reader_Num_pv_k1
      have e4 : refAt B (r.drop w.toNat) = refAt B r + w := by
        unfold refAt; rw [List.length_drop]; omega
      rw [if_neg (by decide), if_pos (ok_small (by omega)), h1, e4]
    · simp only [if_neg hg, if_neg hb, Bool.not_false, hk]
      rw [if_pos (by
        by_cases hw : 1 ≤ w ∧ w ≤ 8
        · exact .inr (.inr (by omega))
        · exact .inr (.inl hw)), e0]
/-! ### instances -/
noncomputable def goodI (i : G_api_Instance) : Bool := decide (1 ≤ i.Life ∧ i.Life ≤ 2147483647) && (if i.Gone = true then decide (i.Priority = 0 ∧ i.Weight = 0 ∧ i.Port = 0 ∧ i.Target = []) else !decide (i.Port = 0) && (goodN i.Target && decide (foldS i.Target = i.Target)))
theorem inst_good {i : G_api_Instance} (h : i.Target.length ≤ 140737488355328) : M_inst_Good i = some (goodI i) := by
  have hk1 : M_inst_Good_k1 i true = some false := rfl
  have hm : i.Target.length ≤ maxLen := by simp only [maxLen]; omega
  unfold M_inst_Good goodI
  by_cases h1 : i.Life < 1
  · rw [if_pos h1, hk1, decide_eq_false (fun hh => absurd h1 (UInt32.not_lt.2 hh.1))]; rfl
  · rw [if_neg h1]
    by_cases h2 : 2147483647 < i.Life
    · rw [decide_eq_true h2, hk1, decide_eq_false (fun hh => absurd h2 (UInt32.not_lt.2 hh.2))]; rfl
    · rw [decide_eq_false h2, decide_eq_true ⟨UInt32.not_lt.1 h1, UInt32.not_lt.1 h2⟩, Bool.true_and]
      unfold M_inst_Good_k1
      rw [if_neg (by decide)]
      by_cases hg : i.Gone = true
      · rw [if_pos hg, if_pos hg, if_pos hm]
        refine congrArg some (decide_eq_decide.2 ?_)
        cases i
        simp only [G_api_Instance.mk.injEq, true_and]
        constructor
        · rintro ⟨a, b, c, d⟩; exact ⟨a.symm, b.symm, c.symm, d.symm⟩
        · rintro ⟨a, b, c, d⟩; exact ⟨a.symm, b.symm, c.symm, d.symm⟩
      · rw [if_neg hg, if_neg hg]
        by_cases hp : i.Port = 0
        · rw [if_pos hp, decide_eq_true hp]; rfl
        · rw [if_neg hp, decide_eq_false hp, label_good h, Option.bind_some]
          cases goodN i.Target with
          | false => rfl
          | true => rw [if_pos rfl, label_fold h, Option.bind_some]; rfl
/-- What a target may at most be. -/
theorem goodI_len {i : G_api_Instance} (h : goodI i = true) : i.Target.length ≤ 253 := by
  unfold goodI at h
  rw [Bool.and_eq_true] at h
  by_cases hg : i.Gone = true
  · rw [if_pos hg] at h
    rw [(of_decide_eq_true h.2).2.2.2]; simp
  · rw [if_neg hg, Bool.and_eq_true, Bool.and_eq_true] at h
    exact (goodN_iff.1 h.2.2.1).1
/-! ### their bytes -/
def tailI (i : G_api_Instance) : List UInt8 := if i.Gone = true then putF 1 1 else putF 0 1 ++ (putF i.Priority.toUInt64 2 ++ (putF i.Weight.toUInt64 2 ++ (putF i.Port.toUInt64 2 ++ (putF (UInt64.ofInt (i.Target.length : Int)) 2 ++ i.Target))))
def bytesI (i : G_api_Instance) : List UInt8 := List.ofFn i.Publisher ++ (putF i.Seq 8 ++ (putF i.Born 8 ++ (putF i.Life.toUInt64 4 ++ tailI i)))
theorem inst_put {x : List UInt8} {n : UInt64} {w : Int} (hx : x.length ≤ 1000000) (hw : 1 ≤ w ∧ w ≤ 8) : M_inst_Bytes_1_po n w x = some (x ++ putF n w.toNat) := by
  unfold M_inst_Bytes_1_po
  rw [octet_put (by omega), if_pos hw]; rfl
theorem octet_text {b s : List UInt8} (hb : b.length ≤ 1000000) (hs : s.length ≤ 1024) : M_octet_Text_v b s = some (b ++ putF (UInt64.ofInt (s.length : Int)) 2 ++ s, 0) := by
  unfold M_octet_Text_v
  rw [if_neg (by omega), octet_put (by omega), if_pos (by decide), Option.bind_some, if_pos (by rw [List.length_append, putF_len]; simp only [show (2 : Int).toNat = 2 from rfl]; omega)]; rfl
theorem inst_bytes {i : G_api_Instance} (h : i.Target.length ≤ 140737488355328) : M_inst_Bytes i = some (if goodI i = true then (bytesI i, 0) else ([], 2)) := by
  unfold M_inst_Bytes
  rw [inst_good h, Option.bind_some]
  by_cases hg : goodI i = true
  · have hl := goodI_len hg
    have h20 : (List.ofFn i.Publisher).length = 20 := by simp
    rw [if_pos hg, if_pos hg]
    unfold M_bytes_Clone_v
    rw [if_pos (by rw [h20]; decide), Option.bind_some, List.nil_append, inst_put (by omega) (by decide), Option.bind_some, inst_put (by simp [putF_len]) (by decide), Option.bind_some, inst_put (by simp [putF_len]) (by decide), Option.bind_some]
    unfold bytesI tailI
    by_cases hgo : i.Gone = true
    · rw [if_pos hgo, if_pos hgo, inst_put (by simp [putF_len]) (by decide), Option.bind_some]
      simp only [List.append_assoc]; rfl
    · rw [if_neg hgo, if_neg hgo, inst_put (by simp [putF_len]) (by decide), Option.bind_some, inst_put (by simp [putF_len]) (by decide), Option.bind_some, inst_put (by simp [putF_len]) (by decide), Option.bind_some, inst_put (by simp [putF_len]) (by decide), Option.bind_some,
        octet_text (by simp [putF_len]) (by omega), Option.bind_some]
      simp only [List.append_assoc]; rfl
  · rw [if_neg hg, if_neg hg]
/-! ### signpostref11 -/
theorem ref11_good {i : G_api_Instance} (h : i.Target.length ≤ 1000000) : M_signpostref11_Good i = some (goodI i) := by
  have hk1 : M_signpostref11_Good_k1 i true = some false := rfl
  unfold M_signpostref11_Good goodI
  by_cases h1 : i.Life < 1
  · rw [if_pos h1, hk1, decide_eq_false (fun hh => absurd h1 (UInt32.not_lt.2 hh.1))]; rfl
  · rw [if_neg h1]
    by_cases h2 : 2147483647 < i.Life
    · rw [decide_eq_true h2, hk1, decide_eq_false (fun hh => absurd h2 (UInt32.not_lt.2 hh.2))]; rfl
    · rw [decide_eq_false h2, decide_eq_true ⟨UInt32.not_lt.1 h1, UInt32.not_lt.1 h2⟩, Bool.true_and]
      unfold M_signpostref11_Good_k1 M_signpostref11_Good_k2
      rw [if_neg (by decide)]
      by_cases hg : i.Gone = true
      · rw [if_pos hg, if_pos hg]
        by_cases h3 : i.Priority = 0
        · by_cases h4 : i.Weight = 0
          · by_cases h5 : i.Port = 0
            · simp [h3, h4, h5]
            · simp [h3, h4, h5]
          · simp [h3, h4]
        · simp [h3]
      · rw [if_neg hg, if_neg hg]
        by_cases hp : i.Port = 0
        · rw [if_pos hp, decide_eq_true hp]; rfl
        · rw [if_neg hp, decide_eq_false hp, ref09_good h, Option.bind_some]
          cases goodN i.Target with
          | false => rfl
          | true => rw [if_pos rfl, ref09_fold (by omega), Option.bind_some]; rfl
/-! ### instances, read -/
/-- A reader's text. -/
def textS (r : List UInt8) (bad : Bool) (most : Int) : List UInt8 × List UInt8 × Bool :=
  if (numS r bad 2).2.2 = true ∨ most < ((numS r bad 2).1.toNat : Int) ∨ 1024 < ((numS r bad 2).1.toNat : Int) then ([], [], true) else takeS (numS r bad 2).2.1 (numS r bad 2).2.2 ((numS r bad 2).1.toNat : Int)
theorem num_small : ∀ (l : List UInt8) (s : UInt64), l.length ≤ 2 → s.toNat < 65536 → l.length = 2 → (l.foldl (fun n x => n * 256 + x.toUInt64) s).toNat < 9223372036854775808
  | [a, b], s, _, hs, _ => by
    have ha := a.toNat_lt
    have hb := b.toNat_lt
    simp only [List.foldl_cons, List.foldl_nil, UInt64.toNat_add, UInt64.toNat_mul, UInt8.toNat_toUInt64, show (256 : UInt64).toNat = 256 from rfl]
    omega
theorem numS_two (r : List UInt8) (bad : Bool) : (numS r bad 2).1.toNat < 9223372036854775808 := by
  unfold numS
  split
  · decide
  · rename_i h
    simp only [not_or] at h
    have hl : (r.take (2 : Int).toNat).length = 2 := by rw [List.length_take]; omega
    exact num_small _ 0 (by omega) (by decide) hl
theorem octet_rtext {r : List UInt8} {bad : Bool} {most : Int} (hr : r.length ≤ 140737488355328) : M_octet_Reader_Text_po r true bad most = some (textS r bad most) := by
  have hn := numS_len r bad 2
  have h2 := numS_two r bad
  unfold M_octet_Reader_Text_po M_octet_Reader_none_po textS
  rw [some_bindP, if_pos rfl, octet_num hr, some_bindP]
  generalize numS r bad 2 = x at hn h2 ⊢
  obtain ⟨n, r', b'⟩ := x
  have hk : M_octet_Reader_Text_po_k1 true n r' b' true = some ([], [], true) := rfl
  simp only [] at hn h2 ⊢
  rw [if_pos h2]
  by_cases h3 : b' = true
  · rw [if_pos h3, hk, if_pos (.inl h3)]
  · rw [if_neg h3]
    by_cases h4 : most < (n.toNat : Int)
    · rw [if_pos h4, hk, if_pos (.inr (.inl h4))]
    · rw [if_neg h4]
      by_cases h5 : 1024 < (n.toNat : Int)
      · rw [decide_eq_true h5, hk, if_pos (.inr (.inr h5))]
      · rw [decide_eq_false h5, if_neg (by simp only [not_or]; exact ⟨h3, h4, h5⟩)]
        unfold M_octet_Reader_Text_po_k1
        rw [if_neg (by decide), octet_take (by omega)]; rfl
theorem textS_suffix (r : List UInt8) (bad : Bool) (n : Int) : (textS r bad n).2.1 <:+ r := by
  unfold textS; split
  · exact List.nil_suffix
  · exact (takeS_suffix _ _ _).trans (numS_suffix _ _ _)
theorem textS_len (r : List UInt8) (bad : Bool) (n : Int) : (textS r bad n).1.length ≤ r.length := by
  unfold textS; split
  · simp
  · have := numS_len r bad 2
    unfold takeS; split
    · simp
    · rw [List.length_take]; omega
/-- What is read, as fields; the number that tells whether it is gone; what is left. -/
def fieldsI (r : List UInt8) (bad : Bool) : G_api_Instance × UInt64 × List UInt8 × Bool :=
  let a := takeS r bad 20
  let b := numS a.2.1 a.2.2 8
  let c := numS b.2.1 b.2.2 8
  let d := numS c.2.1 c.2.2 4
  let e := numS d.2.1 d.2.2 1
  if e.1 = 0 then
    let f := numS e.2.1 e.2.2 2
    let g := numS f.2.1 f.2.2 2
    let h := numS g.2.1 g.2.2 2
    let t := textS h.2.1 h.2.2 1024
    (G_api_Instance.mk (copyA (fun _ => 0) a.1) b.1 c.1 d.1.toUInt32 (decide (e.1 = 1)) f.1.toUInt16 g.1.toUInt16 h.1.toUInt16 t.1, e.1, t.2.1, t.2.2)
  else (G_api_Instance.mk (copyA (fun _ => 0) a.1) b.1 c.1 d.1.toUInt32 (decide (e.1 = 1)) 0 0 0 [], e.1, e.2.1, e.2.2)
def noneI : G_api_Instance := G_api_Instance.mk (fun _ => 0) 0 0 0 false 0 0 0 []
noncomputable def readI (r : List UInt8) (bad : Bool) : G_api_Instance × Bool × List UInt8 × Bool :=
  if (fieldsI r bad).2.2.2 = true ∨ 1 < (fieldsI r bad).2.1 ∨ goodI (fieldsI r bad).1 = false then (noneI, false, [], true) else ((fieldsI r bad).1, true, (fieldsI r bad).2.2.1, (fieldsI r bad).2.2.2)
theorem take_back (r : List UInt8) (bad : Bool) : takeS r bad (-1) = ([], [], true) := by unfold takeS; rw [if_pos (.inr (.inl (by decide)))]
theorem read_k1 {r : List UInt8} {bad : Bool} {i : G_api_Instance} {n : UInt64} (hr : r.length ≤ 140737488355328) (hi : i.Target.length ≤ 140737488355328) :
    M_inst_Read_po_k1 true n r bad i = some (if bad = true ∨ 1 < n ∨ goodI i = false then (noneI, false, [], true) else (i, true, r, bad)) := by
  have hk : M_inst_Read_po_k2 r bad i true true = some (noneI, false, [], true) := by
    unfold M_inst_Read_po_k2
    rw [if_pos rfl, octet_take hr, take_back, some_bindP]; rfl
  unfold M_inst_Read_po_k1 M_octet_Reader_Bad_po M_octet_Reader_none_po
  rw [some_bindP, if_pos rfl, some_bindP]
  by_cases h1 : bad = true
  · rw [if_pos h1, hk, if_pos (.inl h1)]
  · rw [if_neg h1]
    by_cases h2 : 1 < n
    · rw [if_pos h2, hk, if_pos (.inr (.inl h2))]
    · rw [if_neg h2, inst_good hi, some_bindP]
      cases h3 : goodI i with
      | false => rw [Bool.not_false, hk, if_pos (.inr (.inr rfl))]
      | true =>
        rw [Bool.not_true, if_neg (by simp only [not_or]; exact ⟨h1, h2, by decide⟩)]
        unfold M_inst_Read_po_k2
        rw [if_neg (by decide)]
theorem inst_read {r : List UInt8} {bad : Bool} (hr : r.length ≤ 140737488355328) : M_inst_Read_po r true bad = some (readI r bad) := by
  have l1 := takeS_len r bad 20
  unfold M_inst_Read_po readI fieldsI
  rw [octet_take hr, some_bindP]
  generalize takeS r bad 20 = a at l1 ⊢
  obtain ⟨a1, a2, a3⟩ := a
  simp only [] at l1 ⊢
  have l2 := numS_len a2 a3 8
  rw [octet_num (by omega), some_bindP]
  generalize numS a2 a3 8 = b at l2 ⊢
  obtain ⟨b1, b2, b3⟩ := b
  simp only [] at l2 ⊢
  have l3 := numS_len b2 b3 8
  rw [octet_num (by omega), some_bindP]
  generalize numS b2 b3 8 = c at l3 ⊢
  obtain ⟨c1, c2, c3⟩ := c
  simp only [] at l3 ⊢
  have l4 := numS_len c2 c3 4
  rw [octet_num (by omega), some_bindP]
  generalize numS c2 c3 4 = d at l4 ⊢
  obtain ⟨d1, d2, d3⟩ := d
  simp only [] at l4 ⊢
  have l5 := numS_len d2 d3 1
  rw [octet_num (by omega), some_bindP]
  generalize numS d2 d3 1 = e at l5 ⊢
  obtain ⟨e1, e2, e3⟩ := e
  simp only [] at l5 ⊢
  by_cases h0 : e1 = 0
  · simp only [if_pos h0]
    have l6 := numS_len e2 e3 2
    rw [octet_num (by omega), some_bindP]
    generalize numS e2 e3 2 = f at l6 ⊢
    obtain ⟨f1, f2, f3⟩ := f
    simp only [] at l6 ⊢
    have l7 := numS_len f2 f3 2
    rw [octet_num (by omega), some_bindP]
    generalize numS f2 f3 2 = g at l7 ⊢
    obtain ⟨g1, g2, g3⟩ := g
    simp only [] at l7 ⊢
    have l8 := numS_len g2 g3 2
    rw [octet_num (by omega), some_bindP]
    generalize numS g2 g3 2 = h at l8 ⊢
    obtain ⟨h1, h2, h3⟩ := h
    simp only [] at l8 ⊢
    have l9 := (textS_suffix h2 h3 1024).length_le
    have l10 := textS_len h2 h3 1024
    rw [octet_rtext (by omega), some_bindP]
    generalize textS h2 h3 1024 = t at l9 l10 ⊢
    obtain ⟨t1, t2, t3⟩ := t
    simp only [] at l9 l10 ⊢
    exact read_k1 (by omega) (by simp only []; omega)
  · simp only [if_neg h0]
    exact read_k1 (by omega) (by simp)
/-! ### what is written is read again -/
theorem copy_ofFn {f : Fin 20 → UInt8} {l : List UInt8} (h : l.length = 20) : List.ofFn (copyA f l) = l := by
  rw [copyA_list, List.take_of_length_le (by omega), List.drop_of_length_le (by simp; omega), List.append_nil]
/-! ### what is read has just these bytes -/
theorem takeS_form {r : List UInt8} {bad : Bool} {n : Int} (h : (takeS r bad n).2.2 = false) : bad = false ∧ r = (takeS r bad n).1 ++ (takeS r bad n).2.1 ∧ ((takeS r bad n).1.length : Int) = n := by
  unfold takeS at h ⊢
  split at h
  · cases h
  · rename_i hh
    rw [if_neg hh]
    simp only [not_or] at hh
    exact ⟨by simpa using hh.1, (List.take_append_drop _ _).symm, by simp only [List.length_take]; omega⟩
theorem num_lt (l : List UInt8) (h : l.length ≤ 8) : (num l).toNat < 256 ^ l.length := by rw [num_val l h]; exact val_lt l
theorem numS_form {r : List UInt8} {bad : Bool} (d : Nat) (h : (numS r bad (d : Int)).2.2 = false) : bad = false ∧ r = putF (numS r bad (d : Int)).1 d ++ (numS r bad (d : Int)).2.1 ∧ (numS r bad (d : Int)).1.toNat < 256 ^ d := by
  unfold numS at h ⊢
  split at h
  · cases h
  · rename_i hh
    rw [if_neg hh]
    simp only [not_or, Decidable.not_not] at hh
    have hl : (r.take ((d : Nat) : Int).toNat).length = d := by rw [List.length_take]; omega
    have h1 := put_num (r.take ((d : Nat) : Int).toNat) (by omega)
    have h2 := num_lt (r.take ((d : Nat) : Int).toNat) (by omega)
    rw [hl] at h1 h2
    exact ⟨by simpa using hh.1, by simp only [h1, List.take_append_drop], h2⟩
theorem textS_form {r : List UInt8} {bad : Bool} (h : (textS r bad 1024).2.2 = false) : bad = false ∧ r = putF (UInt64.ofInt ((textS r bad 1024).1.length : Int)) 2 ++ ((textS r bad 1024).1 ++ (textS r bad 1024).2.1) := by
  have hf := numS_form (r := r) (bad := bad) 2
  rw [show ((2 : Nat) : Int) = 2 from rfl] at hf
  unfold textS at h ⊢
  split at h
  · cases h
  · rename_i hh
    rw [if_neg hh]
    obtain ⟨h1, h2, h3⟩ := takeS_form h
    obtain ⟨h4, h5, h6⟩ := hf h1
    refine ⟨h4, ?_⟩
    rw [h3, ← h2]
    rw [show UInt64.ofInt (((numS r bad 2).1.toNat : Nat) : Int) = (numS r bad 2).1 by
      apply UInt64.toNat_inj.1
      have := (numS r bad 2).1.toNat_lt
      simp [UInt64.ofInt, UInt64.toNat_ofNat']; omega]
    exact h5
theorem fieldsI_form {r : List UInt8} (h : (fieldsI r false).2.2.2 = false) (h1 : ¬ 1 < (fieldsI r false).2.1) : r = bytesI (fieldsI r false).1 ++ (fieldsI r false).2.2.1 := by
  have fa := @takeS_form r false 20
  unfold fieldsI at h h1 ⊢
  simp only [] at h h1 ⊢
  generalize takeS r false 20 = a at fa h h1 ⊢
  have fb := numS_form (r := a.2.1) (bad := a.2.2) 8
  rw [show ((8 : Nat) : Int) = 8 from rfl] at fb
  generalize numS a.2.1 a.2.2 8 = b at fb h h1 ⊢
  have fc := numS_form (r := b.2.1) (bad := b.2.2) 8
  rw [show ((8 : Nat) : Int) = 8 from rfl] at fc
  generalize numS b.2.1 b.2.2 8 = c at fc h h1 ⊢
  have fd := numS_form (r := c.2.1) (bad := c.2.2) 4
  rw [show ((4 : Nat) : Int) = 4 from rfl] at fd
  generalize numS c.2.1 c.2.2 4 = d at fd h h1 ⊢
  have fe := numS_form (r := d.2.1) (bad := d.2.2) 1
  rw [show ((1 : Nat) : Int) = 1 from rfl] at fe
  generalize numS d.2.1 d.2.2 1 = e at fe h h1 ⊢
  have ff := numS_form (r := e.2.1) (bad := e.2.2) 2
  rw [show ((2 : Nat) : Int) = 2 from rfl] at ff
  generalize numS e.2.1 e.2.2 2 = f at ff h h1 ⊢
  have fg := numS_form (r := f.2.1) (bad := f.2.2) 2
  rw [show ((2 : Nat) : Int) = 2 from rfl] at fg
  generalize numS f.2.1 f.2.2 2 = g at fg h h1 ⊢
  have fh := numS_form (r := g.2.1) (bad := g.2.2) 2
  rw [show ((2 : Nat) : Int) = 2 from rfl] at fh
  generalize numS g.2.1 g.2.2 2 = k at fh h h1 ⊢
  have ft := @textS_form k.2.1 k.2.2
  generalize textS k.2.1 k.2.2 1024 = t at ft h h1 ⊢
  have head : e.2.2 = false → r = List.ofFn (n := 20) (copyA (fun _ => 0) a.1) ++ (putF b.1 8 ++ (putF c.1 8 ++ (putF d.1.toUInt32.toUInt64 4 ++ (putF e.1 1 ++ e.2.1)))) := by
    intro he
    obtain ⟨he1, he2, _⟩ := fe he
    obtain ⟨hd1, hd2, hd3⟩ := fd he1
    obtain ⟨hc1, hc2, _⟩ := fc hd1
    obtain ⟨hb1, hb2, _⟩ := fb hc1
    obtain ⟨_, ha2, ha3⟩ := fa hb1
    have hd4 : d.1.toUInt32.toUInt64 = d.1 := by
      apply UInt64.toNat_inj.1
      rw [UInt32.toNat_toUInt64, UInt64.toNat_toUInt32]; omega
    rw [copy_ofFn (by omega), hd4, ← he2, ← hd2, ← hc2, ← hb2]
    exact ha2
  by_cases h0 : e.1 = 0
  · simp only [if_pos h0] at h h1 ⊢
    obtain ⟨ht1, ht2⟩ := ft h
    obtain ⟨hk1, hk2, hk3⟩ := fh ht1
    obtain ⟨hg1, hg2, hg3⟩ := fg hk1
    obtain ⟨hf1, hf2, hf3⟩ := ff hg1
    have up : ∀ x : UInt64, x.toNat < 256 ^ 2 → x.toUInt16.toUInt64 = x := by
      intro x hx
      apply UInt64.toNat_inj.1
      rw [UInt16.toNat_toUInt64, UInt64.toNat_toUInt16]; omega
    unfold bytesI tailI
    simp only []
    rw [h0, if_neg (by decide), up _ hf3, up _ hg3, up _ hk3]
    simp only [List.append_assoc]
    rw [← ht2, ← hk2, ← hg2, ← hf2, ← h0]
    exact head hf1
  · simp only [if_neg h0] at h h1 ⊢
    have e1 : e.1 = 1 := by
      apply UInt64.toNat_inj.1
      have h2 : e.1.toNat ≠ 0 := fun hh => h0 (UInt64.toNat_inj.1 hh)
      have h3 := UInt64.le_iff_toNat_le.1 (UInt64.not_lt.1 h1)
      simp only [show (1 : UInt64).toNat = 1 from rfl] at h3 ⊢
      omega
    unfold bytesI tailI
    simp only []
    rw [e1, if_pos (by decide)]
    simp only [List.append_assoc]
    have := head h
    rw [e1] at this
    exact this
theorem readI_form {r : List UInt8} (h : (readI r false).2.1 = true) : goodI (readI r false).1 = true ∧ r = bytesI (readI r false).1 ++ (readI r false).2.2.1 ∧ (readI r false).2.2.2 = false := by
  unfold readI at h ⊢
  split at h
  · cases h
  · rename_i hh
    rw [if_neg hh]
    simp only [not_or] at hh
    exact ⟨by simpa using hh.2.2, fieldsI_form (by simpa using hh.1) hh.2.1, by simpa using hh.1⟩
theorem ref01_rtext {B r : List UInt8} {bad : Bool} {most : Int} (hB : B.length ≤ 140737488355328) (hr : r <:+ B) :
    M_signpostref01_Reader_Text_pv B (refAt B r) bad most = some ((textS r bad most).1, refAt B (textS r bad most).2.1, (textS r bad most).2.2) := by
  have hn := numS_suffix r bad 2
  have h2 := numS_two r bad
  have e0 : refAt B [] = B.length := by simp [refAt]
  unfold M_signpostref01_Reader_Text_pv textS
  rw [ref01_num hB hr, some_bindP]
  generalize numS r bad 2 = x at hn h2 ⊢
  obtain ⟨n, r', b'⟩ := x
  have hk : M_signpostref01_Reader_Text_pv_k1 B n (refAt B r') b' true = some ([], (B.length : Int), true) := rfl
  simp only [] at hn h2 ⊢
  rw [if_pos h2]
  by_cases h3 : b' = true
  · rw [if_pos h3, hk, if_pos (.inl h3), e0]
  · rw [if_neg h3]
    by_cases h4 : most < (n.toNat : Int)
    · rw [if_pos h4, hk, if_pos (.inr (.inl h4)), e0]
    · rw [if_neg h4]
      by_cases h5 : 1024 < (n.toNat : Int)
      · rw [decide_eq_true h5, hk, if_pos (.inr (.inr h5)), e0]
      · rw [decide_eq_false h5, if_neg (by simp only [not_or]; exact ⟨h3, h4, h5⟩)]
        unfold M_signpostref01_Reader_Text_pv_k1
        rw [if_neg (by decide), ref01_take hB (hn.trans hr) (by omega)]; rfl
theorem readR_k1 {B r : List UInt8} {bad : Bool} {i : G_api_Instance} {n : UInt64} (hB : B.length ≤ 140737488355328) (hr : r <:+ B) (hi : i.Target.length ≤ 1000000) :
    M_signpostref11_Read_pv_k1 B n (refAt B r) bad i = some (if bad = true ∨ 1 < n ∨ goodI i = false then (noneI, false, refAt B [], true) else (i, true, refAt B r, bad)) := by
  have hk : M_signpostref11_Read_pv_k2 (refAt B r) B bad i true = some (noneI, false, refAt B [], true) := by
    unfold M_signpostref11_Read_pv_k2
    rw [if_pos rfl, ref01_take hB hr (by decide), take_back, some_bindP]; rfl
  unfold M_signpostref11_Read_pv_k1
  by_cases h1 : bad = true
  · rw [if_pos h1, hk, if_pos (.inl h1)]
  · rw [if_neg h1]
    by_cases h2 : 1 < n
    · rw [if_pos h2, hk, if_pos (.inr (.inl h2))]
    · rw [if_neg h2, ref11_good hi, some_bindP]
      cases h3 : goodI i with
      | false => rw [Bool.not_false, hk, if_pos (.inr (.inr rfl))]
      | true =>
        rw [Bool.not_true, if_neg (by simp only [not_or]; exact ⟨h1, h2, by decide⟩)]
        unfold M_signpostref11_Read_pv_k2
        rw [if_neg (by decide)]
theorem ref11_read {B r : List UInt8} {bad : Bool} (hB : B.length ≤ 1000000) (hr : r <:+ B) :
    M_signpostref11_Read_pv B (refAt B r) bad = some ((readI r bad).1, (readI r bad).2.1, refAt B (readI r bad).2.2.1, (readI r bad).2.2.2) := by
  have fin : ∀ (i : G_api_Instance) (n : UInt64) (r' : List UInt8) (b' : Bool), (if b' = true ∨ 1 < n ∨ goodI i = false then (noneI, false, refAt B [], true) else (i, true, refAt B r', b')) =
      ((if b' = true ∨ 1 < n ∨ goodI i = false then (noneI, false, [], true) else (i, true, r', b')).1, (if b' = true ∨ 1 < n ∨ goodI i = false then (noneI, false, [], true) else (i, true, r', b')).2.1,
        refAt B (if b' = true ∨ 1 < n ∨ goodI i = false then (noneI, false, [], true) else (i, true, r', b')).2.2.1, (if b' = true ∨ 1 < n ∨ goodI i = false then (noneI, false, [], true) else (i, true, r', b')).2.2.2) := by
    intro i n r' b'
    split <;> rfl
  have hB' : B.length ≤ 140737488355328 := by omega
  have l0 := hr.length_le
  have l1 := takeS_suffix r bad 20
  unfold M_signpostref11_Read_pv readI fieldsI
  rw [ref01_take hB' hr (by decide), some_bindP]
  generalize takeS r bad 20 = a at l1 ⊢
  obtain ⟨a1, a2, a3⟩ := a
  simp only [] at l1 ⊢
  have s1 := l1.trans hr
  have l2 := numS_suffix a2 a3 8
  rw [ref01_num hB' s1, some_bindP]
  generalize numS a2 a3 8 = b at l2 ⊢
  obtain ⟨b1, b2, b3⟩ := b
  simp only [] at l2 ⊢
  have s2 := l2.trans s1
  have l3 := numS_suffix b2 b3 8
  rw [ref01_num hB' s2, some_bindP]
  generalize numS b2 b3 8 = c at l3 ⊢
  obtain ⟨c1, c2, c3⟩ := c
  simp only [] at l3 ⊢
  have s3 := l3.trans s2
  have l4 := numS_suffix c2 c3 4
  rw [ref01_num hB' s3, some_bindP]
  generalize numS c2 c3 4 = d at l4 ⊢
  obtain ⟨d1, d2, d3⟩ := d
  simp only [] at l4 ⊢
  have s4 := l4.trans s3
  have l5 := numS_suffix d2 d3 1
  rw [ref01_num hB' s4, some_bindP]
  generalize numS d2 d3 1 = e at l5 ⊢
  obtain ⟨e1, e2, e3⟩ := e
  simp only [] at l5 ⊢
  have s5 := l5.trans s4
  by_cases h0 : e1 = 0
  · simp only [if_pos h0]
    have l6 := numS_suffix e2 e3 2
    rw [ref01_num hB' s5, some_bindP]
    generalize numS e2 e3 2 = f at l6 ⊢
    obtain ⟨f1, f2, f3⟩ := f
    simp only [] at l6 ⊢
    have s6 := l6.trans s5
    have l7 := numS_suffix f2 f3 2
    rw [ref01_num hB' s6, some_bindP]
    generalize numS f2 f3 2 = g at l7 ⊢
    obtain ⟨g1, g2, g3⟩ := g
    simp only [] at l7 ⊢
    have s7 := l7.trans s6
    have l8 := numS_suffix g2 g3 2
    rw [ref01_num hB' s7, some_bindP]
    generalize numS g2 g3 2 = h at l8 ⊢
    obtain ⟨h1, h2, h3⟩ := h
    simp only [] at l8 ⊢
    have s8 := l8.trans s7
    have l9 := textS_suffix h2 h3 1024
    have l10 := textS_len h2 h3 1024
    rw [ref01_rtext hB' s8, some_bindP]
    generalize textS h2 h3 1024 = t at l9 l10 ⊢
    obtain ⟨t1, t2, t3⟩ := t
    simp only [] at l9 l10 ⊢
    have s9 := l9.trans s8
    have := s8.length_le
    rw [readR_k1 hB' s9 (by simp only []; omega), fin]
  · simp only [if_neg h0]
    rw [readR_k1 hB' s5 (by simp), fin]
theorem ite_both {α : Type} {c : Prop} [Decidable c] {P : α → Prop} {x y : α} (hx : P x) (hy : P y) : P (if c then x else y) := by split <;> assumption
theorem readI_len (r : List UInt8) (bad : Bool) : (readI r bad).1.Target.length ≤ r.length ∧ (readI r bad).2.2.1 <:+ r := by
  have key : (fieldsI r bad).1.Target.length ≤ r.length ∧ (fieldsI r bad).2.2.1 <:+ r := by
    have l1 := takeS_suffix r bad 20
    unfold fieldsI
    simp only []
    generalize takeS r bad 20 = a at l1 ⊢
    have l2 := numS_suffix a.2.1 a.2.2 8
    generalize numS a.2.1 a.2.2 8 = b at l2 ⊢
    have l3 := numS_suffix b.2.1 b.2.2 8
    generalize numS b.2.1 b.2.2 8 = c at l3 ⊢
    have l4 := numS_suffix c.2.1 c.2.2 4
    generalize numS c.2.1 c.2.2 4 = d at l4 ⊢
    have l5 := numS_suffix d.2.1 d.2.2 1
    generalize numS d.2.1 d.2.2 1 = e at l5 ⊢
    have s5 := l5.trans (l4.trans (l3.trans (l2.trans l1)))
    have l6 := numS_suffix e.2.1 e.2.2 2
    generalize numS e.2.1 e.2.2 2 = f at l6 ⊢
    have l7 := numS_suffix f.2.1 f.2.2 2
    generalize numS f.2.1 f.2.2 2 = g at l7 ⊢
    have l8 := numS_suffix g.2.1 g.2.2 2
    generalize numS g.2.1 g.2.2 2 = h at l8 ⊢
    have s8 := l8.trans (l7.trans (l6.trans s5))
    have l9 := textS_suffix h.2.1 h.2.2 1024
    have l10 := textS_len h.2.1 h.2.2 1024
    generalize textS h.2.1 h.2.2 1024 = t at l9 l10 ⊢
    have := s8.length_le
    refine ite_both (P := fun x : G_api_Instance × UInt64 × List UInt8 × Bool => x.1.Target.length ≤ r.length ∧ x.2.2.1 <:+ r) ?_ ?_
    · exact ⟨Nat.le_trans l10 this, l9.trans s8⟩
    · exact ⟨Nat.zero_le _, s5⟩
  unfold readI
  exact ite_both (P := fun x : G_api_Instance × Bool × List UInt8 × Bool => x.1.Target.length ≤ r.length ∧ x.2.2.1 <:+ r) ⟨Nat.zero_le _, List.nil_suffix⟩ key
/-- What an order tells. -/
def OrdI {α : Type} (c : α → α → Int) : Prop := (∀ a b, c a b = - c b a) ∧ (∀ a b, -1 ≤ c a b ∧ c a b ≤ 1) ∧ ∀ a b d, 0 ≤ c a b → 0 ≤ c b d → 0 ≤ c a d ∧ (0 < c a b ∨ 0 < c b d → 0 < c a d)
def cmpN (x y : Nat) : Int := if x < y then -1 else if y < x then 1 else 0
theorem OrdI.on {α β : Type} {c : β → β → Int} (h : OrdI c) (f : α → β) : OrdI fun a b => c (f a) (f b) := ⟨fun a b => h.1 _ _, fun a b => h.2.1 _ _, fun a b d => h.2.2 _ _ _⟩
def elseI (x y : Int) : Int := if x = 0 then y else x
theorem OrdI.or {α : Type} {c d : α → α → Int} (hc : OrdI c) (hd : OrdI d) : OrdI fun a b => elseI (c a b) (d a b) := by
  refine ⟨fun a b => ?_, fun a b => ?_, fun a b e => ?_⟩
  · have h1 := hc.1 a b
    have h2 := hd.1 a b
    simp only [elseI]
    split <;> split <;> omega
  · have h1 := hc.2.1 a b
    have h2 := hd.2.1 a b
    simp only [elseI]
    split <;> omega
  · have h1 := hc.2.2 a b e
    have h2 := hd.2.2 a b e
    have h3 := hc.2.2 e b a
    have h4 := hc.1 a b
    have h5 := hc.1 b e
    have h6 := hc.1 a e
    simp only [elseI]
    intro p q
    split at p <;> split at q <;> split <;> first | omega | (constructor <;> first | omega | (intro; omega))
theorem bytes_ord : OrdI Lib.compareBytes := by
  have anti : ∀ a b, Lib.compareBytes a b = - Lib.compareBytes b a := by
    intro a
    induction a with
    | nil => intro b; cases b <;> simp [Lib.compareBytes]
    | cons x a ih =>
      intro b
      cases b with
      | nil => simp [Lib.compareBytes]
      | cons y b =>
        have h := ih b
        simp only [Lib.compareBytes, UInt8.lt_iff_toNat_lt]
        split <;> split <;> omega
  have rng : ∀ a b, -1 ≤ Lib.compareBytes a b ∧ Lib.compareBytes a b ≤ 1 := by
    intro a
    induction a with
    | nil => intro b; cases b <;> simp [Lib.compareBytes]
    | cons x a ih =>
      intro b
      cases b with
      | nil => simp [Lib.compareBytes]
      | cons y b =>
        have h := ih b
        simp only [Lib.compareBytes, UInt8.lt_iff_toNat_lt]
        split
        · omega
        · split <;> omega
  refine ⟨anti, rng, ?_⟩
  intro a
  induction a with
  | nil => intro b d; cases b <;> cases d <;> simp [Lib.compareBytes]
  | cons x a ih =>
    intro b d
    cases b with
    | nil => cases d <;> simp [Lib.compareBytes]
    | cons y b =>
      cases d with
      | nil => simp [Lib.compareBytes]
      | cons z d =>
        have h := ih b d
        simp only [Lib.compareBytes, UInt8.lt_iff_toNat_lt]
        intro p q
        split at p
        · omega
        · split at p
          · split at q
            · omega
            · split at q
              · rw [if_neg (by omega), if_pos (by omega)]; omega
              · rw [if_neg (by omega), if_pos (by omega)]; omega
          · split at q
            · omega
            · split at q
              · rw [if_neg (by omega), if_pos (by omega)]; omega
              · rw [if_neg (by omega), if_neg (by omega)]
                have h2 := h p q
                refine ⟨h2.1, fun hh => h2.2 ?_⟩
                rcases hh with hh | hh
                · rw [if_neg (by omega), if_neg (by omega)] at hh; exact .inl hh
                · rw [if_neg (by omega), if_neg (by omega)] at hh; exact .inr hh
theorem compare_ltS : ∀ (a b : List UInt8), Lib.compareBytes a b = if ltS a b = true then -1 else if (ltS a b || decide (a = b)) = true then 0 else 1
  | [], [] => by decide
  | [], _ :: _ => by simp [Lib.compareBytes, ltS, Op.bytesLess]
  | _ :: _, [] => by simp [Lib.compareBytes, ltS, Op.bytesLess]
  | a :: x, b :: y => by
    have h := compare_ltS x y
    unfold ltS at h ⊢
    unfold Lib.compareBytes
    rw [Op.bytesLess]
    by_cases h1 : a < b
    · simp [h1]
    · by_cases h2 : b < a
      · have h3 : a ≠ b := fun e => by subst e; exact UInt8.lt_irrefl _ h2
        simp [h1, h2, h3]
      · have h3 : a = b := UInt8.le_antisymm (UInt8.not_lt.1 h2) (UInt8.not_lt.1 h1)
        subst h3
        simp [h1, h]
abbrev pubI (i : G_api_Instance) : List UInt8 := List.ofFn i.Publisher
def befI (a b : G_api_Instance) : Prop := ltS (pubI a) (pubI b) = true
theorem ltS_cmp (a b : List UInt8) : ltS a b = true ↔ Lib.compareBytes a b < 0 := by
  rw [compare_ltS]
  cases ltS a b with
  | true => simp
  | false =>
    simp only [Bool.false_eq_true, if_false, Bool.false_or]
    split <;> simp
theorem ltS_trans {a b c : List UInt8} (h : ltS a b = true) (k : ltS b c = true) : ltS a c = true := by
  rw [ltS_cmp] at h k ⊢
  have h1 := bytes_ord.1 a b
  have h2 := bytes_ord.1 b c
  have h3 := bytes_ord.1 a c
  have := (bytes_ord.2.2 c b a (by omega) (by omega)).2 (.inl (by omega))
  omega
structure GoodR (l : List G_api_Instance) : Prop where
  good : ∀ x ∈ l, goodI x = true
  sorted : l.Pairwise befI
  few : l.length ≤ 16
theorem pairwise_adj {l : List G_api_Instance} (h : ∀ j (hj : j + 1 < l.length), befI l[j] l[j + 1]) : l.Pairwise befI := by
  have key : ∀ (d i : Nat) (hj : i + d + 1 < l.length), befI l[i] l[i + d + 1] := by
    intro d
    induction d with
    | zero => intro i hj; exact h i hj
    | succ d ih => intro i hj; exact ltS_trans (ih i (by omega)) (h (i + d + 1) (by omega))
  refine List.pairwise_iff_getElem.2 fun i j hi hj hij => ?_
  have := key (j - i - 1) i (by omega)
  simp only [show i + (j - i - 1) + 1 = j by omega] at this
  exact this
noncomputable def isGoodR (l : List G_api_Instance) : Bool := @decide (GoodR l) (Classical.propDecidable _)
theorem isGoodR_iff {l : List G_api_Instance} : isGoodR l = true ↔ GoodR l := @decide_eq_true_iff _ (Classical.propDecidable _)
theorem isGoodR_neg {l : List G_api_Instance} : isGoodR l = false ↔ ¬ GoodR l := @decide_eq_false_iff_not _ (Classical.propDecidable _)
def ChkR (l : List G_api_Instance) (j : Nat) : Prop := ∀ hj : j < l.length, goodI l[j] = true ∧ (0 < j → befI l[j - 1] l[j])
theorem chkR_all {l : List G_api_Instance} : (∀ j, 0 ≤ j → ChkR l j) ∧ l.length ≤ 16 ↔ GoodR l := by
  constructor
  · rintro ⟨h, hn⟩
    refine GoodR.mk (fun x hx => ?_) (pairwise_adj fun j hj => ?_) hn
    · obtain ⟨j, hj, rfl⟩ := List.getElem_of_mem hx
      exact (h j (Nat.zero_le _) hj).1
    · have := (h (j + 1) (Nat.zero_le _) hj).2 (Nat.succ_pos _)
      simpa using this
  · intro h
    exact ⟨fun j _ hj => ⟨h.good _ (List.getElem_mem hj), fun h0 => List.pairwise_iff_getElem.1 h.sorted _ _ (by omega) hj (by omega)⟩, h.few⟩
theorem le_compareR (a b : List UInt8) : (0 : Int) ≤ Lib.compareBytes a b ↔ ltS a b = false := by
  have h := ltS_cmp a b
  cases hh : ltS a b with
  | true => have := h.1 hh; constructor
            · intro; omega
            · intro e; cases e
  | false => have : ¬ Lib.compareBytes a b < 0 := fun e => by rw [h.2 e] at hh; cases hh
             constructor
             · intro; rfl
             · intro; omega
theorem goodR_sim {l : List G_api_Instance} (hl : ∀ x ∈ l, x.Target.length ≤ 140737488355328) (hn : l.length ≤ 1000000) : ∀ (d k : Nat), l.length = k + d →
    ∃ r, loopO (fun z_ => M_roster_Good_v_b1 l z_) (k : Int) = some r ∧ ((r = .inl () ∧ ∀ j, k ≤ j → ChkR l j) ∨ (r = .inr false ∧ ¬ ∀ j, k ≤ j → ChkR l j)) := by
  intro d
  induction d with
  | zero =>
    intro k h
    exact ⟨.inl (), loopO_end (by unfold M_roster_Good_v_b1; rw [if_neg (by omega)]), .inl ⟨rfl, fun j hj hh => absurd hh (by omega)⟩⟩
  | succ d ih =>
    intro k h
    have hk : k < l.length := by omega
    have key : (M_roster_Good_v_b1 l (k : Int) = some (.inl ((k : Int) + 1)) ∧ ChkR l k) ∨ (M_roster_Good_v_b1 l (k : Int) = some (.inr (.inr false)) ∧ ¬ ChkR l k) := by
      have c1 : (k : Int) < (l.length : Int) := by omega
      have c2 : ok64 ((k : Int) + 1) := ok_small (by omega)
      have c4 : ok64 ((k : Int) - 1) := ok_small (by omega)
      unfold M_roster_Good_v_b1
      rw [if_pos c1, at?_in hk, some_bindP, inst_good (hl _ (List.getElem_mem hk)), some_bindP]
      cases hg : goodI l[k] with
      | false =>
        rw [if_neg (by decide)]
        exact .inr ⟨rfl, fun hc => by have := (hc hk).1; rw [hg] at this; cases this⟩
      | true =>
        rw [if_pos rfl]
        by_cases h0 : k = 0
        · have c3 : ¬ ((0 : Int) < (k : Int)) := by omega
          rw [if_neg c3, if_pos c2]
          exact .inl ⟨rfl, fun _ => ⟨hg, fun hh => absurd hh (by omega)⟩⟩
        · have c3 : (0 : Int) < (k : Int) := by omega
          have ea : at? l ((k : Int) - 1) = some l[k - 1] := by rw [show (k : Int) - 1 = ((k - 1 : Nat) : Int) by omega, at?_in (by omega : k - 1 < l.length)]
          have e3 : M_roster_order l[k - 1] l[k].Publisher = some () := rfl
          rw [if_pos c3, if_pos c4, ea, some_bindP, e3, some_bindP]
          cases hc : ltS (pubI l[k - 1]) (pubI l[k]) with
          | true =>
            rw [if_neg (fun e => by rw [le_compareR, hc] at e; cases e), if_pos c2]
            exact .inl ⟨rfl, fun _ => ⟨hg, fun _ => hc⟩⟩
          | false =>
            rw [if_pos ((le_compareR _ _).2 hc)]
            exact .inr ⟨rfl, fun hh => by have := (hh hk).2 (by omega); unfold befI at this; rw [hc] at this; cases this⟩
    rcases key with ⟨h1, h2⟩ | ⟨h1, h2⟩
    · obtain ⟨r, h3, h4⟩ := ih (k + 1) (by omega)
      refine ⟨r, ?_, ?_⟩
      · rw [loopO_next (s' := ((k + 1 : Nat) : Int)) (by show M_roster_Good_v_b1 l (k : Int) = _; rw [h1]; rfl)]; exact h3
      · rcases h4 with ⟨e, h4⟩ | ⟨e, h4⟩
        · refine .inl ⟨e, fun j hj => ?_⟩
          by_cases hjk : j = k
          · rw [hjk]; exact h2
          · exact h4 j (by omega)
        · exact .inr ⟨e, fun hh => h4 fun j hj => hh j (by omega)⟩
    · exact ⟨.inr false, loopO_end (by show M_roster_Good_v_b1 l (k : Int) = _; rw [h1]), .inr ⟨rfl, fun hh => h2 (hh k (Nat.le_refl _))⟩⟩
theorem roster_goodR {l : List G_api_Instance} (hl : ∀ x ∈ l, x.Target.length ≤ 140737488355328) (hn : l.length ≤ 1000000) : M_roster_Good_v l = some (isGoodR l) := by
  obtain ⟨r, h1, h2⟩ := goodR_sim hl hn l.length 0 (by omega)
  rw [show ((0 : Nat) : Int) = 0 from rfl] at h1
  unfold M_roster_Good_v
  rw [h1, some_bindP]
  rcases h2 with ⟨rfl, h2⟩ | ⟨rfl, h2⟩
  · simp only []
    by_cases h16 : l.length ≤ 16
    · rw [isGoodR_iff.2 (chkR_all.1 ⟨h2, h16⟩), decide_eq_true (by omega)]
    · rw [isGoodR_neg.2 (fun hg => h16 hg.few), decide_eq_false (by omega)]
  · simp only []
    rw [isGoodR_neg.2 (fun hg => h2 (chkR_all.2 hg).1)]
/-! ### rosters -/
theorem le_compare (a b : List UInt8) : (0 : Int) ≤ Lib.compareBytes a b ↔ ltS a b = false := by
  rw [compare_ltS]
  cases ltS a b with
  | true => simp
  | false =>
    simp only [Bool.false_eq_true, if_false, Bool.false_or]
    split <;> simp
theorem good_sim {l : List G_api_Instance} (hl : ∀ x ∈ l, x.Target.length ≤ 1000000) (hn : l.length ≤ 1000000) : ∀ (d k : Nat), l.length = k + d →
    ∃ r, loopO (fun z_ => M_roster_Good_v_b1 l z_) (k : Int) = some r ∧ loopO (fun z_ => M_signpostref12_Good_v_b1 l z_) (k : Int) = some r := by
  intro d
  induction d with
  | zero =>
    intro k h
    exact ⟨.inl (), loopO_end (by unfold M_roster_Good_v_b1; rw [if_neg (by omega)]), loopO_end (by unfold M_signpostref12_Good_v_b1; rw [if_neg (by omega)])⟩
  | succ d ih =>
    intro k h
    have hk : k < l.length := by omega
    have ht := hl _ (List.getElem_mem hk)
    have key : ∃ c : Bool, M_roster_Good_v_b1 l (k : Int) = (if c = true then some (.inl ((k : Int) + 1)) else some (.inr (.inr false))) ∧ M_signpostref12_Good_v_b1 l (k : Int) = (if c = true then some (.inl ((k : Int) + 1)) else some (.inr (.inr false))) := by
      have c1 : (k : Int) < (l.length : Int) := by omega
      have c2 : ok64 ((k : Int) + 1) := ok_small (by omega)
      have c4 : ok64 ((k : Int) - 1) := ok_small (by omega)
      have i1 := inst_good (i := l[k]) (by omega)
      have i2 := ref11_good (i := l[k]) ht
      unfold M_roster_Good_v_b1 M_signpostref12_Good_v_b1
      simp only [if_pos c1, at?_in hk, some_bindP, i1, i2]
      cases goodI l[k] with
      | false => exact ⟨false, rfl, rfl⟩
      | true =>
        by_cases h0 : k = 0
        · have c3 : ¬ ((0 : Int) < (k : Int)) := by omega
          simp only [if_neg c3, if_pos c2, if_true]
          exact ⟨true, rfl, rfl⟩
        · have c3 : (0 : Int) < (k : Int) := by omega
          have ea : at? l ((k : Int) - 1) = some l[k - 1] := by rw [show (k : Int) - 1 = ((k - 1 : Nat) : Int) by omega, at?_in (by omega : k - 1 < l.length)]
          have e3 : M_roster_order l[k - 1] l[k].Publisher = some () := rfl
          have e4 : M_signpostref12_before l[k - 1] l[k] = some () := rfl
          simp only [if_pos c3, if_pos c2, if_pos c4, ea, some_bindP, e3, e4, if_true]
          cases hc : ltS (List.ofFn l[k - 1].Publisher) (List.ofFn l[k].Publisher) with
          | true => exact ⟨true, by rw [if_neg (fun e => by rw [le_compare, hc] at e; cases e)] <;> rfl, by rw [if_pos rfl] <;> rfl⟩
          | false => exact ⟨false, by rw [if_pos ((le_compare _ _).2 hc)] <;> rfl, by rw [if_neg Bool.false_ne_true] <;> rfl⟩
    obtain ⟨c, h1, h2⟩ := key
    cases c with
    | true =>
      obtain ⟨r, h3, h4⟩ := ih (k + 1) (by omega)
      refine ⟨r, ?_, ?_⟩
      · rw [loopO_next (s' := ((k + 1 : Nat) : Int)) (by show M_roster_Good_v_b1 l (k : Int) = _; rw [h1]; rfl)]; exact h3
      · rw [loopO_next (s' := ((k + 1 : Nat) : Int)) (by show M_signpostref12_Good_v_b1 l (k : Int) = _; rw [h2]; rfl)]; exact h4
    | false =>
      refine ⟨.inr false, loopO_end ?_, loopO_end ?_⟩
      · show M_roster_Good_v_b1 l (k : Int) = _; rw [h1]; rfl
      · show M_signpostref12_Good_v_b1 l (k : Int) = _; rw [h2]; rfl
theorem roster_good {l : List G_api_Instance} (hl : ∀ x ∈ l, x.Target.length ≤ 1000000) (hn : l.length ≤ 1000000) : ∃ g, M_roster_Good_v l = some g ∧ M_signpostref12_Good_v l = some g := by
  obtain ⟨r, h1, h2⟩ := good_sim hl hn l.length 0 (by omega)
  rw [show ((0 : Nat) : Int) = 0 from rfl] at h1 h2
  unfold M_roster_Good_v M_signpostref12_Good_v
  rw [h1, h2]
  cases r <;> exact ⟨_, rfl, rfl⟩
theorem good_nil : M_roster_Good_v [] = some true := by
  unfold M_roster_Good_v
  rw [loopO_end (r := .inl ()) (by unfold M_roster_Good_v_b1; rw [if_neg (by decide)]), some_bindP]; rfl
/-! ### a roster's bytes -/
def bytesL (l : List G_api_Instance) : List UInt8 := (l.map bytesI).flatten
def bytesR (l : List G_api_Instance) : List UInt8 := putF (UInt64.ofInt (l.length : Int)) 1 ++ bytesL l
theorem bytesL_cons (x : G_api_Instance) (l : List G_api_Instance) : bytesL (x :: l) = bytesI x ++ bytesL l := rfl
theorem bytesI_len {i : G_api_Instance} (h : i.Target.length ≤ 1000) : (bytesI i).length ≤ 2000 := by
  unfold bytesI tailI
  simp only [List.length_append, List.length_ofFn, putF_len]
  split <;> simp only [List.length_append, putF_len] <;> omega
theorem bytesL_len {l : List G_api_Instance} (h : ∀ x ∈ l, x.Target.length ≤ 1000) : (bytesL l).length ≤ 2000 * l.length := by
  induction l with
  | nil => exact Nat.le_refl _
  | cons x l ih =>
    have h1 := bytesI_len (h x List.mem_cons_self)
    have h2 := ih fun y hy => h y (List.mem_cons_of_mem _ hy)
    rw [bytesL_cons, List.length_append, List.length_cons]; omega
theorem bytes_loop {l : List G_api_Instance} (hg : GoodR l) : ∀ (d k : Nat) (out : List UInt8), l.length = k + d → out.length ≤ 100 + 2000 * k →
    loopO (fun z_ => M_roster_Bytes_v_b1 l z_.1 z_.2) (out, (k : Int)) = some (out ++ bytesL (l.drop k)) := by
  have hfew := hg.few
  intro d
  induction d with
  | zero =>
    intro k out h _
    rw [List.drop_of_length_le (by omega), show bytesL [] = [] from rfl, List.append_nil]
    exact loopO_end (by
      show M_roster_Bytes_v_b1 l out (k : Int) = _
      unfold M_roster_Bytes_v_b1
      rw [if_neg (by omega)])
  | succ d ih =>
    intro k out h ho
    have hk : k < l.length := by omega
    have hgk := hg.good _ (List.getElem_mem hk)
    have htl := goodI_len hgk
    have hbl := bytesI_len (i := l[k]) (by omega)
    rw [List.drop_eq_getElem_cons hk, bytesL_cons, ← List.append_assoc]
    rw [loopO_next (s' := (out ++ bytesI l[k], ((k + 1 : Nat) : Int))) (by
      show M_roster_Bytes_v_b1 l out (k : Int) = _
      unfold M_roster_Bytes_v_b1
      rw [if_pos (by omega), at?_in hk, some_bindP, inst_bytes (by omega), if_pos hgk, some_bindP]
      simp only []
      rw [if_pos (by omega), if_pos (ok_small (by omega)), Int.natCast_add, Int.natCast_one])]
    exact ih (k + 1) _ (by omega) (by rw [List.length_append]; omega)
theorem roster_bytes {l : List G_api_Instance} (hl : ∀ x ∈ l, x.Target.length ≤ 140737488355328) (hn : l.length ≤ 1000000) : M_roster_Bytes_v l = some (if isGoodR l = true then (bytesR l, 0) else ([], 2)) := by
  unfold M_roster_Bytes_v
  rw [roster_goodR hl hn, some_bindP]
  by_cases h : isGoodR l = true
  · have hg := isGoodR_iff.1 h
    have hp := octet_put (b := []) (n := UInt64.ofInt (l.length : Int)) (w := 1) (by simp)
    rw [if_pos (by decide), List.nil_append, show (1 : Int).toNat = 1 from rfl] at hp
    have hb := bytes_loop hg l.length 0 (putF (UInt64.ofInt (l.length : Int)) 1) (by omega) (by rw [putF_len]; omega)
    rw [show ((0 : Nat) : Int) = 0 from rfl, List.drop_zero] at hb
    rw [if_pos h, if_pos h, hp, some_bindP, hb, some_bindP]
    rfl
  · rw [if_neg h, if_neg h]
/-! ### a roster that is read -/
noncomputable def readG : Nat → List UInt8 → List G_api_Instance → Option (List G_api_Instance × List UInt8)
  | 0, r, out => some (out, r)
  | m + 1, r, out => if (readI r false).2.1 = true then readG m (readI r false).2.2.1 (out ++ [(readI r false).1]) else none
theorem num_one_le (r : List UInt8) (bad : Bool) : (numS r bad 1).1.toNat ≤ 255 := by
  unfold numS
  split
  · decide
  · rename_i h
    simp only [not_or] at h
    cases r with
    | nil => simp at h
    | cons x t =>
      have := x.toNat_lt
      simp [num]; omega
theorem readI_two (r : List UInt8) : ((readI r false).2.1 = true ∧ (readI r false).2.2.2 = false) ∨ readI r false = (noneI, false, [], true) := by
  unfold readI
  split
  · exact .inr rfl
  · rename_i hh
    simp only [not_or] at hh
    exact .inl ⟨rfl, by simpa using hh.1⟩
theorem readG_loop {n : UInt64} (hn : n.toNat ≤ 255) : ∀ (m : Nat) (r : List UInt8) (out : List G_api_Instance) (t : UInt64), n.toNat = t.toNat + m → r.length ≤ 100000 → out.length = t.toNat →
    loopO (fun z_ => M_roster_Read_po_b1 true n z_.1 z_.2.1 z_.2.2.1 z_.2.2.2) (r, false, out, t) = some (match readG m r out with | some (o, r') => .inl (r', false, o) | none => .inr ([], [], true)) := by
  intro m
  induction m with
  | zero =>
    intro r out t h hr ho
    exact loopO_end (by
      show M_roster_Read_po_b1 true n r false out t = _
      unfold M_roster_Read_po_b1
      rw [if_neg (fun e => by rw [UInt64.lt_iff_toNat_lt] at e; omega)]; rfl)
  | succ m ih =>
    intro r out t h hr ho
    have hp : M_roster_Read_po_b1 true n r false out t = if (readI r false).2.1 = true then some (.inl ((readI r false).2.2.1, (readI r false).2.2.2, out ++ [(readI r false).1], t + 1)) else some (.inr (.inr ([], (readI r false).2.2.1, (readI r false).2.2.2))) := by
      unfold M_roster_Read_po_b1
      rw [if_pos (UInt64.lt_iff_toNat_lt.2 (by omega)), inst_read (by omega), some_bindP]
      have hc : (out.length + 1) * 72 ≤ 140737488355328 := by omega
      simp only [if_pos hc]
    have ht : (t + 1).toNat = t.toNat + 1 := by rw [UInt64.toNat_add]; show (t.toNat + 1) % 2 ^ 64 = _; omega
    have g2 := (readI_len r false).2.length_le
    unfold readG
    rcases readI_two r with ⟨h1, h2⟩ | h1
    · rw [if_pos h1, h2] at hp
      rw [if_pos h1]
      rw [loopO_next (s' := ((readI r false).2.2.1, false, out ++ [(readI r false).1], t + 1)) (by show M_roster_Read_po_b1 true n r false out t = _; exact hp)]
      exact ih _ _ _ (by omega) (by omega) (by rw [List.length_append, ho, ht]; rfl)
    · rw [h1, if_neg (by decide)] at hp
      rw [h1, if_neg (by decide)]
      exact loopO_end (by show M_roster_Read_po_b1 true n r false out t = _; exact hp)
theorem readG_form : ∀ (m : Nat) (r : List UInt8) (out o : List G_api_Instance) (r' : List UInt8), readG m r out = some (o, r') → ∃ ys, o = out ++ ys ∧ ys.length = m ∧ (∀ y ∈ ys, goodI y = true) ∧ r = bytesL ys ++ r' := by
  intro m
  induction m with
  | zero =>
    intro r out o r' h
    unfold readG at h
    cases h
    exact ⟨[], by rw [List.append_nil], rfl, fun y hy => absurd hy List.not_mem_nil, rfl⟩
  | succ m ih =>
    intro r out o r' h
    unfold readG at h
    by_cases h1 : (readI r false).2.1 = true
    · rw [if_pos h1] at h
      obtain ⟨ys, e1, e2, e3, e4⟩ := ih _ _ _ _ h
      obtain ⟨f1, f2, _⟩ := readI_form h1
      refine ⟨(readI r false).1 :: ys, by rw [e1, List.append_assoc]; rfl, by rw [List.length_cons, e2], ?_, ?_⟩
      · intro y hy
        rcases List.mem_cons.1 hy with hy | hy
        · rw [hy]; exact f1
        · exact e3 y hy
      · rw [bytesL_cons, List.append_assoc, ← e4, ← f2]
    · rw [if_neg h1] at h; cases h
/-- What is read of any bytes. -/
theorem read_any {b : List UInt8} (hb : b.length ≤ 60000) : M_roster_Read_po b true false = some ([], [], true) ∨ ∃ l t, GoodR l ∧ b = bytesR l ++ t ∧ M_roster_Read_po b true false = some (l, t, false) := by
  have hN := num_one_le b false
  have hbad : (numS b false 1).2.2 = true → numS b false 1 = (0, [], true) := by
    unfold numS
    split
    · exact fun _ => rfl
    · exact fun h => by cases h
  have hform := numS_form (r := b) (bad := false) 1
  rw [show ((1 : Nat) : Int) = 1 from rfl] at hform
  have hs := (numS_suffix b false 1).length_le
  unfold M_roster_Read_po
  rw [octet_num (by omega), some_bindP]
  generalize numS b false 1 = x at hN hbad hform hs ⊢
  obtain ⟨n, r1, b1⟩ := x
  simp only [] at hN hbad hform hs ⊢
  cases b1 with
  | true =>
    obtain ⟨rfl, rfl, _⟩ : n = 0 ∧ r1 = [] ∧ True := by
      have := hbad rfl
      simp only [Prod.mk.injEq] at this
      exact ⟨this.1, this.2.1, trivial⟩
    rw [loopO_end (r := .inl ([], true, [])) (by
      show M_roster_Read_po_b1 true 0 [] true [] 0 = _
      unfold M_roster_Read_po_b1
      rw [if_neg (by decide)]), some_bindP]
    simp only [good_nil, some_bindP, if_true]
    exact .inl trivial
  | false =>
    obtain ⟨_, h2, h3⟩ := hform rfl
    rw [readG_loop hN n.toNat r1 [] 0 (by simp) (by omega) rfl]
    cases hr : readG n.toNat r1 [] with
    | none => rw [some_bindP]; exact .inl rfl
    | some p =>
      obtain ⟨o, r'⟩ := p
      obtain ⟨ys, e1, e2, e3, e4⟩ := readG_form _ _ _ _ _ hr
      rw [List.nil_append] at e1
      subst e1
      have hlen := congrArg List.length e4
      rw [List.length_append] at hlen
      rw [some_bindP]
      simp only []
      rw [roster_goodR (fun x hx => by have := goodI_len (e3 x hx); omega) (by omega), some_bindP]
      by_cases hg : isGoodR o = true
      · rw [if_pos hg]
        refine .inr ⟨o, r', isGoodR_iff.1 hg, ?_, rfl⟩
        have en : UInt64.ofInt (o.length : Int) = n := by
          apply UInt64.toNat_inj.1
          rw [e2]
          have := n.toNat_lt
          simp [UInt64.ofInt, UInt64.toNat_ofNat']; omega
        unfold bytesR
        rw [en, List.append_assoc, ← e4]; exact h2
      · rw [if_neg hg, octet_take (by omega), take_back, some_bindP]
        exact .inl rfl
theorem readI_cases (r : List UInt8) : ((readI r false).2.1 = true ∧ (readI r false).2.2.2 = false) ∨ readI r false = (noneI, false, [], true) := by
  unfold readI
  split
  · exact .inr rfl
  · rename_i hh
    simp only [not_or] at hh
    exact .inl ⟨rfl, by simpa using hh.1⟩
theorem num_one_lt (r : List UInt8) (bad : Bool) : (numS r bad 1).1.toNat ≤ 255 := by
  unfold numS
  split
  · decide
  · rename_i h
    simp only [not_or] at h
    cases r with
    | nil => simp at h
    | cons x t =>
      have := x.toNat_lt
      simp [num]; omega
theorem read_sim {B : List UInt8} (hB : B.length ≤ 6000) {n : UInt64} (hn : n.toNat ≤ 255) : ∀ (m : Nat) (r : List UInt8) (out : List G_api_Instance) (t : UInt64), n.toNat = t.toNat + m → r <:+ B → out.length = t.toNat → (∀ x ∈ out, x.Target.length ≤ 6000) →
    (∃ r' out', loopO (fun z_ => M_roster_Read_po_b1 true n z_.1 z_.2.1 z_.2.2.1 z_.2.2.2) (r, false, out, t) = some (.inl (r', false, out')) ∧
      loopO (fun z_ => M_signpostref12_Read_pv_b1 B n z_.1 z_.2.1 z_.2.2.1 z_.2.2.2) (refAt B r, false, out, (t.toNat : Int)) = some (refAt B r', false, out') ∧ r' <:+ B ∧ out'.length ≤ 255 ∧ ∀ x ∈ out', x.Target.length ≤ 6000) ∨
    (∃ o, loopO (fun z_ => M_roster_Read_po_b1 true n z_.1 z_.2.1 z_.2.2.1 z_.2.2.2) (r, false, out, t) = some (.inr ([], [], true)) ∧
      loopO (fun z_ => M_signpostref12_Read_pv_b1 B n z_.1 z_.2.1 z_.2.2.1 z_.2.2.2) (refAt B r, false, out, (t.toNat : Int)) = some (refAt B [], true, o)) := by
  intro m
  induction m with
  | zero =>
    intro r out t h hr ho hx
    refine .inl ⟨r, out, loopO_end ?_, loopO_end ?_, hr, by omega, hx⟩
    · show M_roster_Read_po_b1 true n r false out t = _
      unfold M_roster_Read_po_b1
      rw [if_neg (fun e => by rw [UInt64.lt_iff_toNat_lt] at e; omega)]
    · show M_signpostref12_Read_pv_b1 B n (refAt B r) false out (t.toNat : Int) = _
      unfold M_signpostref12_Read_pv_b1 M_signpostref12_Read_pv_k2
      rw [if_neg (by omega), if_neg (by decide)]
  | succ m ih =>
    intro r out t h hr ho hx
    have hlen := hr.length_le
    have hp : M_roster_Read_po_b1 true n r false out t = if (readI r false).2.1 = true then some (.inl ((readI r false).2.2.1, (readI r false).2.2.2, out ++ [(readI r false).1], t + 1)) else some (.inr (.inr ([], (readI r false).2.2.1, (readI r false).2.2.2))) := by
      unfold M_roster_Read_po_b1
      rw [if_pos (UInt64.lt_iff_toNat_lt.2 (by omega)), inst_read (by omega), some_bindP]
      have hc : (out.length + 1) * 72 ≤ 140737488355328 := by omega
      simp only [if_pos hc]
    have hq : M_signpostref12_Read_pv_b1 B n (refAt B r) false out (t.toNat : Int) = some (.inl (refAt B (readI r false).2.2.1, (readI r false).2.2.2, out ++ [(readI r false).1], (t.toNat : Int) + 1)) := by
      unfold M_signpostref12_Read_pv_b1 M_signpostref12_Read_pv_k2
      rw [if_pos (by omega), if_pos (by decide), ref11_read (by omega) hr, some_bindP]
      simp only []
      rw [if_pos (by omega), if_pos (ok_small (by omega))]
    have ht : (t + 1).toNat = t.toNat + 1 := by rw [UInt64.toNat_add]; show (t.toNat + 1) % 2 ^ 64 = _; omega
    obtain ⟨g1, g2⟩ := readI_len r false
    rcases readI_cases r with ⟨h1, h2⟩ | h1
    · rw [if_pos h1, h2] at hp
      rw [h2] at hq
      rw [loopO_next (s' := ((readI r false).2.2.1, false, out ++ [(readI r false).1], t + 1)) (by show M_roster_Read_po_b1 true n r false out t = _; exact hp),
        loopO_next (s' := (refAt B (readI r false).2.2.1, false, out ++ [(readI r false).1], ((t + 1).toNat : Int))) (by show M_signpostref12_Read_pv_b1 B n (refAt B r) false out (t.toNat : Int) = _; rw [hq, ht]; rfl)]
      refine ih _ _ _ (by omega) (g2.trans hr) (by rw [List.length_append, ho, ht]; rfl) ?_
      intro x hxx
      rcases List.mem_append.1 hxx with hxx | hxx
      · exact hx x hxx
      · rw [List.mem_singleton.1 hxx]; omega
    · rw [h1, if_neg (by decide)] at hp
      rw [h1] at hq
      refine .inr ⟨out ++ [noneI], loopO_end ?_, ?_⟩
      · show M_roster_Read_po_b1 true n r false out t = _; exact hp
      · rw [loopO_next (s' := (refAt B [], true, out ++ [noneI], (t.toNat : Int) + 1)) (by show M_signpostref12_Read_pv_b1 B n (refAt B r) false out (t.toNat : Int) = _; exact hq)]
        refine loopO_end ?_
        show M_signpostref12_Read_pv_b1 B n (refAt B []) true (out ++ [noneI]) ((t.toNat : Int) + 1) = _
        unfold M_signpostref12_Read_pv_b1 M_signpostref12_Read_pv_k2
        split <;> rfl
theorem roster_read {b : List UInt8} (hb : b.length ≤ 6000) : ∃ l r bad, M_roster_Read_po b true false = some (l, r, bad) ∧ M_signpostref12_Read_pv b 0 false = some (l, refAt b r, bad) ∧ r <:+ b ∧ l.length ≤ 255 ∧ ∀ x ∈ l, x.Target.length ≤ 6000 := by
  have hN := num_one_lt b false
  have hs := numS_suffix b false 1
  have e0 : refAt b b = 0 := by unfold refAt; omega
  have hr0 := ref01_num (B := b) (r := b) (bad := false) (w := 1) (by omega) List.suffix_rfl
  rw [e0] at hr0
  have hbad : (numS b false 1).2.2 = true → numS b false 1 = (0, [], true) := by
    unfold numS
    split
    · exact fun _ => rfl
    · exact fun h => by cases h
  have take : ∀ (r : List UInt8) (bad : Bool), r <:+ b → M_signpostref01_Reader_Take_pv b (refAt b r) bad (-1) = some ([], refAt b [], true) := by
    intro r bad hr
    rw [ref01_take (by omega) hr (by decide), take_back]
  unfold M_roster_Read_po M_signpostref12_Read_pv
  rw [octet_num (by omega), hr0, some_bindP, some_bindP]
  generalize numS b false 1 = x at hN hs hbad ⊢
  obtain ⟨n, r1, b1⟩ := x
  simp only [] at hN hs hbad ⊢
  rw [if_pos (by omega)]
  cases b1 with
  | true =>
    obtain ⟨rfl, rfl, _⟩ : n = 0 ∧ r1 = [] ∧ True := by
      have := hbad rfl
      simp only [Prod.mk.injEq] at this
      exact ⟨this.1, this.2.1, trivial⟩
    have l1 : loopO (fun z_ => M_roster_Read_po_b1 true 0 z_.1 z_.2.1 z_.2.2.1 z_.2.2.2) (([] : List UInt8), true, ([] : List G_api_Instance), 0) = some (.inl ([], true, [])) := loopO_end (by
      show M_roster_Read_po_b1 true 0 [] true [] 0 = _
      unfold M_roster_Read_po_b1
      rw [if_neg (by decide)])
    have l2 : loopO (fun z_ => M_signpostref12_Read_pv_b1 b 0 z_.1 z_.2.1 z_.2.2.1 z_.2.2.2) (refAt b [], true, ([] : List G_api_Instance), 0) = some (refAt b [], true, []) := loopO_end (by
      show M_signpostref12_Read_pv_b1 b 0 (refAt b []) true [] 0 = _
      unfold M_signpostref12_Read_pv_b1 M_signpostref12_Read_pv_k2
      rw [if_neg (by decide), if_neg (by decide)])
    rw [l1, l2, some_bindP, some_bindP]
    simp only [good_nil, some_bindP, if_true]
    rw [take [] true hs, some_bindP]
    exact ⟨[], [], true, rfl, rfl, List.nil_suffix, by simp, fun x hx => by cases hx⟩
  | false =>
    rcases read_sim hb hN n.toNat r1 [] 0 (by simp) hs rfl (fun x hx => by cases hx) with ⟨r', out', h1, h2, h3, h4, h5⟩ | ⟨o, h1, h2⟩
    · rw [show (((0 : UInt64).toNat : Nat) : Int) = 0 from rfl] at h2
      rw [h1, h2, some_bindP, some_bindP]
      simp only []
      obtain ⟨g, hg1, hg2⟩ := roster_good (l := out') (fun x hx => by have := h5 x hx; omega) (by omega)
      simp only [hg1, hg2, some_bindP, Bool.false_eq_true, if_false]
      cases g with
      | true =>
        simp only [if_true]
        exact ⟨out', r', false, rfl, rfl, h3, h4, h5⟩
      | false =>
        have := h3.length_le
        have ot := octet_take (r := r') (bad := false) (n := -1) (by omega)
        rw [take_back] at ot
        simp only [Bool.false_eq_true, if_false, ot, take r' false h3, some_bindP]
        exact ⟨[], [], true, rfl, rfl, List.nil_suffix, by simp, fun x hx => by cases hx⟩
    · rw [show (((0 : UInt64).toNat : Nat) : Int) = 0 from rfl] at h2
      rw [h1, h2, some_bindP, some_bindP]
      simp only [if_true, take [] true List.nil_suffix, some_bindP]
      exact ⟨[], [], true, rfl, rfl, List.nil_suffix, by simp, fun x hx => by cases hx⟩
/-- The host and the port that six bytes tell. -/
def hostS (b : List UInt8) : UInt32 := (num (b.take 4)).toUInt32
def portS (b : List UInt8) : UInt16 := (num ((b.drop 4).take 2)).toUInt16
/-- A contact, whoever's. -/
structure CT where
  id : Fin 20 → UInt8
  host : UInt32
  port : UInt16
def CT.p (c : CT) : G_api_Contact := ⟨c.id, ⟨c.host, c.port⟩⟩
def idS (b : List UInt8) : Fin 20 → UInt8 := copyA (fun _ => 0) b
def contS (b : List UInt8) : Option CT := if b.length = 26 ∧ hostS (b.drop 20) ≠ 0 ∧ portS (b.drop 20) ≠ 0 then some ⟨idS b, hostS (b.drop 20), portS (b.drop 20)⟩ else none
def CT.r (c : CT) : G_signpostref08_Contact := ⟨c.id, ⟨c.host, c.port⟩⟩
theorem addr_good (a : G_api_Addr) : M_addr_Good a = some (decide (a.Host ≠ 0 ∧ a.Port ≠ 0)) := by
  unfold M_addr_Good
  by_cases h : a.Host = 0
  · simp [h]
  · rw [if_neg h]
    by_cases h2 : a.Port = 0
    · simp [h2]
    · rw [if_neg h2]
      have : ¬ a = ⟨0, 0⟩ := fun e => h (by rw [e])
      simp [h, h2, this]
theorem ref06_good (a : G_signpostref06_Addr) : M_signpostref06_Good a = some (decide (a.Host ≠ 0 ∧ a.Port ≠ 0)) := by
  unfold M_signpostref06_Good
  by_cases h : a.Host = 0
  · simp [h]
  · rw [if_neg h]
    simp [h]
theorem addr_read (b : List UInt8) : M_addr_Read_v b = some (if b.length = 6 ∧ hostS b ≠ 0 ∧ portS b ≠ 0 then (⟨hostS b, portS b⟩, 0) else (⟨0, 0⟩, 10)) := by
  unfold M_addr_Read_v
  by_cases h : b.length = 6
  · have e1 : numS b false 4 = (num (b.take 4), b.drop 4, false) := by
      unfold numS; rw [if_neg (by simp; omega)]; rfl
    have e2 : numS (b.drop 4) false 2 = (num ((b.drop 4).take 2), (b.drop 4).drop 2, false) := by
      unfold numS; rw [if_neg (by simp; omega)]; rfl
    rw [if_pos (by omega)]
    unfold M_octet_Open_v
    rw [if_pos (by omega), Option.bind_some, List.nil_append, octet_num (by omega), Option.bind_some, e1]
    simp only
    rw [octet_num (by rw [List.length_drop]; omega), Option.bind_some, e2]
    simp only
    rw [addr_good, Option.bind_some]
    simp only [decide_eq_true_eq]
    rw [show (num (b.take 4)).toUInt32 = hostS b from rfl, show (num ((b.drop 4).take 2)).toUInt16 = portS b from rfl]
    by_cases hg : hostS b ≠ 0 ∧ portS b ≠ 0
    · rw [if_pos hg, if_pos ⟨h, hg⟩]
    · rw [if_neg hg, if_neg (fun hh => hg hh.2)]
  · rw [if_neg (by omega), if_neg (fun hh => h hh.1)]
theorem contact_read (b : List UInt8) : M_contact_Read_v b = some (match contS b with | some c => (c.p, 0) | none => (⟨fun _ => 0, ⟨0, 0⟩⟩, 10)) := by
  unfold M_contact_Read_v contS
  by_cases h : b.length = 26
  · rw [if_pos (by omega), if_pos (by omega), addr_read, Option.bind_some]
    by_cases hg : hostS (b.drop 20) ≠ 0 ∧ portS (b.drop 20) ≠ 0
    · rw [if_pos ⟨by rw [List.length_drop]; omega, hg⟩, if_pos ⟨h, hg⟩]
      simp only [if_pos]
      rw [if_neg (fun e => hg.1 (congrArg (fun c => c.Addr.Host) e))]
      rfl
    · rw [if_neg (fun hh => hg hh.2), if_neg (fun hh => hg hh.2)]
      simp
  · rw [if_neg (by omega), if_neg (fun hh => h hh.1)]
theorem copyA_take {n : Nat} (f : Fin n → UInt8) (l : List UInt8) : copyA f (l.take n) = copyA f l := by
  funext i
  unfold copyA
  rw [List.getElem?_take, if_pos i.isLt]
theorem ref06_read (b : List UInt8) : M_signpostref06_Read_v b = some (if b.length = 6 ∧ hostS b ≠ 0 ∧ portS b ≠ 0 then (⟨hostS b, portS b⟩, 0) else (⟨0, 0⟩, 10)) := by
  unfold M_signpostref06_Read_v
  by_cases h : b.length = 6
  · have e1 : getS b 0 4 = (num (b.take 4), true) := by
      unfold getS; rw [if_pos (by omega)]; rfl
    have e2 : getS b 4 2 = (num ((b.drop 4).take 2), true) := by
      unfold getS; rw [if_pos (by omega)]; rfl
    rw [if_pos (by omega), ref01_get (by omega), Option.bind_some, e1]
    simp only
    rw [ref01_get (by omega), Option.bind_some, e2]
    simp only
    rw [ref06_good, Option.bind_some]
    simp only [decide_eq_true_eq]
    rw [show (num (b.take 4)).toUInt32 = hostS b from rfl, show (num ((b.drop 4).take 2)).toUInt16 = portS b from rfl]
    by_cases hg : hostS b ≠ 0 ∧ portS b ≠ 0
    · rw [if_pos hg, if_pos ⟨h, hg⟩]
    · rw [if_neg hg, if_neg (fun hh => hg hh.2)]
  · rw [if_neg (by omega), if_neg (fun hh => h hh.1)]
theorem ref08_read (b : List UInt8) : M_signpostref08_Read_v b = some (match contS b with | some c => (c.r, 0) | none => (⟨fun _ => 0, ⟨0, 0⟩⟩, 10)) := by
  unfold M_signpostref08_Read_v contS
  by_cases h : b.length = 26
  · rw [if_pos (by omega), if_pos (by omega), if_pos (by omega), ref06_read, Option.bind_some, copyA_take]
    by_cases hg : hostS (b.drop 20) ≠ 0 ∧ portS (b.drop 20) ≠ 0
    · rw [if_pos ⟨by rw [List.length_drop]; omega, hg⟩, if_pos ⟨h, hg⟩]
      simp only [if_pos]
      rfl
    · rw [if_neg (fun hh => hg hh.2), if_neg (fun hh => hg hh.2)]
      simp
  · rw [if_neg (by omega), if_neg (fun hh => h hh.1)]
/-- The place of the first contact of an ID, from a place on; or -1. -/
def findF (id : Fin 20 → UInt8) : Int → List CT → Int
  | _, [] => -1
  | k, c :: l => if c.id = id then k else findF id (k + 1) l
theorem find_loopP {l : List CT} {id : Fin 20 → UInt8} (hl : l.length ≤ 4611686018427387904) : ∀ (d k : Nat), l.length = k + d →
    loopO (fun z_ => M_slices_IndexFunc_Contact_v_contact_Find_1p_b1 id (l.map CT.p) z_) (k : Int) = some (if findF id k (l.drop k) = -1 then .inl () else .inr (findF id k (l.drop k))) := by
  intro d
  induction d with
  | zero =>
    intro k h
    rw [loopO_end (r := .inl ()) (by unfold M_slices_IndexFunc_Contact_v_contact_Find_1p_b1; rw [if_neg (by rw [List.length_map]; omega)]), List.drop_of_length_le (by omega)]; rfl
  | succ d ih =>
    intro k h
    have hk : k < l.length := by omega
    have hx : at? (l.map CT.p) (k : Int) = some (l[k].p) := by rw [at?_in (by rw [List.length_map]; exact hk)]; simp
    rw [List.drop_eq_getElem_cons hk]
    unfold findF
    by_cases hc : l[k].id = id
    · rw [if_pos hc, if_neg (by omega)]
      exact loopO_end (by
        unfold M_slices_IndexFunc_Contact_v_contact_Find_1p_b1 M_contact_Find_1_p
        rw [if_pos (by rw [List.length_map]; omega), hx, Option.bind_some, Option.bind_some, if_pos (show l[k].p.ID = id from hc)])
    · rw [if_neg hc, loopO_next (s' := ((k + 1 : Nat) : Int)) (by
        unfold M_slices_IndexFunc_Contact_v_contact_Find_1p_b1 M_contact_Find_1_p
        rw [if_pos (by rw [List.length_map]; omega), hx, Option.bind_some, Option.bind_some, if_neg (show ¬ l[k].p.ID = id from hc), if_pos (ok_small (by omega))]; rfl), ih (k + 1) (by omega)]
      rfl
def findS (l : List CT) (id : Fin 20 → UInt8) : Int := findF id 0 l
theorem contact_find {l : List CT} {id : Fin 20 → UInt8} (hl : l.length ≤ 4611686018427387904) : M_contact_Find_v (l.map CT.p) id = some (findS l id) := by
  unfold M_contact_Find_v M_slices_IndexFunc_Contact_v_contact_Find_1p
  have := find_loopP (id := id) hl l.length 0 (by omega)
  rw [show ((0 : Nat) : Int) = 0 from rfl] at this
  rw [this, Option.bind_some]
  unfold findS
  rw [List.drop_zero]
  by_cases h : findF id 0 l = -1
  · rw [if_pos h, h]; rfl
  · rw [if_neg h]; rfl
theorem find_loopR {l : List CT} {id : Fin 20 → UInt8} (hl : l.length ≤ 4611686018427387904) : ∀ (d k : Nat), l.length = k + d →
    loopO (fun z_ => M_signpostref08_Find_v_b1 id (l.map CT.r) z_) (k : Int) = some (if findF id k (l.drop k) = -1 then .inl () else .inr (findF id k (l.drop k))) := by
  intro d
  induction d with
  | zero =>
    intro k h
    rw [loopO_end (r := .inl ()) (by unfold M_signpostref08_Find_v_b1; rw [if_neg (by rw [List.length_map]; omega)]), List.drop_of_length_le (by omega)]; rfl
  | succ d ih =>
    intro k h
    have hk : k < l.length := by omega
    have hx : at? (l.map CT.r) (k : Int) = some (l[k].r) := by rw [at?_in (by rw [List.length_map]; exact hk)]; simp
    rw [List.drop_eq_getElem_cons hk]
    unfold findF
    by_cases hc : l[k].id = id
    · rw [if_pos hc, if_neg (by omega)]
      exact loopO_end (by
        unfold M_signpostref08_Find_v_b1
        rw [if_pos (by rw [List.length_map]; omega), hx, Option.bind_some, if_pos (show l[k].r.ID = id from hc)])
    · rw [if_neg hc, loopO_next (s' := ((k + 1 : Nat) : Int)) (by
        unfold M_signpostref08_Find_v_b1
        rw [if_pos (by rw [List.length_map]; omega), hx, Option.bind_some, if_neg (show ¬ l[k].r.ID = id from hc), if_pos (ok_small (by omega))]; rfl), ih (k + 1) (by omega)]
      rfl
theorem ref08_find {l : List CT} {id : Fin 20 → UInt8} (hl : l.length ≤ 4611686018427387904) : M_signpostref08_Find_v (l.map CT.r) id = some (findS l id) := by
  unfold M_signpostref08_Find_v
  have := find_loopR (id := id) hl l.length 0 (by omega)
  rw [show ((0 : Nat) : Int) = 0 from rfl] at this
  rw [this, Option.bind_some]
  unfold findS
  rw [List.drop_zero]
  by_cases h : findF id 0 l = -1
  · rw [if_pos h, h]
  · rw [if_neg h]
/-- Whether the contacts of a list, from a place on, are good, and first of their IDs. -/
def goodF (l : List CT) : Int → List CT → Bool
  | _, [] => true
  | k, c :: r => decide (c.host ≠ 0 ∧ c.port ≠ 0) && decide (findS l c.id = k) && goodF l (k + 1) r
theorem good_loopP {l : List CT} (hl : l.length ≤ 4611686018427387904) : ∀ (d k : Nat), l.length = k + d →
    loopO (fun z_ => M_contact_good_v_b1 (l.map CT.p) z_) (k : Int) = some (if goodF l k (l.drop k) = true then .inl () else .inr false) := by
  intro d
  induction d with
  | zero =>
    intro k h
    rw [loopO_end (r := .inl ()) (by unfold M_contact_good_v_b1; rw [if_neg (by rw [List.length_map]; omega)]), List.drop_of_length_le (by omega)]; rfl
  | succ d ih =>
    intro k h
    have hk : k < l.length := by omega
    have hx : at? (l.map CT.p) (k : Int) = some (l[k].p) := by rw [at?_in (by rw [List.length_map]; exact hk)]; simp
    have hb : M_contact_good_v_b1 (l.map CT.p) (k : Int) = if l[k].host ≠ 0 ∧ l[k].port ≠ 0 then if findS l l[k].id = k then some (.inl ((k : Int) + 1)) else some (.inr (.inr false)) else some (.inr (.inr false)) := by
      unfold M_contact_good_v_b1 M_contact_Good
      rw [if_pos (by rw [List.length_map]; omega), hx, Option.bind_some, addr_good, Option.bind_some, Option.bind_some]
      simp only [decide_eq_true_eq]
      have e : (l[k].p.Addr.Host ≠ 0 ∧ l[k].p.Addr.Port ≠ 0) ↔ (l[k].host ≠ 0 ∧ l[k].port ≠ 0) := Iff.rfl
      by_cases hg : l[k].host ≠ 0 ∧ l[k].port ≠ 0
      · rw [if_pos (e.2 hg), if_pos hg, show l[k].p.ID = l[k].id from rfl, contact_find hl, Option.bind_some, if_pos (ok_small (by omega))]
      · rw [if_neg (fun hh => hg (e.1 hh)), if_neg hg]
    rw [List.drop_eq_getElem_cons hk]
    unfold goodF
    by_cases hg : l[k].host ≠ 0 ∧ l[k].port ≠ 0
    · by_cases hf : findS l l[k].id = k
      · rw [loopO_next (s' := ((k + 1 : Nat) : Int)) (by show M_contact_good_v_b1 (l.map CT.p) (k : Int) = _; rw [hb, if_pos hg, if_pos hf]; rfl), ih (k + 1) (by omega), decide_eq_true hg, decide_eq_true hf]
        simp
      · rw [loopO_end (r := .inr false) (by show M_contact_good_v_b1 (l.map CT.p) (k : Int) = _; rw [hb, if_pos hg, if_neg hf]), decide_eq_false hf]
        simp
    · rw [loopO_end (r := .inr false) (by show M_contact_good_v_b1 (l.map CT.p) (k : Int) = _; rw [hb, if_neg hg]), decide_eq_false hg]
      simp
def goodS (l : List CT) : Bool := goodF l 0 l && decide ((l.length : Int) ≤ 64)
theorem contact_good {l : List CT} (hl : l.length ≤ 4611686018427387904) : M_contact_good_v (l.map CT.p) = some (goodS l) := by
  unfold M_contact_good_v goodS
  have := good_loopP hl l.length 0 (by omega)
  rw [show ((0 : Nat) : Int) = 0 from rfl] at this
  rw [this, Option.bind_some, List.drop_zero]
  cases h : goodF l 0 l <;> simp
theorem good_loopR {l : List CT} (hl : l.length ≤ 4611686018427387904) : ∀ (d k : Nat), l.length = k + d →
    loopO (fun z_ => M_signpostref08_GoodList_v_b1 (l.map CT.r) z_) (k : Int) = some (if goodF l k (l.drop k) = true then .inl () else .inr false) := by
  intro d
  induction d with
  | zero =>
    intro k h
    rw [loopO_end (r := .inl ()) (by unfold M_signpostref08_GoodList_v_b1; rw [if_neg (by rw [List.length_map]; omega)]), List.drop_of_length_le (by omega)]; rfl
  | succ d ih =>
    intro k h
    have hk : k < l.length := by omega
    have hx : at? (l.map CT.r) (k : Int) = some (l[k].r) := by rw [at?_in (by rw [List.length_map]; exact hk)]; simp
    have hb : M_signpostref08_GoodList_v_b1 (l.map CT.r) (k : Int) = if l[k].host ≠ 0 ∧ l[k].port ≠ 0 then if findS l l[k].id = k then some (.inl ((k : Int) + 1)) else some (.inr (.inr false)) else some (.inr (.inr false)) := by
      unfold M_signpostref08_GoodList_v_b1 M_signpostref08_Good
      rw [if_pos (by rw [List.length_map]; omega), hx, Option.bind_some, ref06_good, Option.bind_some, Option.bind_some]
      simp only [decide_eq_true_eq]
      have e : (l[k].r.Addr.Host ≠ 0 ∧ l[k].r.Addr.Port ≠ 0) ↔ (l[k].host ≠ 0 ∧ l[k].port ≠ 0) := Iff.rfl
      by_cases hg : l[k].host ≠ 0 ∧ l[k].port ≠ 0
      · rw [if_pos (e.2 hg), if_pos hg, show l[k].r.ID = l[k].id from rfl, ref08_find hl, Option.bind_some, if_pos (ok_small (by omega))]
      · rw [if_neg (fun hh => hg (e.1 hh)), if_neg hg]
    rw [List.drop_eq_getElem_cons hk]
    unfold goodF
    by_cases hg : l[k].host ≠ 0 ∧ l[k].port ≠ 0
    · by_cases hf : findS l l[k].id = k
      · rw [loopO_next (s' := ((k + 1 : Nat) : Int)) (by show M_signpostref08_GoodList_v_b1 (l.map CT.r) (k : Int) = _; rw [hb, if_pos hg, if_pos hf]; rfl), ih (k + 1) (by omega), decide_eq_true hg, decide_eq_true hf]
        simp
      · rw [loopO_end (r := .inr false) (by show M_signpostref08_GoodList_v_b1 (l.map CT.r) (k : Int) = _; rw [hb, if_pos hg, if_neg hf]), decide_eq_false hf]
        simp
    · rw [loopO_end (r := .inr false) (by show M_signpostref08_GoodList_v_b1 (l.map CT.r) (k : Int) = _; rw [hb, if_neg hg]), decide_eq_false hg]
      simp
theorem ref08_good {l : List CT} (hl : l.length ≤ 4611686018427387904) : M_signpostref08_GoodList_v (l.map CT.r) = some (goodS l) := by
  unfold M_signpostref08_GoodList_v goodS
  have := good_loopR hl l.length 0 (by omega)
  rw [show ((0 : Nat) : Int) = 0 from rfl] at this
  rw [this, Option.bind_some, List.drop_zero]
  cases h : goodF l 0 l <;> simp
/-! ### reading lists -/
/-- So many contacts, read one by one behind these: whether all were there, and what is left. -/
def readF : Nat → List CT → List UInt8 → Bool → Option (List CT × List UInt8 × Bool)
  | 0, out, r, bad => some (out, r, bad)
  | n + 1, out, r, bad => match contS (takeS r bad 26).1 with
    | some c => readF n (out ++ [c]) (takeS r bad 26).2.1 (takeS r bad 26).2.2
    | none => none
theorem takeS_bad (r : List UInt8) (bad : Bool) : takeS r bad (-1) = ([], [], true) := by unfold takeS; rw [if_pos (.inr (.inl (by decide)))]
theorem readF_bound : ∀ (n : Nat) (out : List CT) (r : List UInt8) (bad : Bool) {o : List CT × List UInt8 × Bool}, readF n out r bad = some o → o.1.length = out.length + n ∧ o.2.1 <:+ r
  | 0, out, r, bad, o, h => by simp only [readF, Option.some.injEq] at h; subst h; exact ⟨rfl, List.suffix_refl _⟩
  | n + 1, out, r, bad, o, h => by
    unfold readF at h
    split at h
    · rename_i c hc
      obtain ⟨h1, h2⟩ := readF_bound n _ _ _ h
      exact ⟨by rw [h1, List.length_append]; simp; omega, h2.trans (takeS_suffix _ _ _)⟩
    · cases h
theorem readP_loop {m : Nat} (hm : m ≤ 255) : ∀ (d k : Nat) (out : List CT) (r : List UInt8) (bad : Bool), m = k + d → out.length = k → r.length ≤ 140737488355328 →
    loopO (fun z_ => M_contact_ReadList_po_b1 true (UInt64.ofNat m) z_.1 z_.2.1 z_.2.2.1 z_.2.2.2) (out.map CT.p, r, bad, UInt64.ofNat k) =
      some (match readF d out r bad with | some o => .inl (o.1.map CT.p, o.2.1, o.2.2) | none => .inr ([], [], true)) := by
  have hlt : ∀ k, k ≤ 255 → (UInt64.ofNat k).toNat = k := fun k hk => by rw [UInt64.toNat_ofNat']; omega
  intro d
  induction d with
  | zero =>
    intro k out r bad h ho hr
    exact loopO_end (by
      simp only [M_contact_ReadList_po_b1]
      rw [if_neg (by rw [UInt64.lt_iff_toNat_lt, hlt _ (by omega), hlt _ hm]; omega)]; rfl)
  | succ d ih =>
    intro k out r bad h ho hr
    have hlen := takeS_len r bad 26
    rcases ht : takeS r bad 26 with ⟨x, r', b'⟩
    rw [ht] at hlen; simp only at hlen
    have hc := contact_read x
    have hb : M_contact_ReadList_po_b1 true (UInt64.ofNat m) (out.map CT.p) r bad (UInt64.ofNat k) =
        match contS x with | some c => some (.inl ((out ++ [c]).map CT.p, r', b', UInt64.ofNat (k + 1))) | none => some (.inr (.inr ([], [], true))) := by
      unfold M_contact_ReadList_po_b1
      rw [if_pos (by rw [UInt64.lt_iff_toNat_lt, hlt _ (by omega), hlt _ hm]; omega), octet_take hr, Option.bind_some, ht]
      simp only
      rw [hc, Option.bind_some]
      cases hh : contS x with
      | none =>
        simp only
        rw [if_neg (by decide), octet_take (by omega), Option.bind_some, takeS_bad]
      | some c =>
        simp only
        rw [if_pos trivial, if_pos (by rw [List.length_map]; omega)]
        have e : UInt64.ofNat k + 1 = UInt64.ofNat (k + 1) := by
          apply UInt64.toNat_inj.1
          rw [UInt64.toNat_add, hlt _ (by omega), hlt _ (by omega)]
          show (k + 1) % 2 ^ 64 = k + 1
          omega
        rw [e, List.map_append]; rfl
    unfold readF
    rw [ht]
    simp only
    cases hh : contS x with
    | none =>
      rw [hh] at hb
      exact loopO_end (by exact hb)
    | some c =>
      rw [hh] at hb
      rw [loopO_next (s' := ((out ++ [c]).map CT.p, r', b', UInt64.ofNat (k + 1))) (by exact hb)]
      exact ih (k + 1) _ _ _ (by omega) (by rw [List.length_append, ho]; rfl) (by omega)
/-- The list that is read; what is left. -/
def listS (r : List UInt8) (bad : Bool) : List CT × List UInt8 × Bool :=
  match readF (numS r bad 1).1.toNat [] (numS r bad 1).2.1 (numS r bad 1).2.2 with
  | some o => if goodS o.1 = true then o else ([], [], true)
  | none => ([], [], true)
theorem num1 (r : List UInt8) (bad : Bool) : ∃ m : Nat, m ≤ 255 ∧ (numS r bad 1).1 = UInt64.ofNat m := by
  unfold numS
  split
  · exact ⟨0, by omega, rfl⟩
  · match r with
    | [] => exact ⟨0, by omega, rfl⟩
    | x :: r =>
      refine ⟨x.toNat, by have := x.toNat_lt; omega, ?_⟩
      apply UInt64.toNat_inj.1
      have := x.toNat_lt
      simp [num]
theorem contact_readList {r : List UInt8} {bad : Bool} (hr : r.length ≤ 140737488355328) : M_contact_ReadList_po r true bad = some ((listS r bad).1.map CT.p, (listS r bad).2.1, (listS r bad).2.2) := by
  obtain ⟨m, hm, e⟩ := num1 r bad
  have hl := numS_len r bad 1
  have hlt : (UInt64.ofNat m).toNat = m := by rw [UInt64.toNat_ofNat']; omega
  unfold M_contact_ReadList_po listS
  rw [octet_num hr, Option.bind_some]
  simp only
  rw [e, hlt]
  have := readP_loop hm m 0 [] (numS r bad 1).2.1 (numS r bad 1).2.2 (by omega) rfl (by omega)
  rw [show UInt64.ofNat 0 = 0 from rfl, List.map_nil] at this
  rw [this, Option.bind_some]
  cases hh : readF m [] (numS r bad 1).2.1 (numS r bad 1).2.2 with
  | none => rfl
  | some o =>
    obtain ⟨h1, h2⟩ := readF_bound _ _ _ _ hh
    simp only
    rw [contact_good (by rw [h1]; simp; omega), Option.bind_some]
    cases hg : goodS o.1 with
    | true => rfl
    | false =>
      simp only [Bool.false_eq_true, if_false]
      rw [octet_take (by have := h2.length_le; omega), Option.bind_some, takeS_bad]; rfl
theorem readR_loop {B : List UInt8} {m : Nat} (hm : m ≤ 255) (hB : B.length ≤ 140737488355328) : ∀ (d k : Nat) (out : List CT) (r : List UInt8) (bad : Bool), m = k + d → out.length = k → r <:+ B →
    loopO (fun z_ => M_signpostref08_ReadList_pv_b1 B (UInt64.ofNat m) z_.1 z_.2.1 z_.2.2.1 z_.2.2.2) (refAt B r, bad, out.map CT.r, (k : Int)) =
      some (match readF d out r bad with | some o => .inl (refAt B o.2.1, o.2.2, o.1.map CT.r) | none => .inr ([], refAt B [], true)) := by
  have hlt : ∀ k, k ≤ 255 → (UInt64.ofNat k).toNat = k := fun k hk => by rw [UInt64.toNat_ofNat']; omega
  intro d
  induction d with
  | zero =>
    intro k out r bad h ho hr
    exact loopO_end (by
      simp only [M_signpostref08_ReadList_pv_b1]
      rw [if_neg (by rw [hlt _ hm]; omega)]; rfl)
  | succ d ih =>
    intro k out r bad h ho hr
    have hsuf := takeS_suffix r bad 26
    rcases ht : takeS r bad 26 with ⟨x, r', b'⟩
    rw [ht] at hsuf
    have hc := ref08_read x
    have hb : M_signpostref08_ReadList_pv_b1 B (UInt64.ofNat m) (refAt B r) bad (out.map CT.r) (k : Int) =
        match contS x with | some c => some (.inl (refAt B r', b', (out ++ [c]).map CT.r, ((k + 1 : Nat) : Int))) | none => some (.inr (.inr ([], refAt B [], true))) := by
      unfold M_signpostref08_ReadList_pv_b1
      rw [if_pos (by rw [hlt _ hm]; omega), ref01_take hB hr (by omega), Option.bind_some, ht]
      simp only
      rw [hc, Option.bind_some]
      cases hh : contS x with
      | none =>
        simp only
        rw [if_neg (by decide), ref01_take hB (hsuf.trans hr) (by omega), Option.bind_some, takeS_bad]
      | some c =>
        simp only
        rw [if_pos trivial, if_pos (by rw [List.length_map]; omega), if_pos (ok_small (by omega)), List.map_append]; rfl
    unfold readF
    rw [ht]
    simp only
    cases hh : contS x with
    | none =>
      rw [hh] at hb
      exact loopO_end (by exact hb)
    | some c =>
      rw [hh] at hb
      rw [loopO_next (s' := (refAt B r', b', (out ++ [c]).map CT.r, ((k + 1 : Nat) : Int))) (by exact hb)]
      exact ih (k + 1) _ _ _ (by omega) (by rw [List.length_append, ho]; rfl) (hsuf.trans hr)
theorem ref08_readList {B r : List UInt8} {bad : Bool} (hB : B.length ≤ 140737488355328) (hr : r <:+ B) : M_signpostref08_ReadList_pv B (refAt B r) bad = some ((listS r bad).1.map CT.r, refAt B (listS r bad).2.1, (listS r bad).2.2) := by
  obtain ⟨m, hm, e⟩ := num1 r bad
  have hs := numS_suffix r bad 1
  have hlt : (UInt64.ofNat m).toNat = m := by rw [UInt64.toNat_ofNat']; omega
  unfold M_signpostref08_ReadList_pv listS
  rw [ref01_num hB hr, Option.bind_some]
  simp only
  rw [e, if_pos (by rw [hlt]; omega), hlt]
  have := readR_loop hm hB m 0 [] (numS r bad 1).2.1 (numS r bad 1).2.2 (by omega) rfl (hs.trans hr)
  rw [show ((0 : Nat) : Int) = 0 from rfl, List.map_nil] at this
  rw [this, Option.bind_some]
  cases hh : readF m [] (numS r bad 1).2.1 (numS r bad 1).2.2 with
  | none => rfl
  | some o =>
    obtain ⟨h1, h2⟩ := readF_bound _ _ _ _ hh
    simp only
    rw [ref08_good (by rw [h1]; simp; omega), Option.bind_some]
    cases hg : goodS o.1 with
    | true => rfl
    | false =>
      simp only [Bool.false_eq_true, if_false]
      rw [ref01_take hB (h2.trans (hs.trans hr)) (by omega), Option.bind_some, takeS_bad]; rfl
/-- The bytes of a contact; of contacts. -/
def bytesC (c : CT) : List UInt8 := List.ofFn c.id ++ (putF c.host.toUInt64 4 ++ putF c.port.toUInt64 2)
def flatC : List CT → List UInt8
  | [] => []
  | c :: l => bytesC c ++ flatC l
theorem bytesC_len (c : CT) : (bytesC c).length = 26 := by
  unfold bytesC
  rw [List.length_append, List.length_append, List.length_ofFn, putF_len, putF_len]
theorem flatC_len : ∀ l : List CT, (flatC l).length = l.length * 26
  | [] => rfl
  | c :: l => by rw [flatC, List.length_append, bytesC_len, flatC_len l, List.length_cons]; omega
theorem goodF_mem (l : List CT) : ∀ (r : List CT) (k : Int), goodF l k r = true → ∀ c ∈ r, c.host ≠ 0 ∧ c.port ≠ 0
  | [], _, _, c, hc => by cases hc
  | x :: r, k, h, c, hc => by
    simp only [goodF, Bool.and_eq_true, decide_eq_true_eq] at h
    rcases List.mem_cons.1 hc with rfl | hc
    · exact h.1.1
    · exact goodF_mem l r (k + 1) h.2 c hc
theorem goodS_mem {l : List CT} (h : goodS l = true) : l.length ≤ 64 ∧ ∀ c ∈ l, c.host ≠ 0 ∧ c.port ≠ 0 := by
  unfold goodS at h
  rw [Bool.and_eq_true, decide_eq_true_eq] at h
  exact ⟨by omega, goodF_mem l l 0 h.1⟩
/-! ### contacts to bytes -/
theorem addr_bytes (a : G_api_Addr) : M_addr_Bytes a = some (putF a.Host.toUInt64 4 ++ putF a.Port.toUInt64 2) := by
  unfold M_addr_Bytes
  rw [octet_put (by simp), Option.bind_some, if_pos (by decide), octet_put (by rw [List.nil_append, putF_len]; decide), Option.bind_some, if_pos (by decide)]
  rfl
theorem contact_bytes (c : G_api_Contact) : M_contact_Bytes c = some (List.ofFn c.ID ++ (putF c.Addr.Host.toUInt64 4 ++ putF c.Addr.Port.toUInt64 2)) := by
  unfold M_contact_Bytes
  rw [addr_bytes, Option.bind_some]
  have e2 : (putF c.Addr.Host.toUInt64 4 ++ putF c.Addr.Port.toUInt64 2).length = 6 := by rw [List.length_append, putF_len, putF_len]
  generalize putF c.Addr.Host.toUInt64 4 ++ putF c.Addr.Port.toUInt64 2 = y at e2
  have e1 : (List.ofFn c.ID).length = 20 := List.length_ofFn
  generalize List.ofFn c.ID = x at e1
  unfold M_slices_Concat_byte_s2vo
  rw [e1, e2, if_pos (by decide), if_neg (by decide), if_pos (by decide), if_neg (by decide)]
  have eg : M_slices_Grow_byte_n ((0 + ((20 : Nat) : Int)) + ((6 : Nat) : Int)) = some [] := by
    unfold M_slices_Grow_byte_n
    rw [if_neg (by decide), if_pos (by decide), if_pos (by decide), if_pos (by decide), if_pos (by simp), if_pos (by simp)]
    rfl
  rw [eg, Option.bind_some, if_pos (by simp), if_pos (by simp [e1]), Option.bind_some]
  rfl
theorem contS_form {x : List UInt8} {c : CT} (h : contS x = some c) : x = bytesC c ∧ c.host ≠ 0 ∧ c.port ≠ 0 := by
  unfold contS at h
  split at h
  · rename_i hg
    obtain ⟨hl, h1, h2⟩ := hg
    cases h
    refine ⟨?_, h1, h2⟩
    have ei : List.ofFn (idS x) = x.take 20 := by
      apply List.ext_getElem
      · rw [List.length_ofFn, List.length_take]; omega
      · intro i hi hi'
        rw [List.length_ofFn] at hi
        rw [List.getElem_ofFn, List.getElem_take]
        unfold idS copyA
        rw [List.getElem?_eq_getElem (by show i < x.length; omega)]
        rfl
    have eh : putF (hostS (x.drop 20)).toUInt64 4 = (x.drop 20).take 4 := by
      have hl4 : ((x.drop 20).take 4).length = 4 := by rw [List.length_take, List.length_drop]; omega
      have e : (hostS (x.drop 20)).toUInt64 = num ((x.drop 20).take 4) := by
        unfold hostS
        apply UInt64.toNat_inj.1
        have h2 := val_lt ((x.drop 20).take 4)
        have h3 := num_val ((x.drop 20).take 4) (by omega)
        rw [hl4] at h2
        rw [UInt32.toNat_toUInt64, UInt64.toNat_toUInt32, h3]
        omega
      have h3 := put_num ((x.drop 20).take 4) (by omega)
      rw [hl4] at h3
      rw [e, h3]
    have ep : putF (portS (x.drop 20)).toUInt64 2 = ((x.drop 20).drop 4).take 2 := by
      have hl4 : (((x.drop 20).drop 4).take 2).length = 2 := by rw [List.length_take, List.length_drop, List.length_drop]; omega
      have e : (portS (x.drop 20)).toUInt64 = num (((x.drop 20).drop 4).take 2) := by
        unfold portS
        apply UInt64.toNat_inj.1
        have h2 := val_lt (((x.drop 20).drop 4).take 2)
        have h3 := num_val (((x.drop 20).drop 4).take 2) (by omega)
        rw [hl4] at h2
        rw [UInt16.toNat_toUInt64, UInt64.toNat_toUInt16, h3]
        omega
      have h3 := put_num (((x.drop 20).drop 4).take 2) (by omega)
      rw [hl4] at h3
      rw [e, h3]
    unfold bytesC
    simp only
    rw [ei, eh, ep, List.take_of_length_le (i := 2) (by rw [List.length_drop, List.length_drop]; omega), List.take_append_drop, List.take_append_drop]
  · cases h
theorem readF_form : ∀ (n : Nat) (out : List CT) (r : List UInt8) {o : List CT × List UInt8 × Bool}, readF n out r false = some o →
    o.2.2 = false ∧ ∃ l, o.1 = out ++ l ∧ l.length = n ∧ r = flatC l ++ o.2.1
  | 0, out, r, o, h => by simp only [readF, Option.some.injEq] at h; subst h; exact ⟨rfl, [], by simp, rfl, rfl⟩
  | n + 1, out, r, o, h => by
    unfold readF at h
    split at h
    · rename_i c hc
      obtain ⟨hx, -, -⟩ := contS_form hc
      unfold takeS at h hx
      split at h
      · rename_i hbad
        rw [if_pos hbad] at hx
        have := congrArg List.length hx
        rw [bytesC_len] at this
        cases this
      · rename_i hbad
        rw [if_neg hbad] at hx
        obtain ⟨h1, l, h2, h3, h4⟩ := readF_form n _ _ h
        refine ⟨h1, c :: l, by rw [h2, List.append_assoc]; rfl, by rw [List.length_cons, h3], ?_⟩
        simp only at h4 hx
        rw [flatC, List.append_assoc, ← h4, ← hx, List.take_append_drop]
    · cases h
theorem num_one (x : UInt8) : num [x] = x.toUInt64 := by simp [num]
/-- What reading a list finds, when it does. -/
theorem listS_form {r : List UInt8} : ((listS r false).2.2 = true ∧ (listS r false).1 = []) ∨
    ((listS r false).2.2 = false ∧ goodS (listS r false).1 = true ∧ r = (UInt8.ofNat (listS r false).1.length :: flatC (listS r false).1) ++ (listS r false).2.1) := by
  unfold listS numS
  cases r with
  | nil =>
    rw [if_pos (by simp)]
    exact .inl ⟨rfl, rfl⟩
  | cons x r =>
    rw [if_neg (by simp; omega)]
    simp only [show (1 : Int).toNat = 1 from rfl, List.take_succ_cons, List.take_zero, List.drop_succ_cons, List.drop_zero, num_one]
    have ex : x.toUInt64.toNat = x.toNat := by simp
    rw [ex]
    cases hh : readF x.toNat [] r false with
    | none => exact .inl ⟨rfl, rfl⟩
    | some o =>
      obtain ⟨h1, l, h2, h3, h4⟩ := readF_form _ _ _ hh
      simp only
      by_cases hg : goodS o.1 = true
      · rw [if_pos hg]
        rw [List.nil_append] at h2
        refine .inr ⟨h1, hg, ?_⟩
        rw [h2, h3, List.cons_append, ← h4]
        simp
      · rw [if_neg hg]
        exact .inl ⟨rfl, rfl⟩
theorem contact_bytesC (c : CT) : M_contact_Bytes c.p = some (bytesC c) := contact_bytes c.p
theorem list_loop {l : List CT} (hl : l.length ≤ 4096) : ∀ (d k : Nat) (out : List UInt8), l.length = k + d → out.length ≤ 1 + k * 26 →
    loopO (fun z_ => M_contact_List_v_b1 (l.map CT.p) z_.1 z_.2) (out, (k : Int)) = some (out ++ flatC (l.drop k)) := by
  intro d
  induction d with
  | zero =>
    intro k out h ho
    rw [loopO_end (r := out) (by unfold M_contact_List_v_b1; rw [if_neg (by rw [List.length_map]; omega)]), List.drop_of_length_le (by omega), flatC, List.append_nil]
  | succ d ih =>
    intro k out h ho
    have hk : k < l.length := by omega
    have hx : at? (l.map CT.p) (k : Int) = some (l[k].p) := by rw [at?_in (by rw [List.length_map]; exact hk)]; simp
    have hlen := bytesC_len l[k]
    rw [loopO_next (s' := (out ++ bytesC l[k], ((k + 1 : Nat) : Int))) (by
      show M_contact_List_v_b1 (l.map CT.p) out (k : Int) = _
      unfold M_contact_List_v_b1
      rw [if_pos (by rw [List.length_map]; omega), hx, Option.bind_some, contact_bytesC, Option.bind_some]
      rw [if_pos (by omega), if_pos (ok_small (by omega))]; rfl),
      ih (k + 1) _ (by omega) (by rw [List.length_append]; omega), List.drop_eq_getElem_cons hk, flatC, List.append_assoc]
theorem contact_list {l : List CT} (hl : l.length ≤ 4096) : M_contact_List_v (l.map CT.p) = some (if goodS l = true then (UInt8.ofNat l.length :: flatC l, 0) else ([], 2)) := by
  unfold M_contact_List_v
  rw [contact_good (by omega), Option.bind_some]
  by_cases h : goodS l = true
  · obtain ⟨h64, -⟩ := goodS_mem h
    rw [if_pos h, if_pos h, octet_put (by simp), Option.bind_some, if_pos (by decide)]
    have e : putF (UInt64.ofInt (((l.map CT.p).length : Nat) : Int)) (1 : Int).toNat = [UInt8.ofNat l.length] := by
      rw [List.length_map]
      show [(shr64 (UInt64.ofInt ((l.length : Nat) : Int)) (8 * 0)).toUInt8] = _
      congr 1
      apply UInt8.toNat_inj.1
      simp [shr64, UInt64.ofInt, UInt64.toNat_ofNat']
      omega
    rw [List.nil_append, e]
    have := list_loop hl l.length 0 [UInt8.ofNat l.length] (by omega) (by simp)
    rw [show ((0 : Nat) : Int) = 0 from rfl] at this
    rw [this, Option.bind_some, List.drop_zero]
    rfl
  · rw [if_neg h, if_neg h]
/-! ### messages: kinds, and which are good -/
def keyK (k : Int) : Bool := decide (2 ≤ k ∧ k ≤ 9 ∧ k ≠ 5)
def contK (k : Int) : Bool := decide (k = 6)
def listK (k : Int) : Bool := decide (k = 4 ∨ k = 7)
def okK (k : Int) : Bool := decide (1 ≤ k ∧ k ≤ 9)
theorem wire_has (k : Int) : M_wire_has k = some (⟨keyK k, contK k, listK k⟩, okK k) := by
  by_cases h1 : k = 1
  · subst h1; rfl
  by_cases h2 : k = 2
  · subst h2; rfl
  by_cases h3 : k = 3
  · subst h3; rfl
  by_cases h4 : k = 4
  · subst h4; rfl
  by_cases h5 : k = 5
  · subst h5; rfl
  by_cases h6 : k = 6
  · subst h6; rfl
  by_cases h7 : k = 7
  · subst h7; rfl
  by_cases h8 : k = 8
  · subst h8; rfl
  by_cases h9 : k = 9
  · subst h9; rfl
  have e1 : keyK k = false := decide_eq_false (by omega)
  have e2 : contK k = false := decide_eq_false (by omega)
  have e3 : listK k = false := decide_eq_false (by omega)
  have e4 : okK k = false := decide_eq_false (by omega)
  rw [e1, e2, e3, e4]
  unfold M_wire_has M_wire_has_k2 M_wire_has_k3
  rw [if_neg h4, if_neg h7, if_neg h6, if_neg h1, decide_eq_false h5, decide_eq_false h9, if_neg (by decide), if_neg h2, if_neg h3, if_neg h8, if_neg (by decide)]
noncomputable def restW (k : Int) (C : List CT) (R : List G_api_Instance) : Bool := (if contK k = true then goodS C else C.isEmpty) && (if listK k = true then !R.isEmpty && isGoodR R else R.isEmpty)
noncomputable def goodW (k : Int) (key : Fin 20 → UInt8) (C : List CT) (R : List G_api_Instance) : Bool := okK k && (keyK k || decide (key = fun _ => 0)) && restW k C R
theorem empty_len {α : Type} (l : List α) : decide ((l.length : Int) = 0) = l.isEmpty := by cases l <;> simp <;> omega
theorem good_k3 {C : List CT} {R : List G_api_Instance} (a b c : Bool) : M_wire_Good_vv_2_k3 (C.map CT.p) R ⟨a, b, c⟩ = some ((b || C.isEmpty) && (c || R.isEmpty)) := by
  have e1 := empty_len C
  have e2 := empty_len R
  unfold M_wire_Good_vv_2_k3
  rw [List.length_map]
  cases b with
  | true =>
    simp only [if_true, Bool.true_or, Bool.true_and]
    cases c with
    | true => simp
    | false => simp only [Bool.false_eq_true, if_false, Bool.false_or]; rw [e2]
  | false =>
    simp only [Bool.false_eq_true, if_false, Bool.false_or]
    by_cases h : (C.length : Int) = 0
    · rw [decide_eq_true h] at e1
      rw [if_pos h, ← e1, Bool.true_and]
      cases c with
      | true => simp
      | false => simp only [Bool.false_eq_true, if_false, Bool.false_or]; rw [e2]
    · rw [decide_eq_false h] at e1
      rw [if_neg h, ← e1, Bool.false_and]
theorem good_k2 {C : List CT} {R : List G_api_Instance} (hR : (∀ x ∈ R, x.Target.length ≤ 140737488355328) ∧ R.length ≤ 1000000) (a b c : Bool) : M_wire_Good_vv_2_k2 (C.map CT.p) R ⟨a, b, c⟩ = some ((b || C.isEmpty) && (if c = true then !R.isEmpty && isGoodR R else R.isEmpty)) := by
  have e2 := empty_len R
  unfold M_wire_Good_vv_2_k2
  simp only [good_k3]
  cases c with
  | true =>
    simp only [if_true, Bool.true_or, Bool.and_true]
    by_cases h : (R.length : Int) = 0
    · rw [decide_eq_true h] at e2
      rw [if_pos h, ← e2, Bool.not_true, Bool.false_and, Bool.and_false]
    · rw [decide_eq_false h] at e2
      rw [if_neg h, ← e2, Bool.not_false, Bool.true_and, roster_goodR hR.1 hR.2, some_bindP]
      cases isGoodR R with
      | true => rw [if_pos rfl, Bool.and_true]
      | false => rw [if_neg (by decide), Bool.and_false]
  | false => simp only [Bool.false_eq_true, if_false, Bool.false_or]
theorem good_k1 {C : List CT} {R : List G_api_Instance} (hC : C.length ≤ 4096) (hR : (∀ x ∈ R, x.Target.length ≤ 140737488355328) ∧ R.length ≤ 1000000) (a b c : Bool) : M_wire_Good_vv_2_k1 (C.map CT.p) R ⟨a, b, c⟩ = some ((if b = true then goodS C else C.isEmpty) && (if c = true then !R.isEmpty && isGoodR R else R.isEmpty)) := by
  unfold M_wire_Good_vv_2_k1
  simp only [good_k2 hR, contact_list hC]
  cases b with
  | true =>
    simp only [if_true, Bool.true_or, Bool.true_and]
    cases goodS C with
    | true => rw [if_pos rfl, some_bindP]; simp only [if_true, Bool.true_and]
    | false => rw [if_neg (by decide), some_bindP]; simp only []; rw [if_neg (by decide), Bool.false_and]
  | false => simp only [Bool.false_eq_true, if_false, Bool.false_or]
theorem wire_good {k : Int} {t : UInt32} {f key : Fin 20 → UInt8} {C : List CT} {R : List G_api_Instance} (hC : C.length ≤ 4096) (hR : (∀ x ∈ R, x.Target.length ≤ 140737488355328) ∧ R.length ≤ 1000000) : M_wire_Good_vv_2 k t f key (C.map CT.p) R = some (goodW k key C R) := by
  unfold M_wire_Good_vv_2 goodW
  rw [wire_has, some_bindP]
  simp only [good_k1 hC hR]
  rw [show ((if contK k = true then goodS C else C.isEmpty) && (if listK k = true then !R.isEmpty && isGoodR R else R.isEmpty)) = restW k C R from rfl]
  cases okK k with
  | false => rw [if_neg (by decide), Bool.false_and, Bool.false_and]
  | true =>
    rw [if_pos rfl, Bool.true_and]
    cases keyK k with
    | true => rw [if_pos rfl, Bool.true_or, Bool.true_and]
    | false =>
      rw [if_neg (by decide), Bool.false_or]
      by_cases h : key = fun _ => 0
      · rw [if_pos h, decide_eq_true h, Bool.true_and]
      · rw [if_neg h, decide_eq_false h, Bool.false_and]
/-! ### a message's bytes -/
theorem grow_small {n : Int} (h : 0 ≤ n ∧ n ≤ 1000000) : M_slices_Grow_byte_n n = some [] := by
  unfold M_slices_Grow_byte_n
  rw [if_neg (by omega), if_pos (ok_small (by omega))]
  by_cases h0 : 0 < n - 0
  · rw [if_pos h0, if_pos (by decide), if_pos (by simp only [List.take_nil, List.length_nil]; omega), if_pos (by simp; omega)]
    rfl
  · rw [if_neg h0]
theorem concat_ov {x y : List UInt8} (hx : x.length ≤ 100000) (hy : y.length ≤ 100000) : M_slices_Concat_byte_s2ov x y = some (x ++ y) := by
  unfold M_slices_Concat_byte_s2ov
  rw [if_pos (ok_small (by omega)), if_neg (by omega), if_pos (ok_small (by omega)), if_neg (by omega), grow_small (by omega), some_bindP, List.nil_append, if_pos (by simp only [List.length_nil]; omega), if_pos (by omega)]
def headW (k : Int) (t : UInt32) (f : Fin 20 → UInt8) : List UInt8 := [1, UInt8.ofInt k] ++ putF t.toUInt64 4 ++ List.ofFn f
def keyB (k : Int) (key : Fin 20 → UInt8) : List UInt8 := if keyK k = true then List.ofFn key else []
def contB (k : Int) (C : List CT) : List UInt8 := if contK k = true then UInt8.ofNat C.length :: flatC C else []
def listB (k : Int) (R : List G_api_Instance) : List UInt8 := if listK k = true then bytesR R else []
def encW (k : Int) (t : UInt32) (f key : Fin 20 → UInt8) (C : List CT) (R : List G_api_Instance) : List UInt8 := headW k t f ++ keyB k key ++ contB k C ++ listB k R
theorem kind_byte {k : Int} (h : okK k = true) : putF (UInt64.ofInt k) 1 = [UInt8.ofInt k] := by
  have hk := of_decide_eq_true h
  have e : k = 1 ∨ k = 2 ∨ k = 3 ∨ k = 4 ∨ k = 5 ∨ k = 6 ∨ k = 7 ∨ k = 8 ∨ k = 9 := by omega
  rcases e with e | e | e | e | e | e | e | e | e <;> subst e <;> decide
theorem headW_len (k : Int) (t : UInt32) (f : Fin 20 → UInt8) : (headW k t f).length = 26 := by unfold headW; rw [List.length_append, List.length_append, putF_len, List.length_ofFn]; rfl
theorem contB_len {k : Int} {C : List CT} (h : goodS C = true ∨ contK k = false) : (contB k C).length ≤ 1 + 64 * 26 := by
  unfold contB
  split
  · rename_i hc
    rcases h with h | h
    · have := (goodS_mem h).1
      rw [List.length_cons, flatC_len]; omega
    · rw [h] at hc; cases hc
  · simp
theorem listB_len {k : Int} {R : List G_api_Instance} (h : GoodR R ∨ listK k = false) : (listB k R).length ≤ 32100 := by
  unfold listB
  split
  · rename_i hc
    rcases h with h | h
    · have h1 := bytesL_len (l := R) (fun x hx => by have := goodI_len (h.good x hx); omega)
      have h2 := h.few
      unfold bytesR
      rw [List.length_append, putF_len]; omega
    · rw [h] at hc; cases hc
  · simp
theorem goodW_parts {k : Int} {key : Fin 20 → UInt8} {C : List CT} {R : List G_api_Instance} (h : goodW k key C R = true) : okK k = true ∧ (goodS C = true ∨ contK k = false) ∧ (GoodR R ∨ listK k = false) ∧ (contK k = false → C = []) ∧ (listK k = false → R = []) ∧ (keyK k = false → key = fun _ => 0) := by
  unfold goodW restW at h
  rw [Bool.and_eq_true, Bool.and_eq_true, Bool.and_eq_true] at h
  obtain ⟨⟨h1, h2⟩, h3, h4⟩ := h
  refine ⟨h1, ?_, ?_, ?_, ?_, ?_⟩
  · cases hc : contK k with
    | true => rw [hc, if_pos rfl] at h3; exact .inl h3
    | false => exact .inr rfl
  · cases hc : listK k with
    | true => rw [hc, if_pos rfl, Bool.and_eq_true] at h4; exact .inl (isGoodR_iff.1 h4.2)
    | false => exact .inr rfl
  · intro hc
    rw [hc, if_neg (by decide)] at h3
    exact List.isEmpty_iff.1 h3
  · intro hc
    rw [hc, if_neg (by decide)] at h4
    exact List.isEmpty_iff.1 h4
  · intro hc
    rw [hc, Bool.false_or] at h2
    exact of_decide_eq_true h2
theorem enc_k2 {k : Int} {R : List G_api_Instance} {out : List UInt8} (a b : Bool) (hR : (∀ x ∈ R, x.Target.length ≤ 140737488355328) ∧ R.length ≤ 1000000) (hg : GoodR R ∨ listK k = false) (ho : out.length ≤ 100000) :
    M_wire_Encode_vv_2_k2 R ⟨a, b, listK k⟩ out = some (out ++ listB k R, 0) := by
  have hl := listB_len hg
  unfold M_wire_Encode_vv_2_k2
  unfold listB at hl ⊢
  cases hc : listK k with
  | false => simp
  | true =>
    rw [hc, if_pos rfl] at hl
    simp only [if_true]
    rcases hg with hg | hg
    · rw [roster_bytes hR.1 hR.2, if_pos (isGoodR_iff.2 hg), some_bindP]
      simp only []
      rw [if_pos (by omega)]
    · rw [hg] at hc; cases hc
theorem enc_k1 {k : Int} {C : List CT} {R : List G_api_Instance} {out : List UInt8} (a : Bool) (hC : C.length ≤ 4096) (hR : (∀ x ∈ R, x.Target.length ≤ 140737488355328) ∧ R.length ≤ 1000000) (hc : goodS C = true ∨ contK k = false) (hg : GoodR R ∨ listK k = false) (ho : out.length ≤ 1000) :
    M_wire_Encode_vv_2_k1 (C.map CT.p) R ⟨a, contK k, listK k⟩ out = some (out ++ contB k C ++ listB k R, 0) := by
  have hl := contB_len hc
  unfold M_wire_Encode_vv_2_k1
  cases hb : contK k with
  | false =>
    rw [show contB k C = [] by unfold contB; rw [hb, if_neg (by decide)], List.append_nil]
    simp only [Bool.false_eq_true, if_false]
    rw [enc_k2 _ _ hR hg (by omega)]
  | true =>
    rcases hc with hc | hc
    · have e : contB k C = UInt8.ofNat C.length :: flatC C := by unfold contB; rw [hb, if_pos rfl]
      rw [e] at hl ⊢
      simp only [if_true]
      rw [contact_list hC, if_pos hc, some_bindP]
      simp only []
      rw [if_pos (by omega), enc_k2 _ _ hR hg (by rw [List.length_append]; omega)]
    · rw [hc] at hb; cases hb
theorem wire_encode {k : Int} {t : UInt32} {f key : Fin 20 → UInt8} {C : List CT} {R : List G_api_Instance} (hC : C.length ≤ 4096) (hR : (∀ x ∈ R, x.Target.length ≤ 140737488355328) ∧ R.length ≤ 1000000) :
    M_wire_Encode_vv_2 k t f key (C.map CT.p) R = some (if goodW k key C R = true then (encW k t f key C R, 0) else ([], 2)) := by
  unfold M_wire_Encode_vv_2
  rw [wire_good hC hR, some_bindP]
  by_cases h : goodW k key C R = true
  · obtain ⟨h1, h2, h3, _, _, _⟩ := goodW_parts h
    have p1 := octet_put (b := []) (n := 1) (w := 1) (by simp)
    rw [if_pos (by decide), List.nil_append, show (1 : Int).toNat = 1 from rfl, show putF 1 1 = [1] by decide] at p1
    have p2 := octet_put (b := [1]) (n := UInt64.ofInt k) (w := 1) (by simp)
    rw [if_pos (by decide), show (1 : Int).toNat = 1 from rfl, kind_byte h1] at p2
    have p3 := octet_put (b := [1] ++ [UInt8.ofInt k]) (n := t.toUInt64) (w := 4) (by simp)
    rw [if_pos (by decide), show (4 : Int).toNat = 4 from rfl] at p3
    have hh := headW_len k t f
    rw [if_pos h, if_pos h, wire_has, some_bindP]
    simp only []
    rw [p1, some_bindP, p2, some_bindP, p3, some_bindP, concat_ov (by rw [List.length_append, putF_len]; simp) (by rw [List.length_ofFn]; decide), some_bindP]
    rw [show [1] ++ [UInt8.ofInt k] ++ putF t.toUInt64 4 ++ List.ofFn f = headW k t f from rfl]
    unfold encW
    cases hk : keyK k with
    | true =>
      rw [show keyB k key = List.ofFn key by unfold keyB; rw [hk, if_pos rfl], if_pos rfl, if_pos (by omega), enc_k1 _ hC hR h2 h3 (by rw [List.length_append, List.length_ofFn]; omega)]
    | false =>
      rw [show keyB k key = [] by unfold keyB; rw [hk, if_neg (by decide)], if_neg (by decide), enc_k1 _ hC hR h2 h3 (by omega), List.append_nil]
  · rw [if_neg h, if_neg h]
theorem wire_encode1 {k : Int} {t : UInt32} {f : Fin 20 → UInt8} {C : List G_api_Contact} {R : List G_api_Instance} : M_wire_Encode_vv k t f C R = M_wire_Encode_vv_2 k t f f C R := rfl
theorem lives14 : M_signpostlaw14_lives = some true := by
  have hg : goodW 1 (fun _ => 0) [] [] = true := rfl
  have he := wire_encode (k := 1) (t := 1) (f := fun _ => 0) (key := fun _ => 0) (C := []) (R := []) (by decide) ⟨fun x hx => absurd hx List.not_mem_nil, by decide⟩
  rw [hg, if_pos rfl] at he
  have e1 : encW 1 1 (fun _ => 0) (fun _ => 0) [] [] = headW 1 1 (fun _ => 0) := by simp [encW, keyB, contB, listB, keyK, contK, listK]
  have e2 := headW_len 1 1 (fun _ => 0)
  have e3 : (headW 1 1 (fun _ => 0)).take 6 = [1, 1, 0, 0, 0, 1] := by decide
  rw [e1] at he
  unfold M_signpostlaw14_lives
  rw [wire_encode1, show M_wire_Encode_vv_2 1 1 (fun _ => 0) (fun _ => 0) ([] : List G_api_Contact) ([] : List G_api_Instance) = _ from he, some_bindP]
  simp only []
  rw [if_pos (by omega), if_pos (by omega), if_pos e3, if_pos trivial]
  rfl
/-! ### messages that are read -/
theorem open14 {b : List UInt8} (h : b.length ≤ 1000000) : M_octet_Open_v b = some () := by unfold M_octet_Open_v; rw [if_pos (by omega)]
theorem octet_done (r : List UInt8) (bad : Bool) : M_octet_Reader_Done_po r true bad = some (if bad = true ∨ r ≠ [] then 10 else 0) := by
  unfold M_octet_Reader_Done_po M_octet_Reader_none_po M_octet_rest_left_po
  rw [some_bindP, if_pos rfl]
  cases bad with
  | true => rw [if_pos rfl, if_pos (.inl rfl)]
  | false =>
    rw [if_neg (by decide), some_bindP]
    cases r with
    | nil => rw [if_neg (by decide), if_neg (by simp)]
    | cons x r => rw [if_pos (by rw [List.length_cons]; omega), if_pos (by simp)]
noncomputable def rosS (r : List UInt8) (bad : Bool) : List G_api_Instance × List UInt8 × Bool := (M_roster_Read_po r true bad).getD ([], [], true)
theorem ros_bad (r : List UInt8) (hr : r.length ≤ 60000) : M_roster_Read_po r true true = some ([], [], true) := by
  unfold M_roster_Read_po
  rw [octet_num (by omega), show numS r true 1 = (0, [], true) from rfl, some_bindP]
  simp only []
  rw [loopO_end (r := .inl ([], true, [])) (by
    show M_roster_Read_po_b1 true 0 [] true [] 0 = _
    unfold M_roster_Read_po_b1
    rw [if_neg (by decide)]), some_bindP]
  simp only [good_nil, some_bindP, if_true]
theorem ros_read {r : List UInt8} {bad : Bool} (hr : r.length ≤ 60000) : M_roster_Read_po r true bad = some (rosS r bad) ∧ ((rosS r bad).2.2 = false → bad = false ∧ GoodR (rosS r bad).1 ∧ r = bytesR (rosS r bad).1 ++ (rosS r bad).2.1) ∧ (rosS r bad).2.1.length ≤ r.length ∧ (∀ x ∈ (rosS r bad).1, x.Target.length ≤ 253) ∧ (rosS r bad).1.length ≤ 16 := by
  unfold rosS
  cases bad with
  | true =>
    rw [ros_bad r hr]
    exact ⟨rfl, fun h => (by cases h), Nat.zero_le _, fun x hx => absurd hx List.not_mem_nil, Nat.zero_le _⟩
  | false =>
    rcases read_any hr with h | ⟨l, t, hg, h1, h2⟩
    · rw [h]
      exact ⟨rfl, fun h => (by cases h), Nat.zero_le _, fun x hx => absurd hx List.not_mem_nil, Nat.zero_le _⟩
    · rw [h2]
      refine ⟨rfl, fun _ => ⟨rfl, hg, h1⟩, ?_, fun x hx => goodI_len (hg.good x hx), hg.few⟩
      show t.length ≤ r.length
      rw [h1, List.length_append]; omega
theorem listS_bad (r : List UInt8) : listS r true = ([], [], true) := by
  unfold listS
  rw [show numS r true 1 = (0, [], true) from rfl]
  simp only [show (0 : UInt64).toNat = 0 from rfl, readF]
  rw [show goodS [] = true by decide, if_pos rfl]
theorem listS_suf (r : List UInt8) (bad : Bool) : (listS r bad).2.1 <:+ r ∧ (listS r bad).1.length ≤ 255 := by
  cases bad with
  | true => rw [listS_bad]; exact ⟨List.nil_suffix, Nat.zero_le _⟩
  | false =>
    rcases listS_form (r := r) with ⟨h1, h2⟩ | ⟨h1, h2, h3⟩
    · refine ⟨?_, by rw [h2]; exact Nat.zero_le _⟩
      unfold listS
      have hs := numS_suffix r false 1
      split
      · rename_i o ho
        have := (readF_bound _ _ _ _ ho).2
        split
        · exact this.trans hs
        · exact List.nil_suffix
      · exact List.nil_suffix
    · exact ⟨⟨_, h3.symm⟩, by have := (goodS_mem h2).1; omega⟩
/-- The parts that are read of a message, one behind the other. -/
structure PM where
  ver : UInt64
  kind : UInt64
  txn : UInt64
  from_ : List UInt8
  key : List UInt8
  cont : List CT
  ros : List G_api_Instance
  rest : List UInt8
  bad : Bool
noncomputable def parseM (b : List UInt8) : PM :=
  let a := numS b false 1
  let k := numS a.2.1 a.2.2 1
  let t := numS k.2.1 k.2.2 4
  let f := takeS t.2.1 t.2.2 20
  let y := if keyK (k.1.toNat : Int) = true then takeS f.2.1 f.2.2 20 else ([], f.2.1, f.2.2)
  let c := if contK (k.1.toNat : Int) = true then listS y.2.1 y.2.2 else ([], y.2.1, y.2.2)
  let z := if listK (k.1.toNat : Int) = true then rosS c.2.1 c.2.2 else ([], c.2.1, c.2.2)
  ⟨a.1, k.1, t.1, f.1, y.1, c.1, z.1, z.2.1, z.2.2⟩
def errM : Int × UInt32 × (Fin 20 → UInt8) × (Fin 20 → UInt8) × List G_api_Contact × List G_api_Instance × Int := (0, 0, (fun _ => 0), (fun _ => 0), [], [], 10)
open Classical in
noncomputable def finM (p : PM) : Int × UInt32 × (Fin 20 → UInt8) × (Fin 20 → UInt8) × List G_api_Contact × List G_api_Instance × Int :=
  if p.ver = 1 ∧ p.bad = false ∧ p.rest = [] ∧ goodW (p.kind.toNat : Int) (copyA (fun _ => 0) p.key) p.cont p.ros = true then ((p.kind.toNat : Int), p.txn.toUInt32, copyA (fun _ => 0) p.from_, copyA (fun _ => 0) p.key, p.cont.map CT.p, p.ros, 0) else errM
theorem dec_k3 {C : List CT} {key : Fin 20 → UInt8} {v k t : UInt64} {f r : List UInt8} {bad : Bool} {R : List G_api_Instance} {kb : List UInt8} (hk : key = copyA (fun _ => 0) kb) (hC : C.length ≤ 4096) (hR : (∀ x ∈ R, x.Target.length ≤ 253) ∧ R.length ≤ 16) :
    M_wire_Decode_v_k3 (C.map CT.p) key v k t f r bad R = some (finM ⟨v, k, t, f, kb, C, R, r, bad⟩) := by
  subst hk
  unfold M_wire_Decode_v_k3 finM
  rw [show ((0 : Int), (0 : UInt32), (fun _ : Fin 20 => (0 : UInt8)), (fun _ : Fin 20 => (0 : UInt8)), ([] : List G_api_Contact), ([] : List G_api_Instance), (10 : Int)) = errM from rfl]
  by_cases h1 : v = 1
  · rw [if_pos h1, octet_done, some_bindP]
    by_cases h2 : bad = true ∨ r ≠ []
    · rw [if_pos h2, if_neg (by decide), if_neg]
      rintro ⟨_, h3, h4, _⟩
      have h3' : bad = false := h3
      rcases h2 with h2 | h2
      · rw [h3'] at h2; cases h2
      · exact h2 h4
    · rw [if_neg h2, if_pos rfl, wire_good hC ⟨fun x hx => by have := hR.1 x hx; omega, by omega⟩, some_bindP]
      have hb : bad = false := by cases bad with
        | true => exact absurd (.inl rfl) h2
        | false => rfl
      have hr : r = [] := Classical.byContradiction fun e => h2 (.inr e)
      by_cases h3 : goodW (k.toNat : Int) (copyA (fun _ => 0) kb) C R = true
      · rw [if_pos h3, if_pos ⟨h1, hb, hr, h3⟩]
      · rw [if_neg h3, if_neg (fun h => h3 h.2.2.2)]
  · rw [if_neg h1, if_neg (fun h => h1 h.1)]
theorem copyA_nil {n : Nat} (f : Fin n → UInt8) : copyA f [] = f := rfl
theorem num_one_lt63 (r : List UInt8) (bad : Bool) : (numS r bad 1).1.toNat < 9223372036854775808 := by have := num_one_le r bad; omega
theorem wire_decode {b : List UInt8} (hb : b.length ≤ 60000) : M_wire_Decode_v b = some (finM (parseM b)) := by
  have hN := num_one_lt63 (numS b false 1).2.1 (numS b false 1).2.2
  have l1 := (numS_suffix b false 1).length_le
  unfold M_wire_Decode_v parseM
  rw [open14 (by omega), some_bindP, List.nil_append, octet_num (by omega), some_bindP]
  generalize numS b false 1 = a at hN l1 ⊢
  obtain ⟨a1, a2, a3⟩ := a
  simp only [] at hN l1 ⊢
  have l2 := (numS_suffix a2 a3 1).length_le
  rw [octet_num (by omega), some_bindP]
  generalize numS a2 a3 1 = k at hN l2 ⊢
  obtain ⟨k1, k2, k3⟩ := k
  simp only [] at hN l2 ⊢
  have l3 := (numS_suffix k2 k3 4).length_le
  rw [if_pos hN, octet_num (by omega), some_bindP]
  generalize numS k2 k3 4 = t at l3 ⊢
  obtain ⟨t1, t2, t3⟩ := t
  simp only [] at l3 ⊢
  have l4 := (takeS_suffix t2 t3 20).length_le
  rw [octet_take (by omega), some_bindP]
  generalize takeS t2 t3 20 = f at l4 ⊢
  obtain ⟨f1, f2, f3⟩ := f
  simp only [] at l4 ⊢
  rw [wire_has, some_bindP]
  simp only []
  have hk2 : ∀ (C : List CT) (kb r : List UInt8) (bad : Bool), C.length ≤ 4096 → r.length ≤ 60000 → M_wire_Decode_v_k2 (copyA (fun _ => 0) kb) a1 k1 t1 ⟨keyK (k1.toNat : Int), contK (k1.toNat : Int), listK (k1.toNat : Int)⟩ f1 r bad (C.map CT.p) =
      some (finM ⟨a1, k1, t1, f1, kb, C, (if listK (k1.toNat : Int) = true then rosS r bad else ([], r, bad)).1, (if listK (k1.toNat : Int) = true then rosS r bad else ([], r, bad)).2.1, (if listK (k1.toNat : Int) = true then rosS r bad else ([], r, bad)).2.2⟩) := by
    intro C kb r bad hC hr
    unfold M_wire_Decode_v_k2
    cases hl : listK (k1.toNat : Int) with
    | true =>
      obtain ⟨h1, _, _, h3, h4⟩ := ros_read (bad := bad) hr
      simp only [if_true]
      rw [h1, some_bindP, dec_k3 rfl hC ⟨h3, h4⟩]
    | false =>
      simp only [Bool.false_eq_true, if_false]
      rw [dec_k3 rfl hC ⟨fun x hx => absurd hx List.not_mem_nil, Nat.zero_le _⟩]
  have hk1 : ∀ (kb r : List UInt8) (bad : Bool), r.length ≤ 60000 → M_wire_Decode_v_k1 a1 k1 t1 ⟨keyK (k1.toNat : Int), contK (k1.toNat : Int), listK (k1.toNat : Int)⟩ f1 r bad (copyA (fun _ => 0) kb) =
      some (finM (let c := if contK (k1.toNat : Int) = true then listS r bad else ([], r, bad)
        let z := if listK (k1.toNat : Int) = true then rosS c.2.1 c.2.2 else ([], c.2.1, c.2.2)
        ⟨a1, k1, t1, f1, kb, c.1, z.1, z.2.1, z.2.2⟩)) := by
    intro kb r bad hr
    unfold M_wire_Decode_v_k1
    obtain ⟨s1, s2⟩ := listS_suf r bad
    have s3 := s1.length_le
    by_cases hl : contK (k1.toNat : Int) = true
    · simp only [hl, if_true]
      rw [contact_readList (by omega), some_bindP]
      have := hk2 (listS r bad).1 kb (listS r bad).2.1 (listS r bad).2.2 (by omega) (by omega)
      rw [hl] at this
      exact this
    · have hl' : contK (k1.toNat : Int) = false := by simpa using hl
      simp only [hl', Bool.false_eq_true, if_false]
      have := hk2 [] kb r bad (by decide) hr
      rw [hl'] at this
      exact this
  by_cases hl : keyK (k1.toNat : Int) = true
  · have l5 := (takeS_suffix f2 f3 20).length_le
    simp only [hl, if_true] at hk1 ⊢
    rw [octet_take (by omega), some_bindP]
    exact hk1 _ _ _ (Nat.le_trans l5 (by omega))
  · have hl' : keyK (k1.toNat : Int) = false := by simpa using hl
    simp only [hl', Bool.false_eq_true, if_false] at hk1 ⊢
    exact hk1 [] _ _ (by omega)
/-- What is read is a message's bytes. -/
theorem parse_form {b : List UInt8} (hb : b.length ≤ 60000) (hv : (parseM b).ver = 1) (hbad : (parseM b).bad = false) (hr : (parseM b).rest = []) (hg : goodW ((parseM b).kind.toNat : Int) (copyA (fun _ => 0) (parseM b).key) (parseM b).cont (parseM b).ros = true) :
    b = encW ((parseM b).kind.toNat : Int) (parseM b).txn.toUInt32 (copyA (fun _ => 0) (parseM b).from_) (copyA (fun _ => 0) (parseM b).key) (parseM b).cont (parseM b).ros := by
  have fa := numS_form (r := b) (bad := false) 1
  have la := (numS_suffix b false 1).length_le
  rw [show ((1 : Nat) : Int) = 1 from rfl] at fa
  unfold parseM at hv hbad hr hg ⊢
  simp only [] at hv hbad hr hg ⊢
  generalize numS b false 1 = a at *
  have fk := numS_form (r := a.2.1) (bad := a.2.2) 1
  have lk := (numS_suffix a.2.1 a.2.2 1).length_le
  rw [show ((1 : Nat) : Int) = 1 from rfl] at fk
  generalize numS a.2.1 a.2.2 1 = k at *
  have ft := numS_form (r := k.2.1) (bad := k.2.2) 4
  have lt := (numS_suffix k.2.1 k.2.2 4).length_le
  rw [show ((4 : Nat) : Int) = 4 from rfl] at ft
  generalize numS k.2.1 k.2.2 4 = t at *
  have ff := @takeS_form t.2.1 t.2.2 20
  have lf := (takeS_suffix t.2.1 t.2.2 20).length_le
  generalize takeS t.2.1 t.2.2 20 = f at *
  have fy := @takeS_form f.2.1 f.2.2 20
  have ly := (takeS_suffix f.2.1 f.2.2 20).length_le
  generalize takeS f.2.1 f.2.2 20 = y0 at *
  -- the key
  have hy : ∀ y : List UInt8 × List UInt8 × Bool, y = (if keyK (k.1.toNat : Int) = true then y0 else ([], f.2.1, f.2.2)) → y.2.2 = false → f.2.2 = false ∧ f.2.1 = keyB (k.1.toNat : Int) (copyA (fun _ => 0) y.1) ++ y.2.1 ∧ y.2.1.length ≤ 60000 := by
    intro y e hh
    unfold keyB
    cases hk : keyK (k.1.toNat : Int) with
    | true =>
      rw [hk, if_pos rfl] at e
      subst e
      obtain ⟨h1, h2, h3⟩ := fy hh
      rw [if_pos rfl, copy_ofFn (by omega)]
      exact ⟨h1, h2, by omega⟩
    | false =>
      rw [hk, if_neg (by decide)] at e
      subst e
      rw [if_neg (by decide)]
      exact ⟨hh, rfl, by show f.2.1.length ≤ 60000; omega⟩
  generalize hye : (if keyK (k.1.toNat : Int) = true then y0 else ([], f.2.1, f.2.2)) = y at *
  have hc : ∀ c : List CT × List UInt8 × Bool, c = (if contK (k.1.toNat : Int) = true then listS y.2.1 y.2.2 else ([], y.2.1, y.2.2)) → c.2.2 = false → y.2.2 = false ∧ y.2.1 = contB (k.1.toNat : Int) c.1 ++ c.2.1 := by
    intro c e hh
    unfold contB
    cases hk : contK (k.1.toNat : Int) with
    | true =>
      rw [hk, if_pos rfl] at e
      subst e
      cases hyb : y.2.2 with
      | true => rw [hyb, listS_bad] at hh; cases hh
      | false =>
        rw [hyb] at hh
        rcases listS_form (r := y.2.1) with ⟨h1, _⟩ | ⟨_, _, h3⟩
        · rw [h1] at hh; cases hh
        · rw [if_pos rfl]
          exact ⟨rfl, h3⟩
    | false =>
      rw [hk, if_neg (by decide)] at e
      subst e
      rw [if_neg (by decide)]
      exact ⟨hh, rfl⟩
  have lc : (if contK (k.1.toNat : Int) = true then listS y.2.1 y.2.2 else ([], y.2.1, y.2.2)).2.1.length ≤ y.2.1.length := by
    split
    · exact (listS_suf _ _).1.length_le
    · exact Nat.le_refl _
  generalize hce : (if contK (k.1.toNat : Int) = true then listS y.2.1 y.2.2 else ([], y.2.1, y.2.2)) = c at *
  have hyl : y.2.1.length ≤ 60000 := by
    rw [← hye]
    split
    · omega
    · show f.2.1.length ≤ 60000; omega
  have hz : ∀ z : List G_api_Instance × List UInt8 × Bool, z = (if listK (k.1.toNat : Int) = true then rosS c.2.1 c.2.2 else ([], c.2.1, c.2.2)) → z.2.2 = false → c.2.2 = false ∧ c.2.1 = listB (k.1.toNat : Int) z.1 ++ z.2.1 := by
    intro z e hh
    unfold listB
    cases hk : listK (k.1.toNat : Int) with
    | true =>
      rw [hk, if_pos rfl] at e
      subst e
      obtain ⟨_, h2, _⟩ := ros_read (r := c.2.1) (bad := c.2.2) (by omega)
      obtain ⟨h3, _, h4⟩ := h2 hh
      rw [if_pos rfl]
      exact ⟨h3, h4⟩
    | false =>
      rw [hk, if_neg (by decide)] at e
      subst e
      rw [if_neg (by decide)]
      exact ⟨hh, rfl⟩
  generalize hze : (if listK (k.1.toNat : Int) = true then rosS c.2.1 c.2.2 else ([], c.2.1, c.2.2)) = z at *
  obtain ⟨c1, c2⟩ := hz z rfl hbad
  obtain ⟨y1, y2⟩ := hc c rfl c1
  obtain ⟨f1, f2, _⟩ := hy y rfl y1
  obtain ⟨t1, t2, t3⟩ := ff f1
  obtain ⟨k1, k2, k3⟩ := ft t1
  obtain ⟨a1, a2, a3⟩ := fk k1
  obtain ⟨_, b2, _⟩ := fa a1
  obtain ⟨ok, _⟩ := goodW_parts hg
  have hk64 : UInt64.ofInt (k.1.toNat : Int) = k.1 := by
    apply UInt64.toNat_inj.1
    have := k.1.toNat_lt
    simp [UInt64.ofInt, UInt64.toNat_ofNat']; omega
  have ekind := kind_byte ok
  rw [hk64] at ekind
  have et : t.1.toUInt32.toUInt64 = t.1 := by
    apply UInt64.toNat_inj.1
    rw [UInt32.toNat_toUInt64, UInt64.toNat_toUInt32]; omega
  have ev : putF a.1 1 = [1] := by rw [hv]; decide
  unfold encW headW
  rw [et, copy_ofFn (by omega), b2, ev, a2, ekind, k2, t2, f2, y2, c2, hr]
  simp only [List.append_assoc, List.append_nil, List.cons_append, List.nil_append]
theorem decode_any {b : List UInt8} (hb : b.length ≤ 60000) : M_wire_Decode_v b = some errM ∨ ∃ k t f key C R, goodW k key C R = true ∧ b = encW k t f key C R ∧ M_wire_Decode_v b = some (k, t, f, key, C.map CT.p, R, 0) := by
  rw [wire_decode hb]
  unfold finM
  split
  · rename_i h
    obtain ⟨h1, h2, h3, h4⟩ := h
    exact .inr ⟨_, _, _, _, _, _, h4, parse_form hb h1 h2 h3 h4, rfl⟩
  · exact .inl rfl
theorem ref12_goodR {l : List G_api_Instance} (hl : ∀ x ∈ l, x.Target.length ≤ 1000000) (hn : l.length ≤ 1000000) : M_signpostref12_Good_v l = some (isGoodR l) := by
  obtain ⟨g, h1, h2⟩ := roster_good hl hn
  rw [roster_goodR (fun x hx => by have := hl x hx; omega) hn] at h1
  rw [h2, ← h1]
theorem ref14_keyed (k : Int) : M_signpostref14_keyed k = some (keyK k) := by
  unfold M_signpostref14_keyed keyK
  by_cases h1 : 2 ≤ k
  · rw [if_pos h1]
    by_cases h2 : k ≤ 9
    · rw [if_pos h2, ← decide_not]
      exact congrArg some (decide_eq_decide.2 ⟨fun h => ⟨h1, h2, h⟩, fun h => h.2.2⟩)
    · rw [if_neg h2, decide_eq_false (fun h => h2 h.2.1)]
  · rw [if_neg h1, decide_eq_false (fun h => h1 h.1)]
theorem ref14_listed (k : Int) : M_signpostref14_listed k = some (listK k) := by
  unfold M_signpostref14_listed listK
  by_cases h1 : k = 4
  · rw [if_pos h1, decide_eq_true (.inl h1)]
  · rw [if_neg h1]
    exact congrArg some (decide_eq_decide.2 ⟨.inr, fun h => h.elim (fun e => absurd e h1) id⟩)
theorem plain14_loop {l : List CT} (hl : l.length ≤ 4096) : ∀ (d k : Nat) (out : List CT), l.length = k + d → out.length = k →
    loopO (fun z_ => M_signpostref14_Plain_v_b1 (l.map CT.p) z_.1 z_.2) (out.map CT.r, (k : Int)) = some ((out ++ l.drop k).map CT.r) := by
  intro d
  induction d with
  | zero =>
    intro k out h ho
    rw [loopO_end (r := out.map CT.r) (by unfold M_signpostref14_Plain_v_b1; rw [if_neg (by rw [List.length_map]; omega)]), List.drop_of_length_le (by omega), List.append_nil]
  | succ d ih =>
    intro k out h ho
    have hk : k < l.length := by omega
    have hx : at? (l.map CT.p) (k : Int) = some (l[k].p) := by rw [at?_in (by rw [List.length_map]; exact hk)]; simp
    rw [loopO_next (s' := ((out ++ [l[k]]).map CT.r, ((k + 1 : Nat) : Int))) (by
      show M_signpostref14_Plain_v_b1 (l.map CT.p) (out.map CT.r) (k : Int) = _
      unfold M_signpostref14_Plain_v_b1
      rw [if_pos (by rw [List.length_map]; omega), hx, some_bindP, if_pos (by rw [List.length_map]; omega), if_pos (ok_small (by omega)), List.map_append]; rfl),
      ih (k + 1) _ (by omega) (by rw [List.length_append, ho]; rfl), List.drop_eq_getElem_cons hk, List.append_assoc]
    rfl
theorem plain14 {l : List CT} (hl : l.length ≤ 4096) : M_signpostref14_Plain_v (l.map CT.p) = some (l.map CT.r) := by
  unfold M_signpostref14_Plain_v
  have := plain14_loop hl l.length 0 [] (by omega) rfl
  rw [show ((0 : Nat) : Int) = 0 from rfl, List.map_nil, List.nil_append, List.drop_zero] at this
  rw [this, some_bindP]
theorem ref14_good_k3 {k : Int} {R : List G_api_Instance} (hR : (∀ x ∈ R, x.Target.length ≤ 1000000) ∧ R.length ≤ 1000000) : M_signpostref14_Good_vv_k3 k R = some (if listK k = true then !R.isEmpty && isGoodR R else R.isEmpty) := by
  have e2 := empty_len R
  unfold M_signpostref14_Good_vv_k3
  rw [ref14_listed, some_bindP]
  cases listK k with
  | true =>
    rw [if_pos rfl, if_pos rfl]
    by_cases h : (R.length : Int) = 0
    · rw [decide_eq_true h] at e2
      rw [if_neg (by omega), ← e2, Bool.not_true, Bool.false_and]
    · rw [decide_eq_false h] at e2
      rw [if_pos (by omega), ← e2, Bool.not_false, Bool.true_and, ref12_goodR hR.1 hR.2, some_bindP]
  | false => rw [if_neg (by decide), if_neg (by decide), e2]
theorem ref14_good {k : Int} {t : UInt32} {f key : Fin 20 → UInt8} {C : List CT} {R : List G_api_Instance} (hC : C.length ≤ 4096) (hR : (∀ x ∈ R, x.Target.length ≤ 1000000) ∧ R.length ≤ 1000000) : M_signpostref14_Good_vv k t f key (C.map CT.p) R = some (goodW k key C R) := by
  have hk2 : M_signpostref14_Good_vv_k2 (C.map CT.p) k R = some (restW k C R) := by
    have e1 := empty_len C
    unfold M_signpostref14_Good_vv_k2 restW
    rw [List.length_map]
    by_cases h6 : k = 6
    · rw [if_pos h6, plain14 hC, some_bindP, ref08_good (by omega), some_bindP, show contK k = true from decide_eq_true h6, if_pos rfl, ref14_good_k3 hR]
      cases goodS C with
      | true => rw [if_pos rfl, Bool.true_and]
      | false => rw [if_neg (by decide), Bool.false_and]
    · rw [if_neg h6, show contK k = false from decide_eq_false h6, ref14_good_k3 hR]
      by_cases h : (C.length : Int) = 0
      · rw [decide_eq_true h] at e1
        rw [if_neg (by omega), if_neg Bool.false_ne_true, ← e1, Bool.true_and]
      · rw [decide_eq_false h] at e1
        rw [if_pos (by omega), if_neg Bool.false_ne_true, ← e1, Bool.false_and]
  have hk1 : ∀ b : Bool, M_signpostref14_Good_vv_k1 (C.map CT.p) key k R b = some (!b && (keyK k || decide (key = fun _ => 0)) && restW k C R) := by
    intro b
    unfold M_signpostref14_Good_vv_k1
    cases b with
    | true => rfl
    | false =>
      rw [if_neg (by decide), ref14_keyed, some_bindP, hk2, Bool.not_false, Bool.true_and]
      cases keyK k with
      | true => rw [if_pos rfl, Bool.true_or, Bool.true_and]
      | false =>
        rw [if_neg (by decide), Bool.false_or]
        by_cases h : key = fun _ => 0
        · rw [if_pos h, decide_eq_true h, Bool.true_and]
        · rw [if_neg h, decide_eq_false h, Bool.false_and]
  unfold M_signpostref14_Good_vv goodW
  rw [hk1, hk1]
  by_cases h1 : k < 1
  · rw [if_pos h1, show okK k = false from decide_eq_false (by omega)]; rfl
  · rw [if_neg h1]
    by_cases h9 : 9 < k
    · rw [decide_eq_true h9, show okK k = false from decide_eq_false (by omega)]; rfl
    · rw [decide_eq_false h9, show okK k = true from decide_eq_true (by omega)]; rfl
/-! ### lists that are compared -/
theorem eq_loop {α : Type} [DecidableEq α] {body : Int → Option (Int ⊕ (Unit ⊕ Bool))} {a b : List α} (hlen : a.length = b.length) (hb : ∀ k (hk : k < a.length) (hk' : k < b.length), body (k : Int) = if a[k] = b[k] then some (.inl ((k : Int) + 1)) else some (.inr (.inr false)))
    (he : body (a.length : Int) = some (.inr (.inl ()))) : loopO body 0 = some (if a = b then .inl () else .inr false) := by
  have key : ∀ (d k : Nat), a.length = k + d → loopO body (k : Int) = some (if a.drop k = b.drop k then .inl () else .inr false) := by
    intro d
    induction d with
    | zero =>
      intro k h
      rw [List.drop_of_length_le (by omega), List.drop_of_length_le (by omega), if_pos rfl]
      have : k = a.length := by omega
      rw [this]
      exact loopO_end he
    | succ d ih =>
      intro k h
      have hk : k < a.length := by omega
      have hk' : k < b.length := by omega
      have h1 := hb k hk hk'
      rw [List.drop_eq_getElem_cons hk, List.drop_eq_getElem_cons hk']
      by_cases hx : a[k] = b[k]
      · rw [if_pos hx] at h1
        rw [loopO_next (s' := ((k + 1 : Nat) : Int)) (by rw [h1, Int.natCast_add, Int.natCast_one]), ih (k + 1) (by omega), hx]
        by_cases hd : a.drop (k + 1) = b.drop (k + 1)
        · rw [if_pos hd, if_pos (by rw [hd])]
        · rw [if_neg hd, if_neg (fun e => hd (List.cons.inj e).2)]
      · rw [if_neg hx] at h1
        rw [loopO_end h1, if_neg (fun e => hx (List.cons.inj e).1)]
  have := key a.length 0 (by omega)
  rwa [show ((0 : Nat) : Int) = 0 from rfl, List.drop_zero, List.drop_zero] at this
theorem same12_any {R R2 : List G_api_Instance} (hR : (∀ x ∈ R, x.Target.length ≤ 1000000) ∧ R.length ≤ 1000000) (hR2 : ∀ x ∈ R2, x.Target.length ≤ 1000000) : M_signpostref12_Same_vv R R2 = some (decide (R = R2)) := by
  have hm : ∀ {L : List G_api_Instance}, (∀ x ∈ L, x.Target.length ≤ 1000000) → ∀ i (hi : i < L.length), L[i].Target.length ≤ maxLen := fun h i hi => by have := h _ (List.getElem_mem hi); simp only [maxLen]; omega
  unfold M_signpostref12_Same_vv
  by_cases hl : R.length = R2.length
  · rw [if_pos (by omega), eq_loop hl (fun i hi hi2 => by
      show M_signpostref12_Same_vv_b1 R R2 (i : Int) = _
      unfold M_signpostref12_Same_vv_b1
      rw [if_pos (by omega), at?_in hi, at?_in hi2, some_bindP, some_bindP, if_pos (hm hR.1 i hi), if_pos (hm hR2 i hi2), if_pos (ok_small (by omega))]) (by
      show M_signpostref12_Same_vv_b1 R R2 (R.length : Int) = _
      unfold M_signpostref12_Same_vv_b1
      rw [if_neg (by omega)]), some_bindP]
    by_cases h : R = R2
    · rw [if_pos h, decide_eq_true h]
    · rw [if_neg h, decide_eq_false h]
  · rw [if_neg (by omega), decide_eq_false (fun e => hl (by rw [e]))]
theorem ref14_same {k : Int} {t : UInt32} {f key : Fin 20 → UInt8} {C : List G_api_Contact} {R : List G_api_Instance} {k2 : Int} {t2 : UInt32} {f2 key2 : Fin 20 → UInt8} {C2 : List G_api_Contact} {R2 : List G_api_Instance}
    (hC : C.length ≤ 1000000) (hR : (∀ x ∈ R, x.Target.length ≤ 1000000) ∧ R.length ≤ 1000000) (hR2 : ∀ x ∈ R2, x.Target.length ≤ 1000000) :
    M_signpostref14_Same_vvvv k t f key C R k2 t2 f2 key2 C2 R2 = some (decide (k = k2 ∧ t = t2 ∧ f = f2 ∧ key = key2 ∧ C = C2 ∧ R = R2)) := by
  have ht : M_signpostref14_Same_vvvv_k1 C C2 R R2 true = some false := rfl
  have hf : M_signpostref14_Same_vvvv_k1 C C2 R R2 (!(decide ((C.length : Int) = (C2.length : Int)))) = some (decide (C = C2 ∧ R = R2)) := by
    unfold M_signpostref14_Same_vvvv_k1
    by_cases hl : C.length = C2.length
    · rw [decide_eq_true (by omega), if_neg (by decide), eq_loop hl (fun i hi hi2 => by
        show M_signpostref14_Same_vvvv_b2 C C2 (i : Int) = _
        unfold M_signpostref14_Same_vvvv_b2
        rw [if_pos (by omega), at?_in hi, at?_in hi2, some_bindP, some_bindP, if_pos (ok_small (by omega))]) (by
        show M_signpostref14_Same_vvvv_b2 C C2 (C.length : Int) = _
        unfold M_signpostref14_Same_vvvv_b2
        rw [if_neg (by omega)]), some_bindP]
      by_cases h : C = C2
      · rw [if_pos h]
        simp only []
        rw [same12_any hR hR2, some_bindP]
        exact congrArg some (decide_eq_decide.2 ⟨fun e => ⟨h, e⟩, fun e => e.2⟩)
      · rw [if_neg h, decide_eq_false (fun e => h e.1)]
    · rw [decide_eq_false (by omega), if_pos (by decide), decide_eq_false (fun e => hl (by rw [e.1]))]
  unfold M_signpostref14_Same_vvvv
  rw [hf, ht]
  by_cases h1 : k = k2
  · rw [if_pos h1]
    by_cases h2 : t = t2
    · rw [if_pos h2]
      by_cases h3 : f = f2
      · rw [if_pos h3]
        by_cases h4 : key = key2
        · rw [if_pos h4]
          exact congrArg some (decide_eq_decide.2 ⟨fun h => ⟨h1, h2, h3, h4, h⟩, fun h => h.2.2.2.2⟩)
        · rw [if_neg h4, decide_eq_false (fun h => h4 h.2.2.2.1)]
      · rw [if_neg h3, decide_eq_false (fun h => h3 h.2.2.1)]
    · rw [if_neg h2, decide_eq_false (fun h => h2 h.2.1)]
  · rw [if_neg h1, decide_eq_false (fun h => h1 h.1)]
/-! ### messages that are read, by definition -/
theorem ref_done {B r : List UInt8} {bad : Bool} (hB : B.length ≤ 1000000) (hr : r <:+ B) : M_signpostref01_Reader_Done_pv B (refAt B r) bad = some (if bad = true ∨ r ≠ [] then 10 else 0) := by
  have hl := hr.length_le
  unfold M_signpostref01_Reader_Done_pv M_signpostref01_Reader_Left_pv refAt
  cases bad with
  | true => rw [if_pos rfl, if_pos (.inl rfl)]
  | false =>
    rw [if_neg (by decide), if_pos (ok_small (by omega)), some_bindP]
    cases r with
    | nil => rw [if_neg (by simp), if_neg (by simp)]
    | cons x r => rw [if_pos (by simp only [List.length_cons] at hl ⊢; omega), if_pos (by simp)]
theorem back14_loop {l : List CT} (hl : l.length ≤ 4096) : ∀ (d k : Nat) (out : List CT), l.length = k + d → out.length = k →
    loopO (fun z_ => M_signpostref14_Back_v_b1 (l.map CT.r) z_.1 z_.2) (out.map CT.p, (k : Int)) = some ((out ++ l.drop k).map CT.p) := by
  intro d
  induction d with
  | zero =>
    intro k out h ho
    rw [loopO_end (r := out.map CT.p) (by unfold M_signpostref14_Back_v_b1; rw [if_neg (by rw [List.length_map]; omega)]), List.drop_of_length_le (by omega), List.append_nil]
  | succ d ih =>
    intro k out h ho
    have hk : k < l.length := by omega
    have hx : at? (l.map CT.r) (k : Int) = some (l[k].r) := by rw [at?_in (by rw [List.length_map]; exact hk)]; simp
    rw [loopO_next (s' := ((out ++ [l[k]]).map CT.p, ((k + 1 : Nat) : Int))) (by
      show M_signpostref14_Back_v_b1 (l.map CT.r) (out.map CT.p) (k : Int) = _
      unfold M_signpostref14_Back_v_b1
      rw [if_pos (by rw [List.length_map]; omega), hx, some_bindP, if_pos (by rw [List.length_map]; omega), if_pos (ok_small (by omega)), List.map_append]; rfl),
      ih (k + 1) _ (by omega) (by rw [List.length_append, ho]; rfl), List.drop_eq_getElem_cons hk, List.append_assoc]
    rfl
theorem back14 {l : List CT} (hl : l.length ≤ 4096) : M_signpostref14_Back_v (l.map CT.r) = some (l.map CT.p) := by
  unfold M_signpostref14_Back_v
  have := back14_loop hl l.length 0 [] (by omega) rfl
  rw [show ((0 : Nat) : Int) = 0 from rfl, List.map_nil, List.nil_append, List.drop_zero] at this
  rw [this, some_bindP]
/-- As roster_read, from any place on, also of a bad reader. -/
theorem roster_readB {B r : List UInt8} {bad : Bool} (hB : B.length ≤ 6000) (hr : r <:+ B) : M_signpostref12_Read_pv B (refAt B r) bad = some ((rosS r bad).1, refAt B (rosS r bad).2.1, (rosS r bad).2.2) ∧ (rosS r bad).2.1 <:+ B := by
  have hrl := hr.length_le
  have hN := num_one_lt r bad
  have hs := (numS_suffix r bad 1).trans hr
  have hr0 := ref01_num (B := B) (r := r) (bad := bad) (w := 1) (by omega) hr
  have hbad : (numS r bad 1).2.2 = true → numS r bad 1 = (0, [], true) := by
    unfold numS
    split
    · exact fun _ => rfl
    · intro h
      rename_i hh
      simp only [not_or] at hh
      exact absurd h hh.1
  have take : ∀ (r : List UInt8) (bad : Bool), r <:+ B → M_signpostref01_Reader_Take_pv B (refAt B r) bad (-1) = some ([], refAt B [], true) := by
    intro r bad hr
    rw [ref01_take (by omega) hr (by decide), take_back]
  have main : ∃ l r' bad', M_roster_Read_po r true bad = some (l, r', bad') ∧ M_signpostref12_Read_pv B (refAt B r) bad = some (l, refAt B r', bad') ∧ r' <:+ B := by
    unfold M_roster_Read_po M_signpostref12_Read_pv
    rw [octet_num (by omega), hr0, some_bindP, some_bindP]
    generalize numS r bad 1 = x at hN hs hbad ⊢
    obtain ⟨n, r1, b1⟩ := x
    simp only [] at hN hs hbad ⊢
    rw [if_pos (by omega)]
    cases b1 with
    | true =>
      obtain ⟨rfl, rfl, _⟩ : n = 0 ∧ r1 = [] ∧ True := by
        have := hbad rfl
        simp only [Prod.mk.injEq] at this
        exact ⟨this.1, this.2.1, trivial⟩
      have l1 : loopO (fun z_ => M_roster_Read_po_b1 true 0 z_.1 z_.2.1 z_.2.2.1 z_.2.2.2) (([] : List UInt8), true, ([] : List G_api_Instance), 0) = some (.inl ([], true, [])) := loopO_end (by
        show M_roster_Read_po_b1 true 0 [] true [] 0 = _
        unfold M_roster_Read_po_b1
        rw [if_neg (by decide)])
      have l2 : loopO (fun z_ => M_signpostref12_Read_pv_b1 B 0 z_.1 z_.2.1 z_.2.2.1 z_.2.2.2) (refAt B [], true, ([] : List G_api_Instance), 0) = some (refAt B [], true, []) := loopO_end (by
        show M_signpostref12_Read_pv_b1 B 0 (refAt B []) true [] 0 = _
        unfold M_signpostref12_Read_pv_b1 M_signpostref12_Read_pv_k2
        rw [if_neg (by decide), if_neg (by decide)])
      rw [l1, l2, some_bindP, some_bindP]
      simp only [good_nil, some_bindP, if_true]
      rw [take [] true hs, some_bindP]
      exact ⟨[], [], true, rfl, rfl, List.nil_suffix⟩
    | false =>
      rcases read_sim hB hN n.toNat r1 [] 0 (by simp) hs rfl (fun x hx => by cases hx) with ⟨r', out', h1, h2, h3, h4, h5⟩ | ⟨o, h1, h2⟩
      · rw [show (((0 : UInt64).toNat : Nat) : Int) = 0 from rfl] at h2
        rw [h1, h2, some_bindP, some_bindP]
        simp only []
        obtain ⟨g, hg1, hg2⟩ := roster_good (l := out') (fun x hx => by have := h5 x hx; omega) (by omega)
        simp only [hg1, hg2, some_bindP, Bool.false_eq_true, if_false]
        cases g with
        | true =>
          simp only [if_true]
          exact ⟨out', r', false, rfl, rfl, h3⟩
        | false =>
          have := h3.length_le
          have ot := octet_take (r := r') (bad := false) (n := -1) (by omega)
          rw [take_back] at ot
          simp only [Bool.false_eq_true, if_false, ot, take r' false h3, some_bindP]
          exact ⟨[], [], true, rfl, rfl, List.nil_suffix⟩
      · rw [show (((0 : UInt64).toNat : Nat) : Int) = 0 from rfl] at h2
        rw [h1, h2, some_bindP, some_bindP]
        simp only [if_true, take [] true List.nil_suffix, some_bindP]
        exact ⟨[], [], true, rfl, rfl, List.nil_suffix⟩
  obtain ⟨l, r', bad', h1, h2, h3⟩ := main
  have e : rosS r bad = (l, r', bad') := by unfold rosS; rw [h1]; rfl
  rw [e]
  exact ⟨h2, h3⟩
theorem decR_k3 {B : List UInt8} {C : List CT} {key : Fin 20 → UInt8} {v k t : UInt64} {f r : List UInt8} {bad : Bool} {R : List G_api_Instance} {kb : List UInt8} (hB : B.length ≤ 6000) (hr : r <:+ B) (hk : key = copyA (fun _ => 0) kb) (hC : C.length ≤ 4096) (hR : (∀ x ∈ R, x.Target.length ≤ 253) ∧ R.length ≤ 16) :
    M_signpostref14_Decode_v_k3 (C.map CT.p) key B v k t f (refAt B r) bad R = some (finM ⟨v, k, t, f, kb, C, R, r, bad⟩) := by
  subst hk
  unfold M_signpostref14_Decode_v_k3 finM
  rw [show ((0 : Int), (0 : UInt32), (fun _ : Fin 20 => (0 : UInt8)), (fun _ : Fin 20 => (0 : UInt8)), ([] : List G_api_Contact), ([] : List G_api_Instance), (10 : Int)) = errM from rfl]
  by_cases h1 : v = 1
  · rw [if_pos h1, ref_done (by omega) hr, some_bindP]
    by_cases h2 : bad = true ∨ r ≠ []
    · rw [if_pos h2, if_neg (by decide), if_neg]
      rintro ⟨_, h3, h4, _⟩
      have h3' : bad = false := h3
      rcases h2 with h2 | h2
      · rw [h3'] at h2; cases h2
      · exact h2 h4
    · rw [if_neg h2, if_pos rfl, ref14_good hC ⟨fun x hx => by have := hR.1 x hx; omega, by omega⟩, some_bindP]
      have hb : bad = false := by cases bad with
        | true => exact absurd (.inl rfl) h2
        | false => rfl
      have hr : r = [] := Classical.byContradiction fun e => h2 (.inr e)
      by_cases h3 : goodW (k.toNat : Int) (copyA (fun _ => 0) kb) C R = true
      · rw [if_pos h3, if_pos ⟨h1, hb, hr, h3⟩]
      · rw [if_neg h3, if_neg (fun h => h3 h.2.2.2)]
  · rw [if_neg h1, if_neg (fun h => h1 h.1)]
theorem ref14_decode {b : List UInt8} (hb : b.length ≤ 6000) : M_signpostref14_Decode_v b = some (finM (parseM b)) := by
  have hb' : b.length ≤ 140737488355328 := by omega
  have hN := num_one_lt63 (numS b false 1).2.1 (numS b false 1).2.2
  have s1 := numS_suffix b false 1
  have e0 : (0 : Int) = refAt b b := by unfold refAt; omega
  unfold M_signpostref14_Decode_v parseM
  rw [e0, ref01_num hb' List.suffix_rfl, some_bindP]
  generalize numS b false 1 = a at hN s1 ⊢
  obtain ⟨a1, a2, a3⟩ := a
  simp only [] at hN s1 ⊢
  have s2 := (numS_suffix a2 a3 1).trans s1
  rw [ref01_num hb' s1, some_bindP]
  generalize numS a2 a3 1 = k at hN s2 ⊢
  obtain ⟨k1, k2, k3⟩ := k
  simp only [] at hN s2 ⊢
  have s3 := (numS_suffix k2 k3 4).trans s2
  rw [if_pos hN, ref01_num hb' s2, some_bindP]
  generalize numS k2 k3 4 = t at s3 ⊢
  obtain ⟨t1, t2, t3⟩ := t
  simp only [] at s3 ⊢
  have s4 := (takeS_suffix t2 t3 20).trans s3
  rw [ref01_take hb' s3 (by decide), some_bindP]
  generalize takeS t2 t3 20 = f at s4 ⊢
  obtain ⟨f1, f2, f3⟩ := f
  simp only [] at s4 ⊢
  rw [ref14_keyed, some_bindP]
  have hk2 : ∀ (C : List CT) (kb r : List UInt8) (bad : Bool), C.length ≤ 4096 → r <:+ b → M_signpostref14_Decode_v_k2 (copyA (fun _ => 0) kb) b a1 k1 t1 f1 (refAt b r) bad (C.map CT.p) =
      some (finM ⟨a1, k1, t1, f1, kb, C, (if listK (k1.toNat : Int) = true then rosS r bad else ([], r, bad)).1, (if listK (k1.toNat : Int) = true then rosS r bad else ([], r, bad)).2.1, (if listK (k1.toNat : Int) = true then rosS r bad else ([], r, bad)).2.2⟩) := by
    intro C kb r bad hC hr
    have hrl := hr.length_le
    unfold M_signpostref14_Decode_v_k2
    rw [ref14_listed, some_bindP]
    by_cases hl : listK (k1.toNat : Int) = true
    · obtain ⟨_, _, _, h3, h4⟩ := ros_read (r := r) (bad := bad) (by omega)
      obtain ⟨q1, q2⟩ := roster_readB (bad := bad) hb hr
      rw [if_pos hl, if_pos hl, q1, some_bindP]
      exact decR_k3 hb q2 rfl hC ⟨h3, h4⟩
    · rw [if_neg hl, if_neg hl]
      exact decR_k3 hb hr rfl hC ⟨fun x hx => absurd hx List.not_mem_nil, Nat.zero_le _⟩
  have hk1 : ∀ (kb r : List UInt8) (bad : Bool), r <:+ b → M_signpostref14_Decode_v_k1 b a1 k1 t1 f1 (refAt b r) bad (copyA (fun _ => 0) kb) =
      some (finM (let c := if contK (k1.toNat : Int) = true then listS r bad else ([], r, bad)
        let z := if listK (k1.toNat : Int) = true then rosS c.2.1 c.2.2 else ([], c.2.1, c.2.2)
        ⟨a1, k1, t1, f1, kb, c.1, z.1, z.2.1, z.2.2⟩)) := by
    intro kb r bad hr
    unfold M_signpostref14_Decode_v_k1
    obtain ⟨q1, q2⟩ := listS_suf r bad
    by_cases h6 : (k1.toNat : Int) = 6
    · have hc : contK (k1.toNat : Int) = true := decide_eq_true h6
      rw [if_pos h6, ref08_readList hb' hr, some_bindP]
      simp only []
      rw [back14 (by omega), some_bindP]
      have := hk2 (listS r bad).1 kb (listS r bad).2.1 (listS r bad).2.2 (by omega) (q1.trans hr)
      rw [this]
      simp only [hc, if_true]
    · have hc : contK (k1.toNat : Int) = false := decide_eq_false h6
      rw [if_neg h6]
      have := hk2 [] kb r bad (by decide) hr
      rw [show ([] : List CT).map CT.p = [] from rfl] at this
      rw [this]
      simp only [hc, Bool.false_eq_true, if_false]
  by_cases hl : keyK (k1.toNat : Int) = true
  · have s5 := (takeS_suffix f2 f3 20).trans s4
    rw [if_pos hl, ref01_take hb' s4 (by decide), some_bindP]
    simp only []
    rw [hk1 _ _ _ s5]
    simp only [hl, if_true]
  · have hl' : keyK (k1.toNat : Int) = false := by simpa using hl
    rw [if_neg hl]
    have := hk1 [] f2 f3 s4
    rw [copyA_nil] at this
    rw [this]
    simp only [hl', Bool.false_eq_true, if_false]
/-! ### the statement -/
theorem pure_WireDecodes (b : List UInt8) (hl_b : b.length ≤ 140737488351232) : M_signpostlaw14_WireDecodes_v b = some true := by
  unfold M_signpostlaw14_WireDecodes_v
  by_cases h : (6000 : Int) < (b.length : Int)
  · rw [if_pos h, lives14, some_bindP]
  · have hb : b.length ≤ 6000 := by omega
    have e1 := wire_decode (b := b) (by omega)
    have e2 := ref14_decode hb
    rw [if_neg h]
    rcases decode_any (b := b) (by omega) with h1 | ⟨k, t, f, key, C, R, hg, h2, h1⟩
    · rw [e1] at h1
      rw [e2, e1, h1, some_bindP]
      simp only [errM, some_bindP]
      rw [ref14_same (by decide) ⟨fun x hx => absurd hx List.not_mem_nil, by decide⟩ (fun x hx => absurd hx List.not_mem_nil), some_bindP, if_pos (decide_eq_true ⟨rfl, rfl, rfl, rfl, rfl, rfl⟩)]
      unfold M_signpostlaw14_WireDecodes_v_k1
      rw [if_neg (by decide), if_neg (by decide), lives14, some_bindP]
    · rw [e1] at h1
      rw [e2, e1, h1, some_bindP]
      simp only [some_bindP]
      obtain ⟨_, gC, gR, nC, nR, _⟩ := goodW_parts hg
      have lC : C.length ≤ 64 := by
        rcases gC with gC | gC
        · exact (goodS_mem gC).1
        · rw [nC gC]; exact Nat.zero_le _
      have lR : (∀ x ∈ R, x.Target.length ≤ 253) ∧ R.length ≤ 16 := by
        rcases gR with gR | gR
        · exact ⟨fun x hx => goodI_len (gR.good x hx), gR.few⟩
        · rw [nR gR]; exact ⟨fun x hx => absurd hx List.not_mem_nil, Nat.zero_le _⟩
      have b1 : (∀ x ∈ R, x.Target.length ≤ 1000000) ∧ R.length ≤ 1000000 := ⟨fun x hx => by have := lR.1 x hx; omega, by omega⟩
      have c1 : (∀ x ∈ R, x.Target.length ≤ 140737488355328) ∧ R.length ≤ 1000000 := ⟨fun x hx => by have := lR.1 x hx; omega, by omega⟩
      rw [ref14_same (by rw [List.length_map]; omega) b1 b1.1, some_bindP, if_pos (decide_eq_true ⟨rfl, rfl, rfl, rfl, rfl, rfl⟩)]
      unfold M_signpostlaw14_WireDecodes_v_k1
      rw [if_neg (by decide), if_pos rfl, wire_encode (by omega) c1, if_pos hg, some_bindP]
      simp only []
      rw [if_pos trivial, if_pos h2.symm, wire_good (by omega) c1, hg, some_bindP, if_pos rfl, lives14, some_bindP]
end Go.Proofs.Ytleemokneeoikaa
