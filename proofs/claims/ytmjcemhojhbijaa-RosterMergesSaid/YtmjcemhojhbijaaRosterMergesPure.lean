/-
  What the functions that the statement RosterMerges reaches compute, as plain laws; and the statement about them. No condition.
-/
import Derived.Test.YtmjcemhojhbijaaRosterMergesMod
import Derived.Test.YtmjcemhojhbijaaBPure
namespace Go.Proofs.Ytmjcemhojhbijaa
open Go Go.RowKit
set_option linter.unusedVariables false
set_option linter.unusedSimpArgs false
/-! ### names -/
theorem idx_lt : ∀ (l : List UInt8) (c : UInt8), -1 ≤ Lib.indexByte l c ∧ (0 ≤ Lib.indexByte l c → Lib.indexByte l c < l.length)
  | [], c => by simp [Lib.indexByte]
  | b :: l, c => by
    have h := idx_lt l c
    unfold Lib.indexByte
    simp only [List.length_cons]
    split
    · omega
    · split
      · omega
      · rename_i h1 h2
        simp only [beq_iff_eq] at h2
        omega
/-- A text cut at its first point. -/
def cutS (s : List UInt8) : List UInt8 × List UInt8 × Bool := if 0 ≤ Lib.indexByte s 46 then (s.take (Lib.indexByte s 46).toNat, s.drop (Lib.indexByte s 46 + 1).toNat, true) else (s, [], false)
theorem label_cut {s : List UInt8} (hs : s.length ≤ 4611686018427387904) : M_strings_Cut s = some (cutS s) := by
  have hi : M_stringslite_Index s = some (Lib.indexByte s 46) := by
    unfold M_stringslite_Index
    by_cases h : [46] = s
    · rw [if_pos h, ← h]; rfl
    · rw [if_neg h]; rfl
  have hb := idx_lt s 46
  unfold M_strings_Cut M_stringslite_Cut cutS
  rw [hi, Option.bind_some]
  by_cases h : 0 ≤ Lib.indexByte s 46
  · rw [if_pos h, if_pos (by omega), if_pos (ok_small (by omega)), if_pos (by omega), if_pos h]; rfl
  · rw [if_neg h, if_neg h]; rfl
/-- The texts between points. -/
def partsF : Nat → List UInt8 → List (List UInt8)
  | 0, s => [s]
  | n + 1, s => if (cutS s).2.2 = true then (cutS s).1 :: partsF n (cutS s).2.1 else [s]
def partsS (s : List UInt8) : List (List UInt8) := partsF s.length s
theorem cutS_len (s : List UInt8) : (cutS s).1.length ≤ s.length ∧ ((cutS s).2.2 = true → (cutS s).2.1.length < s.length) ∧ ((cutS s).2.2 = false → (cutS s).1 = s) := by
  have hb := idx_lt s 46
  unfold cutS
  split
  · refine ⟨by simp only [List.length_take]; omega, fun _ => ?_, fun h => (by cases h)⟩
    simp only [List.length_drop]; omega
  · exact ⟨Nat.le_refl _, (fun h => by cases h), fun _ => rfl⟩
theorem parts_loop {σ ρ : Type} {f : σ → List UInt8 → Option (σ ⊕ ρ)} : ∀ (n : Nat) (s : List UInt8) (z : σ), s.length ≤ n → s.length ≤ 4611686018427387904 →
    loopO (fun z_ => M_label_parts_1_p_b1 f z_.1 z_.2) (z, s) = rangeO f (partsF n s) z := by
  have hb : ∀ (s : List UInt8) (z : σ), s.length ≤ 4611686018427387904 → M_label_parts_1_p_b1 f z s = (f z (cutS s).1).bind fun y => match y with
      | .inl z2 => if (cutS s).2.2 = true then some (.inl (z2, (cutS s).2.1)) else some (.inr (.inl z2))
      | .inr x => some (.inr (.inr x)) := by
    intro s z hs
    unfold M_label_parts_1_p_b1
    rw [label_cut hs, Option.bind_some]
    rfl
  intro n
  induction n with
  | zero =>
    intro s z hn hs
    obtain ⟨h1, h2, h3⟩ := cutS_len s
    have hc : (cutS s).2.2 = false := by
      cases h : (cutS s).2.2 with
      | false => rfl
      | true => have := h2 h; omega
    have hb1 := hb s z hs
    rw [hc, h3 hc] at hb1
    simp only [partsF, rangeO]
    cases hf : f z s with
    | none =>
      rw [hf] at hb1
      exact loopO_none hb1
    | some y =>
      rw [hf] at hb1
      cases y with
      | inl z2 => exact loopO_end hb1
      | inr x => exact loopO_end hb1
  | succ n ih =>
    intro s z hn hs
    obtain ⟨h1, h2, h3⟩ := cutS_len s
    have hb1 := hb s z hs
    unfold partsF
    cases hc : (cutS s).2.2 with
    | true =>
      rw [hc] at hb1
      simp only [if_pos, rangeO]
      cases hf : f z (cutS s).1 with
      | none => rw [hf] at hb1; exact loopO_none hb1
      | some y =>
        rw [hf] at hb1
        cases y with
        | inl z2 => rw [loopO_next hb1]; exact ih _ _ (by have := h2 hc; omega) (by have := h2 hc; omega)
        | inr x => exact loopO_end hb1
    | false =>
      rw [hc, h3 hc] at hb1
      simp only [Bool.false_eq_true, if_false, rangeO]
      cases hf : f z s with
      | none => rw [hf] at hb1; exact loopO_none hb1
      | some y =>
        rw [hf] at hb1
        cases y with
        | inl z2 => exact loopO_end hb1
        | inr x => exact loopO_end hb1
theorem label_parts {σ ρ : Type} {f : σ → List UInt8 → Option (σ ⊕ ρ)} {s : List UInt8} {z : σ} (hs : s.length ≤ 4611686018427387904) : M_label_parts_1_p f s z = rangeO f (partsS s) z := by
  unfold M_label_parts_1_p partsS
  rw [parts_loop s.length s z (Nat.le_refl _) hs]
  cases rangeO f (partsF s.length s) z <;> rfl
theorem partsF_len : ∀ (n : Nat) (s : List UInt8), ∀ p ∈ partsF n s, p.length ≤ s.length
  | 0, s, p, hp => by simp only [partsF, List.mem_singleton] at hp; subst hp; exact Nat.le_refl _
  | n + 1, s, p, hp => by
    obtain ⟨h1, h2, h3⟩ := cutS_len s
    unfold partsF at hp
    split at hp
    · rename_i hc
      rcases List.mem_cons.1 hp with rfl | hp
      · exact h1
      · have := partsF_len n _ p hp; have := h2 hc; omega
    · simp only [List.mem_singleton] at hp; subst hp; exact Nat.le_refl _
/-! ### parts -/
noncomputable def plainS (c : UInt8) : Bool := (M_label_plain c).getD false
theorem label_plain (c : UInt8) : M_label_plain c = some (plainS c) := by
  unfold plainS M_label_plain M_label_plain_k1 M_label_plain_k2
  repeat' split
  all_goals rfl
theorem plain_loop09 {s : List UInt8} (hs : s.length ≤ 140737488355328) : ∀ (d k : Nat), s.length = k + d →
    loopO (fun z_ => M_label_Part_b2 s z_) (k : Int) = some (if (s.drop k).all plainS = true then .inl () else .inr false) := by
  intro d
  induction d with
  | zero =>
    intro k h
    rw [loopO_end (r := .inl ()) (by unfold M_label_Part_b2; rw [if_neg (by omega)]), List.drop_of_length_le (by omega)]; rfl
  | succ d ih =>
    intro k h
    have hk : k < s.length := by omega
    have hb : M_label_Part_b2 s (k : Int) = if plainS s[k] = true then some (.inl ((k : Int) + 1)) else some (.inr (.inr false)) := by
      unfold M_label_Part_b2
      rw [if_pos (by omega), at?_in hk, Option.bind_some, label_plain, Option.bind_some, if_pos (ok_small (by omega))]
    rw [List.drop_eq_getElem_cons hk, List.all_cons]
    cases hp : plainS s[k] with
    | true => rw [loopO_next (s' := ((k + 1 : Nat) : Int)) (by show M_label_Part_b2 s (k : Int) = _; rw [hb, if_pos hp]; rfl), ih (k + 1) (by omega), Bool.true_and]
    | false => rw [loopO_end (r := .inr false) (by show M_label_Part_b2 s (k : Int) = _; rw [hb, if_neg (by rw [hp]; decide)])]; rfl
noncomputable def partS (s : List UInt8) : Bool := decide (1 ≤ s.length ∧ s.length ≤ 63) && (!decide (s[0]? = some 45) && (!decide (s[s.length - 1]? = some 45) && s.all plainS))
theorem label_part {s : List UInt8} (hs : s.length ≤ 140737488355328) : M_label_Part s = some (partS s) := by
  have hk1 : M_label_Part_k1 s true = some false := rfl
  have hk2 : M_label_Part_k1 s false = some (s.all plainS) := by
    have := plain_loop09 hs s.length 0 (by omega)
    rw [show ((0 : Nat) : Int) = 0 from rfl, List.drop_zero] at this
    unfold M_label_Part_k1
    rw [if_neg (by decide), if_pos hs, this, Option.bind_some]
    cases s.all plainS <;> rfl
  unfold M_label_Part partS
  by_cases h1 : (s.length : Int) < 1
  · rw [if_pos h1, hk1, decide_eq_false (by omega)]; rfl
  · rw [if_neg h1]
    by_cases h2 : (63 : Int) < s.length
    · rw [if_pos h2, hk1, decide_eq_false (by omega)]; rfl
    · have h0 : 0 < s.length := by omega
      have hl : s.length - 1 < s.length := by omega
      rw [if_neg h2, decide_eq_true (by omega), show (0 : Int) = ((0 : Nat) : Int) from rfl, at?_in h0, Option.bind_some, if_pos (ok_small (by omega)),
        show (s.length : Int) - 1 = ((s.length - 1 : Nat) : Int) by omega, at?_in hl, Option.bind_some, List.getElem?_eq_getElem h0, List.getElem?_eq_getElem hl]
      by_cases h3 : s[0] = 45
      · rw [if_pos h3, hk1]; simp [h3]
      · rw [if_neg h3]
        by_cases h4 : s[s.length - 1] = 45
        · rw [decide_eq_true h4, hk1]; simp [h4]
        · rw [decide_eq_false h4, hk2]; simp [h3, h4]
noncomputable def goodN (s : List UInt8) : Bool := decide (s.length ≤ 253) && (partsS s).all partS
theorem good_range : ∀ (l : List (List UInt8)), (∀ p ∈ l, p.length ≤ 140737488355328) → rangeO (fun (_ : Unit) x => M_label_Good_r1 x) l () = some (if l.all partS = true then .inl () else .inr ())
  | [], _ => rfl
  | p :: l, h => by
    have hp : M_label_Good_r1 p = some (if partS p = true then .inl () else .inr ()) := by
      unfold M_label_Good_r1
      rw [label_part (h p (List.mem_cons_self ..)), Option.bind_some]
      split <;> rfl
    rw [List.all_cons]
    unfold rangeO
    rw [hp]
    cases hh : partS p with
    | true => simp only [if_pos, Bool.true_and]; exact good_range l (fun q hq => h q (List.mem_cons_of_mem _ hq))
    | false => rfl
theorem label_good {s : List UInt8} (hs : s.length ≤ 140737488355328) : M_label_Good s = some (goodN s) := by
  unfold M_label_Good goodN
  by_cases h : (253 : Int) < s.length
  · rw [if_pos h, decide_eq_false (by omega)]; rfl
  · rw [if_neg h, decide_eq_true (by omega), show M_label_parts s = some () from rfl, Option.bind_some, label_parts (by omega), good_range _ (fun p hp => by have := partsF_len _ _ p hp; omega), Option.bind_some]
    cases (partsS s).all partS <;> rfl
/-! ### texts folded -/
def foldC (c : UInt8) : UInt8 := if 65 ≤ c ∧ c ≤ 90 then c ||| 32 else c
def foldS (s : List UInt8) : List UInt8 := s.map foldC
theorem fold_loop09 {s : List UInt8} (hs : s.length ≤ 140737488355328) : ∀ (d k : Nat), s.length = k + d →
    loopO (fun z_ => M_label_Fold_b1 s z_.1 z_.2) ((s.take k).map foldC ++ s.drop k, (k : Int)) = some (foldS s) := by
  intro d
  induction d with
  | zero =>
    intro k h
    rw [loopO_end (r := (s.take k).map foldC ++ s.drop k) (by unfold M_label_Fold_b1; rw [if_neg (by omega)]), List.drop_of_length_le (by omega), List.take_of_length_le (by omega), List.append_nil]; rfl
  | succ d ih =>
    intro k h
    have hk : k < s.length := by omega
    have hlen : ((s.take k).map foldC).length = k := by rw [List.length_map, List.length_take]; omega
    have hx : at? ((s.take k).map foldC ++ s.drop k) (k : Int) = some s[k] := by
      rw [at?_nat, List.getElem?_append_right (by omega), hlen, Nat.sub_self, List.getElem?_drop, Nat.add_zero, List.getElem?_eq_getElem hk]
    have hset : ∀ c : UInt8, ((s.take k).map foldC ++ s.drop k).set k c = (s.take k).map foldC ++ c :: s.drop (k + 1) := by
      intro c
      rw [List.set_append_right _ _ (by omega), hlen, Nat.sub_self, List.drop_eq_getElem_cons hk]; rfl
    have hnext : (s.take (k + 1)).map foldC ++ s.drop (k + 1) = (s.take k).map foldC ++ foldC s[k] :: s.drop (k + 1) := by
      rw [List.take_succ_eq_append_getElem hk, List.map_append, List.append_assoc]; rfl
    have hsame : (s.take k).map foldC ++ s.drop k = (s.take k).map foldC ++ s[k] :: s.drop (k + 1) := by rw [← List.drop_eq_getElem_cons hk]
    have hb : M_label_Fold_b1 s ((s.take k).map foldC ++ s.drop k) (k : Int) = some (.inl ((s.take (k + 1)).map foldC ++ s.drop (k + 1), ((k + 1 : Nat) : Int))) := by
      unfold M_label_Fold_b1 M_label_Fold_k2
      rw [if_pos (by omega), hx, Option.bind_some, hnext]
      by_cases h1 : 65 ≤ s[k]
      · rw [if_pos h1]
        by_cases h2 : s[k] ≤ 90
        · rw [if_pos (decide_eq_true h2), Option.bind_some, if_pos (ok_small (by omega)), show foldC s[k] = s[k] ||| 32 from if_pos ⟨h1, h2⟩, show ((k : Int)).toNat = k from rfl, hset]; rfl
        · rw [if_neg (by simpa using h2), if_pos (ok_small (by omega)), show foldC s[k] = s[k] from if_neg (fun hh => h2 hh.2), ← hsame]; rfl
      · rw [if_neg h1, if_neg (by decide), if_pos (ok_small (by omega)), show foldC s[k] = s[k] from if_neg (fun hh => h1 hh.1), ← hsame]; rfl
    rw [loopO_next hb]
    exact ih (k + 1) (by omega)
theorem label_fold {s : List UInt8} (hs : s.length ≤ 140737488355328) : M_label_Fold s = some (foldS s) := by
  unfold M_label_Fold
  have := fold_loop09 hs s.length 0 (by omega)
  rw [List.take_zero, List.map_nil, List.nil_append, List.drop_zero, show ((0 : Nat) : Int) = 0 from rfl] at this
  rw [if_pos hs, this]; rfl
theorem foldS_len (s : List UInt8) : (foldS s).length = s.length := by unfold foldS; rw [List.length_map]
/-! ### texts between points, byte by byte -/
/-- The texts between points; the first one has begun. -/
def spl (cur : List UInt8) : List UInt8 → List (List UInt8)
  | [] => [cur]
  | c :: t => if c = 46 then cur :: spl [] t else spl (cur ++ [c]) t
theorem spl_cut : ∀ (s cur : List UInt8), spl cur s = if 0 ≤ Lib.indexByte s 46 then (cur ++ s.take (Lib.indexByte s 46).toNat) :: spl [] (s.drop (Lib.indexByte s 46 + 1).toNat) else [cur ++ s]
  | [], cur => by simp [spl, Lib.indexByte]
  | c :: t, cur => by
    have h := spl_cut t (cur ++ [c])
    have hb := idx_lt t 46
    have e : Lib.indexByte (c :: t) 46 = if c = 46 then 0 else if Lib.indexByte t 46 = -1 then -1 else Lib.indexByte t 46 + 1 := by simp [Lib.indexByte]
    rw [e, spl]
    by_cases hc : c = 46
    · simp only [if_pos hc]; simp
    · simp only [if_neg hc]
      rw [h]
      by_cases hi : Lib.indexByte t 46 = -1
      · simp only [hi, reduceIte]; simp
      · simp only [if_neg hi]
        rw [if_pos (by omega), if_pos (by omega)]
        rw [show (Lib.indexByte t 46 + 1).toNat = (Lib.indexByte t 46).toNat + 1 by omega, show (Lib.indexByte t 46 + 1 + 1).toNat = (Lib.indexByte t 46).toNat + 1 + 1 by omega]
        simp
theorem partsF_spl : ∀ (n : Nat) (s : List UInt8), s.length ≤ n → partsF n s = spl [] s
  | 0, s, h => by
    have : s = [] := List.length_eq_zero_iff.1 (by omega)
    subst this; rfl
  | n + 1, s, h => by
    have hb := idx_lt s 46
    rw [spl_cut]
    unfold partsF cutS
    by_cases hi : 0 ≤ Lib.indexByte s 46
    · rw [if_pos hi, if_pos hi, if_pos rfl, partsF_spl n _ (by simp only [List.length_drop]; omega)]; rfl
    · rw [if_neg hi, if_neg hi, if_neg Bool.false_ne_true]; rfl
theorem partsS_spl (s : List UInt8) : partsS s = spl [] s := partsF_spl _ s (Nat.le_refl _)
theorem spl_count : ∀ (s cur : List UInt8), (spl cur s).length ≤ s.length + 1
  | [], cur => by simp [spl]
  | c :: t, cur => by
    unfold spl
    split
    · have := spl_count t []; simp only [List.length_cons]; omega
    · have := spl_count t (cur ++ [c]); simp only [List.length_cons]; omega
theorem partsS_count (s : List UInt8) : (partsS s).length ≤ s.length + 1 := by rw [partsS_spl]; exact spl_count s []
theorem part_len {p : List UInt8} (h : partS p = true) : 1 ≤ p.length ∧ p.length ≤ 63 := by
  unfold partS at h
  rw [Bool.and_eq_true, decide_eq_true_eq] at h
  exact h.1
theorem goodN_iff {s : List UInt8} : goodN s = true ↔ s.length ≤ 253 ∧ ∀ p ∈ partsS s, partS p = true := by
  unfold goodN
  rw [Bool.and_eq_true, decide_eq_true_eq, List.all_eq_true]
/-- The bytes of texts, each behind its length. -/
def wireL : List (List UInt8) → List UInt8
  | [] => []
  | p :: l => UInt8.ofInt (p.length : Int) :: p ++ wireL l
theorem wireL_fold : ∀ (l : List (List UInt8)) (o : List UInt8), l.foldl (fun o p => o ++ UInt8.ofInt (p.length : Int) :: p) o = o ++ wireL l
  | [], o => by simp [wireL]
  | p :: l, o => by
    rw [List.foldl_cons, wireL_fold l]; simp [wireL, List.append_assoc]
theorem wireL_len : ∀ (l : List (List UInt8)), (∀ p ∈ l, p.length ≤ 63) → (wireL l).length ≤ 64 * l.length
  | [], _ => by simp [wireL]
  | p :: l, h => by
    have := wireL_len l (fun q hq => h q (List.mem_cons_of_mem _ hq))
    have := h p (List.mem_cons_self ..)
    simp only [wireL, List.length_cons, List.length_append, List.cons_append]; omega
/-- A name's bytes. -/
def wireS (s : List UInt8) : List UInt8 := wireL (partsS s) ++ [0]
/-! ### instances -/
noncomputable def goodI (i : G_api_Instance) : Bool := decide (1 ≤ i.Life ∧ i.Life ≤ 2147483647) && (if i.Gone = true then decide (i.Priority = 0 ∧ i.Weight = 0 ∧ i.Port = 0 ∧ i.Target = []) else !decide (i.Port = 0) && (goodN i.Target && decide (foldS i.Target = i.Target)))
theorem inst_good {i : G_api_Instance} (h : i.Target.length ≤ 140737488355328) : M_inst_Good i = some (goodI i) := by
  have hk1 : M_inst_Good_k1 i true = some false := rfl
  have hm : i.Target.length ≤ maxLen := by simp only [maxLen]; omega
  unfold M_inst_Good goodI
  by_cases h1 : i.Life < 1
  · rw [if_pos h1, hk1, decide_eq_false (fun hh => absurd h1 (UInt32.not_lt.2 hh.1))]; rfl
  · rw [if_neg h1]
    by_cases h2 : 2147483647 < i.Life
    · rw [decide_eq_true h2, hk1, decide_eq_false (fun hh => absurd h2 (UInt32.not_lt.2 hh.2))]; rfl
    · rw [decide_eq_false h2, decide_eq_true ⟨UInt32.not_lt.1 h1, UInt32.not_lt.1 h2⟩, Bool.true_and]
      unfold M_inst_Good_k1
      rw [if_neg (by decide)]
      by_cases hg : i.Gone = true
      · rw [if_pos hg, if_pos hg, if_pos hm]
        refine congrArg some (decide_eq_decide.2 ?_)
        cases i
        simp only [G_api_Instance.mk.injEq, true_and]
        constructor
        · rintro ⟨a, b, c, d⟩; exact ⟨a.symm, b.symm, c.symm, d.symm⟩
        · rintro ⟨a, b, c, d⟩; exact ⟨a.symm, b.symm, c.symm, d.symm⟩
      · rw [if_neg hg, if_neg hg]
        by_cases hp : i.Port = 0
        · rw [if_pos hp, decide_eq_true hp]; rfl
        · rw [if_neg hp, decide_eq_false hp, label_good h, Option.bind_some]
          cases goodN i.Target with
          | false => rfl
          | true => rw [if_pos rfl, label_fold h, Option.bind_some]; rfl
/-- What a target may at most be. -/
theorem goodI_len {i : G_api_Instance} (h : goodI i = true) : i.Target.length ≤ 253 := by
  unfold goodI at h
  rw [Bool.and_eq_true] at h
  by_cases hg : i.Gone = true
  · rw [if_pos hg] at h
    rw [(of_decide_eq_true h.2).2.2.2]; simp
  · rw [if_neg hg, Bool.and_eq_true, Bool.and_eq_true] at h
    exact (goodN_iff.1 h.2.2.1).1
/-! ### ticks -/
def endI (i : G_api_Instance) : UInt64 := if (18446744073709551615 - i.Life.toUInt64) < i.Born then 18446744073709551615 else i.Born + i.Life.toUInt64
theorem inst_end (i : G_api_Instance) : M_inst_End i = some (endI i) := by unfold M_inst_End endI; split <;> rfl
/-! ### an order that is told by one of three numbers -/
theorem UInt64.cases3 (a b : UInt64) : a < b ∨ b < a ∨ a = b := by
  simp only [UInt64.lt_iff_toNat_lt, ← UInt64.toNat_inj]; omega
/-- What an order tells. -/
def OrdI {α : Type} (c : α → α → Int) : Prop := (∀ a b, c a b = - c b a) ∧ (∀ a b, -1 ≤ c a b ∧ c a b ≤ 1) ∧ ∀ a b d, 0 ≤ c a b → 0 ≤ c b d → 0 ≤ c a d ∧ (0 < c a b ∨ 0 < c b d → 0 < c a d)
def cmpN (x y : Nat) : Int := if x < y then -1 else if y < x then 1 else 0
theorem cmpN_ord : OrdI cmpN := by
  refine ⟨fun a b => ?_, fun a b => ?_, fun a b d => ?_⟩ <;> unfold cmpN <;> (repeat' split) <;> omega
theorem OrdI.on {α β : Type} {c : β → β → Int} (h : OrdI c) (f : α → β) : OrdI fun a b => c (f a) (f b) := ⟨fun a b => h.1 _ _, fun a b => h.2.1 _ _, fun a b d => h.2.2 _ _ _⟩
def elseI (x y : Int) : Int := if x = 0 then y else x
theorem OrdI.or {α : Type} {c d : α → α → Int} (hc : OrdI c) (hd : OrdI d) : OrdI fun a b => elseI (c a b) (d a b) := by
  refine ⟨fun a b => ?_, fun a b => ?_, fun a b e => ?_⟩
  · have h1 := hc.1 a b
    have h2 := hd.1 a b
    simp only [elseI]
    split <;> split <;> omega
  · have h1 := hc.2.1 a b
    have h2 := hd.2.1 a b
    simp only [elseI]
    split <;> omega
  · have h1 := hc.2.2 a b e
    have h2 := hd.2.2 a b e
    have h3 := hc.2.2 e b a
    have h4 := hc.1 a b
    have h5 := hc.1 b e
    have h6 := hc.1 a e
    simp only [elseI]
    intro p q
    split at p <;> split at q <;> split <;> first | omega | (constructor <;> first | omega | (intro; omega))
theorem bytes_ord : OrdI Lib.compareBytes := by
  have anti : ∀ a b, Lib.compareBytes a b = - Lib.compareBytes b a := by
    intro a
    induction a with
    | nil => intro b; cases b <;> simp [Lib.compareBytes]
    | cons x a ih =>
      intro b
      cases b with
      | nil => simp [Lib.compareBytes]
      | cons y b =>
        have h := ih b
        simp only [Lib.compareBytes, UInt8.lt_iff_toNat_lt]
        split <;> split <;> omega
  have rng : ∀ a b, -1 ≤ Lib.compareBytes a b ∧ Lib.compareBytes a b ≤ 1 := by
    intro a
    induction a with
    | nil => intro b; cases b <;> simp [Lib.compareBytes]
    | cons x a ih =>
      intro b
      cases b with
      | nil => simp [Lib.compareBytes]
      | cons y b =>
        have h := ih b
        simp only [Lib.compareBytes, UInt8.lt_iff_toNat_lt]
        split
        · omega
        · split <;> omega
  refine ⟨anti, rng, ?_⟩
  intro a
  induction a with
  | nil => intro b d; cases b <;> cases d <;> simp [Lib.compareBytes]
  | cons x a ih =>
    intro b d
    cases b with
    | nil => cases d <;> simp [Lib.compareBytes]
    | cons y b =>
      cases d with
      | nil => simp [Lib.compareBytes]
      | cons z d =>
        have h := ih b d
        simp only [Lib.compareBytes, UInt8.lt_iff_toNat_lt]
        intro p q
        split at p
        · omega
        · split at p
          · split at q
            · omega
            · split at q
              · rw [if_neg (by omega), if_pos (by omega)]; omega
              · rw [if_neg (by omega), if_pos (by omega)]; omega
          · split at q
            · omega
            · split at q
              · rw [if_neg (by omega), if_pos (by omega)]; omega
              · rw [if_neg (by omega), if_neg (by omega)]
                have h2 := h p q
                refine ⟨h2.1, fun hh => h2.2 ?_⟩
                rcases hh with hh | hh
                · rw [if_neg (by omega), if_neg (by omega)] at hh; exact .inl hh
                · rw [if_neg (by omega), if_neg (by omega)] at hh; exact .inr hh
theorem bytes_zero : ∀ a b, Lib.compareBytes a b = 0 ↔ a = b
  | [], [] => by simp [Lib.compareBytes]
  | [], _ :: _ => by simp [Lib.compareBytes]
  | _ :: _, [] => by simp [Lib.compareBytes]
  | x :: a, y :: b => by
    have h := bytes_zero a b
    simp only [Lib.compareBytes, UInt8.lt_iff_toNat_lt, List.cons.injEq, ← UInt8.toNat_inj]
    split
    · constructor
      · intro e; omega
      · rintro ⟨e, _⟩; omega
    · split
      · constructor
        · intro e; omega
        · rintro ⟨e, _⟩; omega
      · rw [h]
        constructor
        · intro e; exact ⟨by omega, e⟩
        · exact fun e => e.2
theorem cmpN_zero (a b : Nat) : cmpN a b = 0 ↔ a = b := by unfold cmpN; split <;> (try split) <;> omega
theorem elseI_zero (x y : Int) : elseI x y = 0 ↔ x = 0 ∧ y = 0 := by
  unfold elseI; split
  · rename_i h; exact ⟨fun e => ⟨h, e⟩, fun e => e.2⟩
  · rename_i h; exact ⟨fun e => absurd e h, fun e => absurd e.1 h⟩
/-! ### newer -/
def firstI : List Int → Int
  | [] => 0
  | x :: l => elseI x (firstI l)
theorem or_first (vals : List Int) (hv : vals.length ≤ 1000000) : M_cmp_Or_int_v vals = some (firstI vals) := by
  have key : ∀ (d k : Nat), vals.length = k + d → loopO (fun z_ => M_cmp_Or_int_v_b1 vals z_) (k : Int) = some (if firstI (vals.drop k) = 0 then .inl () else .inr (firstI (vals.drop k))) := by
    intro d
    induction d with
    | zero =>
      intro k h
      rw [loopO_end (r := .inl ()) (by unfold M_cmp_Or_int_v_b1; rw [if_neg (by omega)]), List.drop_of_length_le (by omega)]; rfl
    | succ d ih =>
      intro k h
      have hk : k < vals.length := by omega
      rw [List.drop_eq_getElem_cons hk, firstI]
      by_cases hz : vals[k] = 0
      · rw [loopO_next (s' := ((k + 1 : Nat) : Int)) (by unfold M_cmp_Or_int_v_b1; rw [if_pos (by omega), at?_in hk, Option.bind_some, if_pos hz, if_pos (ok_small (by omega))]; rfl), ih (k + 1) (by omega)]
        unfold elseI
        rw [if_pos hz]
      · rw [loopO_end (r := .inr vals[k]) (by unfold M_cmp_Or_int_v_b1; rw [if_pos (by omega), at?_in hk, Option.bind_some, if_neg hz])]
        unfold elseI
        rw [if_neg hz, if_neg hz]
  have := key vals.length 0 (by omega)
  rw [show ((0 : Nat) : Int) = 0 from rfl, List.drop_zero] at this
  unfold M_cmp_Or_int_v
  rw [this, some_bindP]
  by_cases h : firstI vals = 0
  · rw [if_pos h]; simp only [h]
  · rw [if_neg h]
def bitN (b : Bool) : Nat := if b = true then 1 else 0
/-- What tells the newer one. -/
def cmpI (a b : G_api_Instance) : Int := elseI (cmpN a.Seq.toNat b.Seq.toNat) (elseI (cmpN (bitN a.Gone) (bitN b.Gone)) (elseI (cmpN a.Born.toNat b.Born.toNat) (elseI (cmpN a.Life.toNat b.Life.toNat)
  (elseI (Lib.compareBytes (List.ofFn a.Publisher) (List.ofFn b.Publisher)) (elseI (cmpN a.Priority.toNat b.Priority.toNat) (elseI (cmpN a.Weight.toNat b.Weight.toNat) (elseI (cmpN a.Port.toNat b.Port.toNat) (Lib.compareBytes a.Target b.Target))))))))
theorem cmp64 (a b : UInt64) : M_cmp_Compare_uint64 a b = some (cmpN a.toNat b.toNat) := by
  unfold M_cmp_Compare_uint64 M_cmp_isNaN_uint64 cmpN
  simp only [some_bindP, UInt64.lt_iff_toNat_lt]
  split
  · rfl
  · split <;> rfl
theorem cmp32 (a b : UInt32) : M_cmp_Compare_uint32 a b = some (cmpN a.toNat b.toNat) := by
  unfold M_cmp_Compare_uint32 M_cmp_isNaN_uint32 cmpN
  simp only [some_bindP, UInt32.lt_iff_toNat_lt]
  split
  · rfl
  · split <;> rfl
theorem cmp16 (a b : UInt16) : M_cmp_Compare_uint16 a b = some (cmpN a.toNat b.toNat) := by
  unfold M_cmp_Compare_uint16 M_cmp_isNaN_uint16 cmpN
  simp only [some_bindP, UInt16.lt_iff_toNat_lt]
  split
  · rfl
  · split <;> rfl
theorem compare_ltS : ∀ (a b : List UInt8), Lib.compareBytes a b = if ltS a b = true then -1 else if (ltS a b || decide (a = b)) = true then 0 else 1
  | [], [] => by decide
  | [], _ :: _ => by simp [Lib.compareBytes, ltS, Op.bytesLess]
  | _ :: _, [] => by simp [Lib.compareBytes, ltS, Op.bytesLess]
  | a :: x, b :: y => by
    have h := compare_ltS x y
    unfold ltS at h ⊢
    unfold Lib.compareBytes
    rw [Op.bytesLess]
    by_cases h1 : a < b
    · simp [h1]
    · by_cases h2 : b < a
      · have h3 : a ≠ b := fun e => by subst e; exact UInt8.lt_irrefl _ h2
        simp [h1, h2, h3]
      · have h3 : a = b := UInt8.le_antisymm (UInt8.not_lt.1 h2) (UInt8.not_lt.1 h1)
        subst h3
        simp [h1, h]
theorem cmpStr (a b : List UInt8) : M_cmp_Compare_string a b = some (Lib.compareBytes a b) := by
  rw [compare_ltS]
  unfold M_cmp_Compare_string M_cmp_isNaN_string
  simp only [some_bindP]
  split
  · rfl
  · split <;> rfl
theorem inst_cmp (a b : G_api_Instance) : M_inst_Cmp a b = some (cmpI a b) := by
  have hb : (M_inst_bit a.Gone).bind (fun x => (M_inst_bit b.Gone).bind fun y => M_cmp_Compare_int x y) = some (cmpN (bitN a.Gone) (bitN b.Gone)) := by
    cases a.Gone <;> cases b.Gone <;> rfl
  have e : M_inst_Cmp a b = (M_cmp_Compare_uint64 a.Seq b.Seq).bind fun r1_2 => ((M_inst_bit a.Gone).bind fun x => (M_inst_bit b.Gone).bind fun y => M_cmp_Compare_int x y).bind fun r1_5 =>
        (M_cmp_Compare_uint64 a.Born b.Born).bind fun r1_6 => (M_cmp_Compare_uint32 a.Life b.Life).bind fun r1_7 => (M_cmp_Compare_uint16 a.Priority b.Priority).bind fun r1_8 => (M_cmp_Compare_uint16 a.Weight b.Weight).bind fun r1_9 =>
        (M_cmp_Compare_uint16 a.Port b.Port).bind fun r1_10 => (M_cmp_Compare_string a.Target b.Target).bind fun r1_11 =>
        (M_cmp_Or_int_v [r1_2, r1_5, r1_6, r1_7, Lib.compareBytes (List.ofFn a.Publisher) (List.ofFn b.Publisher), r1_8, r1_9, r1_10, r1_11]) := by
    unfold M_inst_Cmp M_bytes_Compare_vv
    cases a.Gone <;> cases b.Gone <;> simp [M_inst_bit]
  rw [e, hb, cmp64, cmp64, cmp32, cmp16, cmp16, cmp16, cmpStr]
  simp only [some_bindP]
  rw [or_first _ (by simp)]
  simp only [firstI, cmpI]
  congr 9
  unfold elseI; split
  · rename_i h; rw [h]
  · rfl
theorem cmpI_ord : OrdI cmpI :=
  (cmpN_ord.on fun a : G_api_Instance => a.Seq.toNat).or ((cmpN_ord.on fun a : G_api_Instance => bitN a.Gone).or ((cmpN_ord.on fun a : G_api_Instance => a.Born.toNat).or ((cmpN_ord.on fun a : G_api_Instance => a.Life.toNat).or
    ((bytes_ord.on fun a : G_api_Instance => List.ofFn a.Publisher).or ((cmpN_ord.on fun a : G_api_Instance => a.Priority.toNat).or ((cmpN_ord.on fun a : G_api_Instance => a.Weight.toNat).or ((cmpN_ord.on fun a : G_api_Instance => a.Port.toNat).or (bytes_ord.on fun a : G_api_Instance => a.Target))))))))
theorem cmpI_zero (a b : G_api_Instance) : cmpI a b = 0 ↔ a = b := by
  unfold cmpI
  simp only [elseI_zero, cmpN_zero, bytes_zero, UInt64.toNat_inj, UInt32.toNat_inj, UInt16.toNat_inj]
  constructor
  · rintro ⟨h1, h2, h3, h4, h5, h6, h7, h8, h9⟩
    have h2' : a.Gone = b.Gone := by revert h2; cases a.Gone <;> cases b.Gone <;> simp [bitN]
    have h5' : a.Publisher = b.Publisher := ofFn_inj'.1 h5
    cases a; cases b
    simp_all
  · rintro rfl; simp
/-! ### rosters, as plain lists -/
abbrev pubI (i : G_api_Instance) : List UInt8 := List.ofFn i.Publisher
def befI (a b : G_api_Instance) : Prop := ltS (pubI a) (pubI b) = true
theorem ltS_cmp (a b : List UInt8) : ltS a b = true ↔ Lib.compareBytes a b < 0 := by
  rw [compare_ltS]
  cases ltS a b with
  | true => simp
  | false =>
    simp only [Bool.false_eq_true, if_false, Bool.false_or]
    split <;> simp
theorem ltS_irr (a : List UInt8) : ltS a a = false := by
  have h := ltS_cmp a a
  rw [(bytes_zero a a).2 rfl] at h
  cases hh : ltS a a with
  | true => exact absurd (h.1 hh) (by decide)
  | false => rfl
theorem ltS_trans {a b c : List UInt8} (h : ltS a b = true) (k : ltS b c = true) : ltS a c = true := by
  rw [ltS_cmp] at h k ⊢
  have h1 := bytes_ord.1 a b
  have h2 := bytes_ord.1 b c
  have h3 := bytes_ord.1 a c
  have := (bytes_ord.2.2 c b a (by omega) (by omega)).2 (.inl (by omega))
  omega
theorem ltS_tri (a b : List UInt8) : ltS a b = true ∨ ltS b a = true ∨ a = b := by
  rw [ltS_cmp, ltS_cmp, ← bytes_zero]
  have h1 := bytes_ord.1 a b
  omega
theorem ltS_asymm {a b : List UInt8} (h : ltS a b = true) : ltS b a = false := by
  cases k : ltS b a with
  | false => rfl
  | true => have := ltS_trans h k; rw [ltS_irr] at this; cases this
structure GoodR (l : List G_api_Instance) : Prop where
  good : ∀ x ∈ l, goodI x = true
  sorted : l.Pairwise befI
  few : l.length ≤ 16
theorem goodR_nil : GoodR [] := GoodR.mk (fun x h => absurd h List.not_mem_nil) List.Pairwise.nil (by decide)
theorem pairwise_adj {l : List G_api_Instance} (h : ∀ j (hj : j + 1 < l.length), befI l[j] l[j + 1]) : l.Pairwise befI := by
  have key : ∀ (d i : Nat) (hj : i + d + 1 < l.length), befI l[i] l[i + d + 1] := by
    intro d
    induction d with
    | zero => intro i hj; exact h i hj
    | succ d ih => intro i hj; exact ltS_trans (ih i (by omega)) (h (i + d + 1) (by omega))
  refine List.pairwise_iff_getElem.2 fun i j hi hj hij => ?_
  have := key (j - i - 1) i (by omega)
  simp only [show i + (j - i - 1) + 1 = j by omega] at this
  exact this
theorem sorted_split {l : List G_api_Instance} (h : l.Pairwise befI) (t : List UInt8) : l = (l.filter fun x => ltS (pubI x) t) ++ l.filter fun x => !ltS (pubI x) t := by
  induction l with
  | nil => rfl
  | cons x l ih =>
    rw [List.pairwise_cons] at h
    cases hx : ltS (pubI x) t with
    | true => rw [List.filter_cons_of_pos (by exact hx), List.filter_cons_of_neg (by simp only [hx]; decide), List.cons_append, ← ih h.2]
    | false =>
      have e : (l.filter fun x => ltS (pubI x) t) = [] := by
        rw [List.filter_eq_nil_iff]
        intro y hy hh
        rw [ltS_trans (h.1 y hy) hh] at hx
        cases hx
      have e2 := ih h.2
      rw [e, List.nil_append] at e2
      rw [List.filter_cons_of_neg (by simp only [hx]; decide), e, List.nil_append, List.filter_cons_of_pos (by simp only [hx]; rfl), ← e2]
/-- A sorted list with an instance, in the place of its publisher's. -/
noncomputable def withR (l : List G_api_Instance) (i : G_api_Instance) : List G_api_Instance := (l.filter fun x => ltS (pubI x) (pubI i)) ++ i :: l.filter fun x => ltS (pubI i) (pubI x)
theorem withR_mem {l : List G_api_Instance} {i x : G_api_Instance} : x ∈ withR l i ↔ x = i ∨ (x ∈ l ∧ pubI x ≠ pubI i) := by
  unfold withR
  rw [List.mem_append, List.mem_cons, List.mem_filter, List.mem_filter]
  constructor
  · rintro (⟨h, k⟩ | h | ⟨h, k⟩)
    · exact .inr ⟨h, fun e => by rw [e, ltS_irr] at k; cases k⟩
    · exact .inl h
    · exact .inr ⟨h, fun e => by rw [e, ltS_irr] at k; cases k⟩
  · rintro (h | ⟨h, k⟩)
    · exact .inr (.inl h)
    · rcases ltS_tri (pubI x) (pubI i) with e | e | e
      · exact .inl ⟨h, e⟩
      · exact .inr (.inr ⟨h, e⟩)
      · exact absurd e k
theorem withR_sorted {l : List G_api_Instance} (h : l.Pairwise befI) (i : G_api_Instance) : (withR l i).Pairwise befI := by
  unfold withR
  rw [List.pairwise_append]
  refine ⟨h.sublist List.filter_sublist, ?_, ?_⟩
  · rw [List.pairwise_cons]
    exact ⟨fun y hy => (List.mem_filter.1 hy).2, h.sublist List.filter_sublist⟩
  · intro a ha b hb
    have ha := (List.mem_filter.1 ha).2
    rcases List.mem_cons.1 hb with hb | hb
    · rw [hb]; exact ha
    · exact ltS_trans ha (List.mem_filter.1 hb).2
theorem sorted_ne {A B : List G_api_Instance} {b : G_api_Instance} (h : (A ++ b :: B).Pairwise befI) : (∀ x ∈ A, befI x b) ∧ ∀ x ∈ B, befI b x := by
  rw [List.pairwise_append, List.pairwise_cons] at h
  exact ⟨fun x hx => h.2.2 x hx b List.mem_cons_self, h.2.1.1⟩
theorem sorted_one {l : List G_api_Instance} (h : l.Pairwise befI) {a b : G_api_Instance} (ha : a ∈ l) (hb : b ∈ l) (e : pubI a = pubI b) : a = b := by
  obtain ⟨A, B, rfl⟩ := List.append_of_mem ha
  obtain ⟨h1, h2⟩ := sorted_ne h
  rcases List.mem_append.1 hb with hb | hb
  · have := h1 b hb
    unfold befI at this
    rw [e, ltS_irr] at this; cases this
  · rcases List.mem_cons.1 hb with hb | hb
    · exact hb.symm
    · have := h2 b hb
      unfold befI at this
      rw [e, ltS_irr] at this; cases this
/-- What stands where a publisher does. -/
theorem withR_there {A B : List G_api_Instance} {b i : G_api_Instance} (h : (A ++ b :: B).Pairwise befI) (e : pubI b = pubI i) : withR (A ++ b :: B) i = A ++ i :: B := by
  obtain ⟨h1, h2⟩ := sorted_ne h
  unfold befI at h1 h2
  rw [e] at h1 h2
  have f1 : (A ++ b :: B).filter (fun x => ltS (pubI x) (pubI i)) = A := by
    rw [List.filter_append, List.filter_eq_self.2 h1, List.filter_eq_nil_iff.2, List.append_nil]
    intro x hx
    rcases List.mem_cons.1 hx with hx | hx
    · rw [hx, e, ltS_irr]; decide
    · rw [ltS_asymm (h2 x hx)]; decide
  have f2 : (A ++ b :: B).filter (fun x => ltS (pubI i) (pubI x)) = B := by
    rw [List.filter_append, List.filter_eq_nil_iff.2 (fun x hx => by rw [ltS_asymm (h1 x hx)]; decide), List.nil_append, List.filter_cons_of_neg (by rw [e, ltS_irr]; decide), List.filter_eq_self.2 h2]
  unfold withR
  rw [f1, f2]
theorem withR_none {A B : List G_api_Instance} {i : G_api_Instance} (h1 : ∀ x ∈ A, ltS (pubI x) (pubI i) = true) (h2 : ∀ x ∈ B, ltS (pubI i) (pubI x) = true) : withR (A ++ B) i = A ++ i :: B := by
  have f1 : (A ++ B).filter (fun x => ltS (pubI x) (pubI i)) = A := by
    rw [List.filter_append, List.filter_eq_self.2 h1, List.filter_eq_nil_iff.2, List.append_nil]
    intro x hx
    rw [ltS_asymm (h2 x hx)]; decide
  have f2 : (A ++ B).filter (fun x => ltS (pubI i) (pubI x)) = B := by
    rw [List.filter_append, List.filter_eq_nil_iff.2 (fun x hx => by rw [ltS_asymm (h1 x hx)]; decide), List.nil_append, List.filter_eq_self.2 h2]
  unfold withR
  rw [f1, f2]
/-- The place of the one that ends first, told by a round after round. -/
noncomputable def endAt (l : List G_api_Instance) (k : Nat) : UInt64 := ((l[k]?).map endI).getD 0
noncomputable def firstG (l : List G_api_Instance) : Nat → Nat → Nat → Nat
  | 0, a, _ => a
  | d + 1, a, k => firstG l d (if endAt l k ≤ endAt l a then k else a) (k + 1)
noncomputable def firstS (l : List G_api_Instance) : Nat := firstG l l.length 0 0
theorem firstG_lt (l : List G_api_Instance) : ∀ d a k, a < l.length → l.length = k + d → firstG l d a k < l.length := by
  intro d
  induction d with
  | zero => intro a k h _; exact h
  | succ d ih =>
    intro a k h hk
    refine ih _ _ ?_ (by omega)
    split <;> omega
theorem firstS_lt {l : List G_api_Instance} (h : 0 < l.length) : firstS l < l.length := firstG_lt l _ _ _ h (by omega)
def getR (l : List G_api_Instance) (p : List UInt8) : Option G_api_Instance := l.find? fun x => decide (pubI x = p)
theorem getR_some {l : List G_api_Instance} {p : List UInt8} {b : G_api_Instance} (h : getR l p = some b) : b ∈ l ∧ pubI b = p := ⟨List.mem_of_find?_eq_some h, of_decide_eq_true (List.find?_some (p := fun x => decide (pubI x = p)) h)⟩
theorem getR_none {l : List G_api_Instance} {p : List UInt8} (h : getR l p = none) : ∀ x ∈ l, pubI x ≠ p := fun x hx e => List.find?_eq_none.1 h x hx (decide_eq_true e)
theorem getR_mem {l : List G_api_Instance} (h : l.Pairwise befI) {b : G_api_Instance} (hb : b ∈ l) : getR l (pubI b) = some b := by
  cases hh : getR l (pubI b) with
  | none => exact absurd rfl (getR_none hh b hb)
  | some c => obtain ⟨h1, h2⟩ := getR_some hh; rw [sorted_one h h1 hb h2]
theorem getR_pos {l : List G_api_Instance} {p : List UInt8} {x : G_api_Instance} (h : pubI x = p) : getR (x :: l) p = some x := by unfold getR; exact List.find?_cons_of_pos (p := fun x => decide (pubI x = p)) (decide_eq_true h)
theorem getR_neg {l : List G_api_Instance} {p : List UInt8} {x : G_api_Instance} (h : pubI x ≠ p) : getR (x :: l) p = getR l p := by unfold getR; exact List.find?_cons_of_neg (p := fun x => decide (pubI x = p)) (fun e => h (of_decide_eq_true e))
/-- A roster with an instance. -/
noncomputable def putR (l : List G_api_Instance) (i : G_api_Instance) : List G_api_Instance × Bool :=
  open Classical in
  if GoodR l ∧ goodI i = true then
    match getR l (pubI i) with
    | some b => if cmpI i b ≤ 0 then (l, false) else (withR l i, true)
    | none => if l.length < 16 then (withR l i, true) else ((withR l i).eraseIdx (firstS (withR l i)), !decide (firstS (withR l i) = (l.filter fun x => ltS (pubI x) (pubI i)).length))
  else (l, false)
theorem withR_len_none {l : List G_api_Instance} {i : G_api_Instance} (h : l.Pairwise befI) (hn : ∀ x ∈ l, pubI x ≠ pubI i) : (withR l i).length = l.length + 1 := by
  have e : (l.filter fun x => !ltS (pubI x) (pubI i)) = l.filter fun x => ltS (pubI i) (pubI x) := by
    refine List.filter_congr fun x hx => ?_
    rcases ltS_tri (pubI x) (pubI i) with h1 | h1 | h1
    · rw [h1, ltS_asymm h1]; rfl
    · rw [h1, ltS_asymm h1]; rfl
    · exact absurd h1 (hn x hx)
  have h2 := congrArg List.length (sorted_split h (pubI i))
  rw [List.length_append, e] at h2
  unfold withR
  rw [List.length_append, List.length_cons]; omega
theorem withR_len_some {l : List G_api_Instance} {i b : G_api_Instance} (h : l.Pairwise befI) (hb : b ∈ l) (e : pubI b = pubI i) : (withR l i).length = l.length := by
  obtain ⟨A, B, rfl⟩ := List.append_of_mem hb
  rw [withR_there h e]; simp
theorem putR_good {l : List G_api_Instance} (h : GoodR l) (i : G_api_Instance) : GoodR (putR l i).1 := by
  unfold putR
  split
  · rename_i hh
    obtain ⟨_, hi⟩ := hh
    have hw : ∀ x ∈ withR l i, goodI x = true := fun x hx => by
      rcases withR_mem.1 hx with hx | ⟨hx, _⟩
      · rw [hx]; exact hi
      · exact h.good x hx
    have hs := withR_sorted h.sorted i
    split
    · rename_i b hb
      obtain ⟨h1, h2⟩ := getR_some hb
      split
      · exact h
      · exact ⟨hw, hs, by rw [withR_len_some h.sorted h1 h2]; exact h.few⟩
    · rename_i hb
      have hl := withR_len_none h.sorted (getR_none hb)
      have := h.few
      split
      · exact ⟨hw, hs, by show (withR l i).length ≤ 16; omega⟩
      · have hsub := List.eraseIdx_sublist (withR l i) (firstS (withR l i))
        refine ⟨fun x hx => hw x (hsub.subset hx), hs.sublist hsub, ?_⟩
        show ((withR l i).eraseIdx (firstS (withR l i))).length ≤ 16
        rw [List.length_eraseIdx, if_pos (firstS_lt (by omega))]; omega
  · exact h
/-! ### what a roster tells of all that came -/
def TopOf (S : G_api_Instance → Prop) (x : G_api_Instance) : Prop := S x ∧ ∀ y, S y → pubI y = pubI x → cmpI y x ≤ 0
structure Rep (l : List G_api_Instance) (S : G_api_Instance → Prop) : Prop where
  top : ∀ x, x ∈ l ↔ TopOf S x
  all : ∀ y, S y → ∃ x ∈ l, pubI x = pubI y
theorem cmpI_self (a : G_api_Instance) : cmpI a a = 0 := (cmpI_zero a a).2 rfl
theorem cmpI_anti {a b : G_api_Instance} (h : cmpI a b ≤ 0) (k : cmpI b a ≤ 0) : a = b := by
  have := cmpI_ord.1 a b
  exact (cmpI_zero a b).1 (by omega)
theorem cmpI_trans {a b c : G_api_Instance} (h : cmpI a b ≤ 0) (k : cmpI b c ≤ 0) : cmpI a c ≤ 0 := by
  have h1 := cmpI_ord.1 a b
  have h2 := cmpI_ord.1 b c
  have h3 := cmpI_ord.1 a c
  have := (cmpI_ord.2.2 c b a (by omega) (by omega)).1
  omega
theorem rep_put {l : List G_api_Instance} {S : G_api_Instance → Prop} {i : G_api_Instance} (hl : GoodR l) (hi : goodI i = true) (h : Rep l S) (hf : (∃ x ∈ l, pubI x = pubI i) ∨ l.length < 16) : Rep (putR l i).1 (fun y => S y ∨ y = i) := by
  unfold putR
  rw [if_pos ⟨hl, hi⟩]
  cases hg : getR l (pubI i) with
  | some b =>
    obtain ⟨h1, h2⟩ := getR_some hg
    obtain ⟨b1, b2⟩ := (h.top b).1 h1
    have hu : ∀ x, TopOf S x → pubI x = pubI i → x = b := fun x hx e => sorted_one hl.sorted ((h.top x).2 hx) h1 (e.trans h2.symm)
    simp only []
    by_cases hc : cmpI i b ≤ 0
    · rw [if_pos hc]
      refine ⟨fun x => ⟨fun hx => ?_, fun hx => ?_⟩, ?_⟩
      · have ht := (h.top x).1 hx
        refine ⟨.inl ht.1, ?_⟩
        rintro y (hy | hy) e
        · exact ht.2 y hy e
        · subst hy
          rw [hu x ht e.symm]; exact hc
      · obtain ⟨hx1 | hx1, hx2⟩ := hx
        · exact (h.top x).2 ⟨hx1, fun y hy e => hx2 y (.inl hy) e⟩
        · subst hx1
          rw [← cmpI_anti (hx2 b (.inl b1) h2) hc]; exact h1
      · rintro y (hy | hy)
        · exact h.all y hy
        · exact ⟨b, h1, by rw [hy]; exact h2⟩
    · rw [if_neg hc]
      refine ⟨fun x => ⟨fun hx => ?_, fun hx => ?_⟩, ?_⟩
      · rcases withR_mem.1 hx with hx | ⟨hx, e⟩
        · subst hx
          refine ⟨.inr rfl, ?_⟩
          rintro y (hy | hy) e
          · refine cmpI_trans (b2 y hy (e.trans h2.symm)) ?_
            have := cmpI_ord.1 x b
            omega
          · rw [hy, cmpI_self]; exact Int.le_refl _
        · have ht := (h.top x).1 hx
          refine ⟨.inl ht.1, ?_⟩
          rintro y (hy | hy) e2
          · exact ht.2 y hy e2
          · subst hy; exact absurd e2.symm e
      · refine withR_mem.2 ?_
        obtain ⟨hx1 | hx1, hx2⟩ := hx
        · have ht : TopOf S x := ⟨hx1, fun y hy e => hx2 y (.inl hy) e⟩
          refine .inr ⟨(h.top x).2 ht, fun e => hc ?_⟩
          rw [← hu x ht e]; exact hx2 i (.inr rfl) e.symm
        · exact .inl hx1
      · rintro y (hy | hy)
        · obtain ⟨x, hx, e⟩ := h.all y hy
          by_cases e2 : pubI x = pubI i
          · exact ⟨i, withR_mem.2 (.inl rfl), e2.symm.trans e⟩
          · exact ⟨x, withR_mem.2 (.inr ⟨hx, e2⟩), e⟩
        · exact ⟨i, withR_mem.2 (.inl rfl), by rw [hy]⟩
  | none =>
    have hn := getR_none hg
    have hf' : l.length < 16 := by
      rcases hf with ⟨x, hx, e⟩ | hf
      · exact absurd e (hn x hx)
      · exact hf
    have hno : ∀ y, S y → pubI y ≠ pubI i := fun y hy e => by
      obtain ⟨x, hx, e2⟩ := h.all y hy
      exact hn x hx (e2.trans e)
    simp only []
    rw [if_pos hf']
    refine ⟨fun x => ⟨fun hx => ?_, fun hx => ?_⟩, ?_⟩
    · rcases withR_mem.1 hx with hx | ⟨hx, e⟩
      · subst hx
        refine ⟨.inr rfl, ?_⟩
        rintro y (hy | hy) e
        · exact absurd e (hno y hy)
        · rw [hy, cmpI_self]; exact Int.le_refl _
      · have ht := (h.top x).1 hx
        refine ⟨.inl ht.1, ?_⟩
        rintro y (hy | hy) e2
        · exact ht.2 y hy e2
        · subst hy; exact absurd e2.symm e
    · refine withR_mem.2 ?_
      obtain ⟨hx1 | hx1, hx2⟩ := hx
      · exact .inr ⟨(h.top x).2 ⟨hx1, fun y hy e => hx2 y (.inl hy) e⟩, hno x hx1⟩
      · exact .inl hx1
    · rintro y (hy | hy)
      · obtain ⟨x, hx, e⟩ := h.all y hy
        exact ⟨x, withR_mem.2 (.inr ⟨hx, fun e2 => hno y hy (e.symm.trans e2)⟩), e⟩
      · exact ⟨i, withR_mem.2 (.inl rfl), by rw [hy]⟩
theorem rep_self {l : List G_api_Instance} (h : l.Pairwise befI) : Rep l (fun x => x ∈ l) :=
  ⟨fun x => ⟨fun hx => ⟨hx, fun y hy e => by rw [sorted_one h hy hx e, cmpI_self]; exact Int.le_refl _⟩, fun hx => hx.1⟩, fun y hy => ⟨y, hy, rfl⟩⟩
theorem rep_congr {l : List G_api_Instance} {S T : G_api_Instance → Prop} (h : Rep l S) (e : ∀ x, S x ↔ T x) : Rep l T := by
  have : S = T := funext fun x => propext (e x)
  rw [← this]; exact h
theorem sorted_nodup {l : List G_api_Instance} (h : l.Pairwise befI) : (l.map pubI).Nodup := by
  rw [List.Nodup, List.pairwise_map]
  refine h.imp fun {a b} hab e => ?_
  unfold befI at hab
  rw [e, ltS_irr] at hab; cases hab
theorem sorted_ext {a b : List G_api_Instance} (ha : a.Pairwise befI) (hb : b.Pairwise befI) (h : ∀ x, x ∈ a ↔ x ∈ b) : a = b := by
  have na : a.Nodup := (List.pairwise_map.1 (sorted_nodup ha)).imp fun {x y} hxy e => hxy (by rw [e])
  have nb : b.Nodup := (List.pairwise_map.1 (sorted_nodup hb)).imp fun {x y} hxy e => hxy (by rw [e])
  refine List.Perm.eq_of_pairwise (le := befI) (fun x y _ _ h1 h2 => ?_) ha hb ((List.perm_ext_iff_of_nodup na nb).2 h)
  unfold befI at h1 h2
  rw [ltS_asymm h1] at h2; cases h2
theorem rep_ext {a b : List G_api_Instance} {S T : G_api_Instance → Prop} (ha : GoodR a) (hb : GoodR b) (h : Rep a S) (k : Rep b T) (e : ∀ x, S x ↔ T x) : a = b :=
  sorted_ext ha.sorted hb.sorted fun x => by rw [(rep_congr h e).top x, k.top x]
/-- How many publishers there are, at most: where a roster has room. -/
theorem rep_room {l : List G_api_Instance} {S : G_api_Instance → Prop} {i : G_api_Instance} {D : List (List UInt8)} (hl : GoodR l) (h : Rep l S) (hS : ∀ x, S x ∨ x = i → pubI x ∈ D) (hD : D.length ≤ 16) : (∃ x ∈ l, pubI x = pubI i) ∨ l.length < 16 := by
  by_cases hh : ∃ x ∈ l, pubI x = pubI i
  · exact .inl hh
  · have hn : (pubI i :: l.map pubI).Nodup := by
      rw [List.nodup_cons]
      refine ⟨fun hm => ?_, sorted_nodup hl.sorted⟩
      obtain ⟨x, hx, e⟩ := List.mem_map.1 hm
      exact hh ⟨x, hx, e⟩
    have hsub : (pubI i :: l.map pubI) ⊆ D := by
      intro p hp
      rcases List.mem_cons.1 hp with hp | hp
      · rw [hp]; exact hS i (.inr rfl)
      · obtain ⟨x, hx, e⟩ := List.mem_map.1 hp
        rw [← e]; exact hS x (.inl ((h.top x).1 hx).1)
    have := hn.length_le_of_subset hsub
    rw [List.length_cons, List.length_map] at this
    exact .inr (by omega)
/-! ### rosters: what the program tells -/
noncomputable def isGoodR (l : List G_api_Instance) : Bool := @decide (GoodR l) (Classical.propDecidable _)
theorem isGoodR_iff {l : List G_api_Instance} : isGoodR l = true ↔ GoodR l := @decide_eq_true_iff _ (Classical.propDecidable _)
theorem isGoodR_neg {l : List G_api_Instance} : isGoodR l = false ↔ ¬ GoodR l := @decide_eq_false_iff_not _ (Classical.propDecidable _)
def ChkR (l : List G_api_Instance) (j : Nat) : Prop := ∀ hj : j < l.length, goodI l[j] = true ∧ (0 < j → befI l[j - 1] l[j])
theorem chkR_all {l : List G_api_Instance} : (∀ j, 0 ≤ j → ChkR l j) ∧ l.length ≤ 16 ↔ GoodR l := by
  constructor
  · rintro ⟨h, hn⟩
    refine GoodR.mk (fun x hx => ?_) (pairwise_adj fun j hj => ?_) hn
    · obtain ⟨j, hj, rfl⟩ := List.getElem_of_mem hx
      exact (h j (Nat.zero_le _) hj).1
    · have := (h (j + 1) (Nat.zero_le _) hj).2 (Nat.succ_pos _)
      simpa using this
  · intro h
    exact ⟨fun j _ hj => ⟨h.good _ (List.getElem_mem hj), fun h0 => List.pairwise_iff_getElem.1 h.sorted _ _ (by omega) hj (by omega)⟩, h.few⟩
theorem le_compareR (a b : List UInt8) : (0 : Int) ≤ Lib.compareBytes a b ↔ ltS a b = false := by
  have h := ltS_cmp a b
  cases hh : ltS a b with
  | true => have := h.1 hh; constructor
            · intro; omega
            · intro e; cases e
  | false => have : ¬ Lib.compareBytes a b < 0 := fun e => by rw [h.2 e] at hh; cases hh
             constructor
             · intro; rfl
             · intro; omega
theorem goodR_sim {l : List G_api_Instance} (hl : ∀ x ∈ l, x.Target.length ≤ 140737488355328) (hn : l.length ≤ 1000000) : ∀ (d k : Nat), l.length = k + d →
    ∃ r, loopO (fun z_ => M_roster_Good_v_b1 l z_) (k : Int) = some r ∧ ((r = .inl () ∧ ∀ j, k ≤ j → ChkR l j) ∨ (r = .inr false ∧ ¬ ∀ j, k ≤ j → ChkR l j)) := by
  intro d
  induction d with
  | zero =>
    intro k h
    exact ⟨.inl (), loopO_end (by unfold M_roster_Good_v_b1; rw [if_neg (by omega)]), .inl ⟨rfl, fun j hj hh => absurd hh (by omega)⟩⟩
  | succ d ih =>
    intro k h
    have hk : k < l.length := by omega
    have key : (M_roster_Good_v_b1 l (k : Int) = some (.inl ((k : Int) + 1)) ∧ ChkR l k) ∨ (M_roster_Good_v_b1 l (k : Int) = some (.inr (.inr false)) ∧ ¬ ChkR l k) := by
      have c1 : (k : Int) < (l.length : Int) := by omega
      have c2 : ok64 ((k : Int) + 1) := ok_small (by omega)
      have c4 : ok64 ((k : Int) - 1) := ok_small (by omega)
      unfold M_roster_Good_v_b1
      rw [if_pos c1, at?_in hk, some_bindP, inst_good (hl _ (List.getElem_mem hk)), some_bindP]
      cases hg : goodI l[k] with
      | false =>
        rw [if_neg (by decide)]
        exact .inr ⟨rfl, fun hc => by have := (hc hk).1; rw [hg] at this; cases this⟩
      | true =>
        rw [if_pos rfl]
        by_cases h0 : k = 0
        · have c3 : ¬ ((0 : Int) < (k : Int)) := by omega
          rw [if_neg c3, if_pos c2]
          exact .inl ⟨rfl, fun _ => ⟨hg, fun hh => absurd hh (by omega)⟩⟩
        · have c3 : (0 : Int) < (k : Int) := by omega
          have ea : at? l ((k : Int) - 1) = some l[k - 1] := by rw [show (k : Int) - 1 = ((k - 1 : Nat) : Int) by omega, at?_in (by omega : k - 1 < l.length)]
          have e3 : M_roster_order l[k - 1] l[k].Publisher = some () := rfl
          rw [if_pos c3, if_pos c4, ea, some_bindP, e3, some_bindP]
          cases hc : ltS (pubI l[k - 1]) (pubI l[k]) with
          | true =>
            rw [if_neg (fun e => by rw [le_compareR, hc] at e; cases e), if_pos c2]
            exact .inl ⟨rfl, fun _ => ⟨hg, fun _ => hc⟩⟩
          | false =>
            rw [if_pos ((le_compareR _ _).2 hc)]
            exact .inr ⟨rfl, fun hh => by have := (hh hk).2 (by omega); unfold befI at this; rw [hc] at this; cases this⟩
    rcases key with ⟨h1, h2⟩ | ⟨h1, h2⟩
    · obtain ⟨r, h3, h4⟩ := ih (k + 1) (by omega)
      refine ⟨r, ?_, ?_⟩
      · rw [loopO_next (s' := ((k + 1 : Nat) : Int)) (by show M_roster_Good_v_b1 l (k : Int) = _; rw [h1]; rfl)]; exact h3
      · rcases h4 with ⟨e, h4⟩ | ⟨e, h4⟩
        · refine .inl ⟨e, fun j hj => ?_⟩
          by_cases hjk : j = k
          · rw [hjk]; exact h2
          · exact h4 j (by omega)
        · exact .inr ⟨e, fun hh => h4 fun j hj => hh j (by omega)⟩
    · exact ⟨.inr false, loopO_end (by show M_roster_Good_v_b1 l (k : Int) = _; rw [h1]), .inr ⟨rfl, fun hh => h2 (hh k (Nat.le_refl _))⟩⟩
theorem roster_goodR {l : List G_api_Instance} (hl : ∀ x ∈ l, x.Target.length ≤ 140737488355328) (hn : l.length ≤ 1000000) : M_roster_Good_v l = some (isGoodR l) := by
  obtain ⟨r, h1, h2⟩ := goodR_sim hl hn l.length 0 (by omega)
  rw [show ((0 : Nat) : Int) = 0 from rfl] at h1
  unfold M_roster_Good_v
  rw [h1, some_bindP]
  rcases h2 with ⟨rfl, h2⟩ | ⟨rfl, h2⟩
  · simp only []
    by_cases h16 : l.length ≤ 16
    · rw [isGoodR_iff.2 (chkR_all.1 ⟨h2, h16⟩), decide_eq_true (by omega)]
    · rw [isGoodR_neg.2 (fun hg => h16 hg.few), decide_eq_false (by omega)]
  · simp only []
    rw [isGoodR_neg.2 (fun hg => h2 (chkR_all.2 hg).1)]
theorem goodR_len {l : List G_api_Instance} (h : GoodR l) : ∀ x ∈ l, x.Target.length ≤ 140737488355328 := fun x hx => by have := goodI_len (h.good x hx); omega
theorem half64 {n : Nat} (h : n ≤ 4000000) : (shr64 (UInt64.ofInt (n : Int)) 1).toNat = n / 2 := by
  have e : (UInt64.ofInt (n : Int)).toNat = n := by simp [UInt64.ofInt, UInt64.toNat_ofNat']; omega
  show (UInt64.ofNat ((UInt64.ofInt (n : Int)).toNat / 2 ^ 1)).toNat = _
  rw [e, UInt64.toNat_ofNat']; omega
theorem bsearch_sim {A B : List G_api_Instance} {t : Fin 20 → UInt8} (hn : (A ++ B).length ≤ 1000000) (hA : ∀ x ∈ A, ltS (pubI x) (List.ofFn t) = true) (hB : ∀ x ∈ B, ltS (pubI x) (List.ofFn t) = false) :
    ∀ (d i j : Nat), j - i ≤ d → i ≤ A.length → A.length ≤ j → j ≤ (A ++ B).length → loopO (fun z_ => M_slices_BinarySearchFunc_ID_v_roster_order_b1 t (A ++ B) z_.1 z_.2) ((i : Int), (j : Int)) = some (A.length : Int) := by
  intro d
  induction d with
  | zero =>
    intro i j h1 h2 h3 h4
    have : i = A.length := by omega
    rw [loopO_end (r := (A.length : Int)) (by
      show M_slices_BinarySearchFunc_ID_v_roster_order_b1 t (A ++ B) (i : Int) (j : Int) = _
      unfold M_slices_BinarySearchFunc_ID_v_roster_order_b1; rw [if_neg (by omega), this])]
  | succ d ih =>
    intro i j h1 h2 h3 h4
    by_cases hij : i < j
    · have hh := half64 (n := i + j) (by omega)
      rw [show ((i + j : Nat) : Int) = (i : Int) + (j : Int) by omega] at hh
      have hm : (i + j) / 2 < (A ++ B).length := by omega
      have body : M_slices_BinarySearchFunc_ID_v_roster_order_b1 t (A ++ B) (i : Int) (j : Int) = if Lib.compareBytes (pubI (A ++ B)[(i + j) / 2]) (List.ofFn t) < 0 then some (.inl ((((i + j) / 2 + 1 : Nat) : Int), (j : Int))) else some (.inl ((i : Int), (((i + j) / 2 : Nat) : Int))) := by
        unfold M_slices_BinarySearchFunc_ID_v_roster_order_b1
        rw [if_pos (by omega), if_pos (ok_small (by omega)), hh, if_pos (by omega), at?_in hm, some_bindP, show M_roster_order (A ++ B)[(i + j) / 2] t = some () from rfl, some_bindP, if_pos (ok_small (by omega))]
        rfl
      by_cases hlt : (i + j) / 2 < A.length
      · have hc : Lib.compareBytes (pubI (A ++ B)[(i + j) / 2]) (List.ofFn t) < 0 := by
          rw [← ltS_cmp]
          refine hA _ ?_
          rw [List.getElem_append_left hlt]; exact List.getElem_mem _
        rw [if_pos hc] at body
        rw [loopO_next (s' := ((((i + j) / 2 + 1 : Nat) : Int), (j : Int))) (by show M_slices_BinarySearchFunc_ID_v_roster_order_b1 t (A ++ B) (i : Int) (j : Int) = _; rw [body])]
        exact ih _ _ (by omega) (by omega) h3 h4
      · have hc : ¬ Lib.compareBytes (pubI (A ++ B)[(i + j) / 2]) (List.ofFn t) < 0 := by
          rw [← ltS_cmp]
          rw [List.getElem_append_right (by omega), hB _ (List.getElem_mem _)]; decide
        rw [if_neg hc] at body
        rw [loopO_next (s' := ((i : Int), (((i + j) / 2 : Nat) : Int))) (by show M_slices_BinarySearchFunc_ID_v_roster_order_b1 t (A ++ B) (i : Int) (j : Int) = _; rw [body])]
        exact ih _ _ (by omega) h2 (by omega) (by omega)
    · have : i = A.length := by omega
      rw [loopO_end (r := (A.length : Int)) (by
        show M_slices_BinarySearchFunc_ID_v_roster_order_b1 t (A ++ B) (i : Int) (j : Int) = _
        unfold M_slices_BinarySearchFunc_ID_v_roster_order_b1; rw [if_neg (by omega), this])]
theorem bsearch_split {A B : List G_api_Instance} {t : Fin 20 → UInt8} (hn : (A ++ B).length ≤ 1000000) (hA : ∀ x ∈ A, ltS (pubI x) (List.ofFn t) = true) (hB : ∀ x ∈ B, ltS (pubI x) (List.ofFn t) = false) :
    M_slices_BinarySearchFunc_ID_v_roster_order (A ++ B) t = some ((A.length : Int), match B with | [] => false | b :: _ => decide (pubI b = List.ofFn t)) := by
  unfold M_slices_BinarySearchFunc_ID_v_roster_order
  have := bsearch_sim hn hA hB (A ++ B).length 0 (A ++ B).length (by omega) (Nat.zero_le _) (by rw [List.length_append]; omega) (Nat.le_refl _)
  rw [show ((0 : Nat) : Int) = 0 from rfl] at this
  rw [this, some_bindP]
  simp only []
  cases B with
  | nil => rw [if_neg (by rw [List.append_nil]; omega)]
  | cons b B =>
    have hk : A.length < (A ++ b :: B).length := by rw [List.length_append, List.length_cons]; omega
    have e : (A ++ b :: B)[A.length] = b := by rw [List.getElem_append_right (Nat.le_refl _)]; simp
    rw [if_pos (by omega), at?_in hk, some_bindP, e, show M_roster_order b t = some () from rfl, some_bindP]
    simp only [bytes_zero]
theorem endAt_in {l : List G_api_Instance} {k : Nat} (h : k < l.length) : endAt l k = endI l[k] := by unfold endAt; rw [List.getElem?_eq_getElem h, Option.map_some, Option.getD_some]
theorem first_sim {l : List G_api_Instance} (hn : l.length ≤ 1000000) : ∀ (d a k : Nat), a < l.length → l.length = k + d →
    loopO (fun z_ => M_roster_first_v_b1 l z_.1 z_.2) ((a : Int), (k : Int)) = some (firstG l d a k : Int) := by
  intro d
  induction d with
  | zero =>
    intro a k h hk
    rw [loopO_end (r := (a : Int)) (by show M_roster_first_v_b1 l (a : Int) (k : Int) = _; unfold M_roster_first_v_b1; rw [if_neg (by omega)])]; rfl
  | succ d ih =>
    intro a k h hk
    have hk' : k < l.length := by omega
    have body : M_roster_first_v_b1 l (a : Int) (k : Int) = some (.inl (((if endAt l k ≤ endAt l a then k else a : Nat) : Int), ((k + 1 : Nat) : Int))) := by
      unfold M_roster_first_v_b1
      rw [if_pos (by omega), at?_in hk', at?_in h, some_bindP, some_bindP, inst_end, inst_end, some_bindP, some_bindP, endAt_in hk', endAt_in h, if_pos (ok_small (by omega))]
      by_cases hc : endI l[k] ≤ endI l[a]
      · rw [if_pos hc, if_pos hc, Int.natCast_add, Int.natCast_one]
      · rw [if_neg hc, if_neg hc, if_pos (ok_small (by omega)), Int.natCast_add, Int.natCast_one]
    rw [loopO_next (s' := (((if endAt l k ≤ endAt l a then k else a : Nat) : Int), ((k + 1 : Nat) : Int))) (by show M_roster_first_v_b1 l (a : Int) (k : Int) = _; rw [body])]
    exact ih _ _ (by split <;> omega) (by omega)
theorem roster_first {l : List G_api_Instance} (hn : l.length ≤ 1000000) (h0 : 0 < l.length) : M_roster_first_v l = some (firstS l : Int) := by
  unfold M_roster_first_v
  have := first_sim hn l.length 0 0 h0 (by omega)
  rw [show ((0 : Nat) : Int) = 0 from rfl] at this
  rw [this, some_bindP]; rfl
theorem copy_room {l : List G_api_Instance} {z : G_api_Instance} : copyL (List.replicate l.length z) 0 (l.take (min l.length (List.replicate l.length z).length)) = l := by
  rw [List.length_replicate, Nat.min_self, List.take_length, copyL_eq (by simp)]
  simp
theorem insert_one {l : List G_api_Instance} {k : Nat} {i : G_api_Instance} (hn : l.length ≤ 1000000) (hk : k ≤ l.length) : M_slices_Insert_Instance_ov l (k : Int) [i] = some (l.take k ++ i :: l.drop k) := by
  unfold M_slices_Insert_Instance_ov
  have e1 : (([i] : List G_api_Instance).length : Int) = 1 := rfl
  have e2 : ([i] : List G_api_Instance).length = 1 := rfl
  rw [if_pos (by omega), e1, if_neg (by decide)]
  by_cases hh : k = l.length
  · rw [if_pos (by omega), e2, if_pos (by omega), hh, List.take_length, List.drop_length]
  · have eN : ((l.length : Int) + 1 - (k : Int)).toNat = l.length + 1 - k := by omega
    have eT : ((k : Int)).toNat = k := rfl
    have eL : (l.take k).length = k := by rw [List.length_take]; omega
    have eR : ∀ z : G_api_Instance, ((l.take k ++ List.replicate (l.length + 1 - k) z).length) = l.length + 1 := by
      intro z; rw [List.length_append, eL, List.length_replicate]; omega
    rw [if_neg (by omega), if_pos (ok_small (by omega)), if_pos (by omega), if_pos (ok_small (by omega)), if_pos (ok_small (by omega)), eT, eL, eN, eR]
    rw [if_pos (by omega), if_pos (by omega), if_pos (ok_small (by omega)), if_pos (by omega), if_pos (by omega)]
    have f1 : ∀ (z : G_api_Instance) (m : Nat), m = l.length + 1 - k → copyL (l.take k ++ List.replicate m z) k ([i].take (min 1 ((l.take k ++ List.replicate m z).drop k).length)) = l.take k ++ [i] ++ List.replicate (l.length - k) z := by
      intro z m hm
      have d1 : ((l.take k ++ List.replicate m z).drop k) = List.replicate m z := by rw [List.drop_append_of_le_length (by omega), List.drop_of_length_le (by omega), List.nil_append]
      rw [d1, List.length_replicate, Nat.min_eq_left (by omega), show [i].take 1 = [i] from rfl, copyL_eq (by rw [List.length_append, eL, List.length_replicate, e2]; omega)]
      rw [List.take_append_of_le_length (by omega), List.take_of_length_le (l := l.take k) (by omega), List.drop_append, eL, List.drop_of_length_le (l := l.take k) (by omega), List.nil_append, List.drop_replicate, e2]
      rw [show m - (k + 1 - k) = l.length - k by omega]
    have f2 : ∀ (z : G_api_Instance), copyL (l.take k ++ [i] ++ List.replicate (l.length - k) z) (k + 1) ((l.drop k).take (min (l.drop k).length ((l.take k ++ [i] ++ List.replicate (l.length - k) z).drop (k + 1)).length)) = l.take k ++ i :: l.drop k := by
      intro z
      have e3 : (l.take k ++ [i]).length = k + 1 := by rw [List.length_append, eL, e2]
      have d1 : ((l.take k ++ [i] ++ List.replicate (l.length - k) z).drop (k + 1)) = List.replicate (l.length - k) z := by rw [List.drop_append_of_le_length (by omega), List.drop_of_length_le (by omega), List.nil_append]
      rw [d1, List.length_replicate, List.length_drop, Nat.min_self, List.take_of_length_le (l := l.drop k) (by rw [List.length_drop]; omega), copyL_eq (by rw [List.length_append, e3, List.length_replicate, List.length_drop]; omega)]
      rw [List.take_append_of_le_length (by omega), List.take_of_length_le (l := l.take k ++ [i]) (by omega), List.drop_of_length_le (l := l.take k ++ [i] ++ List.replicate (l.length - k) z) (by rw [List.length_append, e3, List.length_replicate, List.length_drop]; omega), List.append_nil, List.append_assoc]; rfl
    have eK : ((k : Int) + 1).toNat = k + 1 := by omega
    rw [e2, f1 _ _ rfl, eK, f2]
theorem delete_one {l : List G_api_Instance} {k : Nat} (hn : l.length ≤ 1000000) (hk : k < l.length) : M_slices_Delete_Instance_o l (k : Int) ((k : Int) + 1) = some (l.eraseIdx k) := by
  unfold M_slices_Delete_Instance_o
  have e1 : ((k : Int)).toNat = k := rfl
  have e2 : ((k : Int) + 1).toNat = k + 1 := by omega
  rw [if_pos (by omega), if_neg (by omega), if_pos (by omega), if_pos (by omega), if_pos (by rw [List.length_take, List.length_drop]; omega), e1, e2, ← List.eraseIdx_eq_take_drop_succ]
/-- What a roster's caller gets. -/
def outP (l : List G_api_Instance) : Unit ⊕ (List G_api_Instance × Bool) → List G_api_Instance × Bool
  | .inl () => (l, false)
  | .inr p => p
theorem roster_put {l : List G_api_Instance} {i : G_api_Instance} (hl : ∀ x ∈ l, x.Target.length ≤ 140737488355328) (hn : l.length ≤ 1000000) (hi : i.Target.length ≤ 140737488355328) :
    ∃ o, M_roster_Put_v l i = some o ∧ outP l o = putR l i := by
  unfold M_roster_Put_v putR
  rw [roster_goodR hl hn, some_bindP]
  by_cases hg : GoodR l
  · rw [if_pos (isGoodR_iff.2 hg), inst_good hi, some_bindP]
    by_cases hi2 : goodI i = true
    · rw [if_pos ⟨hg, hi2⟩]
      unfold M_roster_Put_v_k1
      rw [hi2, if_neg (by decide)]
      have hs := sorted_split hg.sorted (pubI i)
      have hA : ∀ x ∈ l.filter (fun x => ltS (pubI x) (pubI i)), ltS (pubI x) (pubI i) = true := fun x hx => (List.mem_filter.1 hx).2
      have hB : ∀ x ∈ l.filter (fun x => !ltS (pubI x) (pubI i)), ltS (pubI x) (pubI i) = false := fun x hx => by simpa using (List.mem_filter.1 hx).2
      generalize l.filter (fun x => ltS (pubI x) (pubI i)) = A at hs hA ⊢
      generalize l.filter (fun x => !ltS (pubI x) (pubI i)) = B at hs hB ⊢
      subst hs
      have hfew := hg.few
      have hsort := hg.sorted
      have hbs := bsearch_split (t := i.Publisher) hn hA hB
      rw [hbs, some_bindP]
      have hk2 : ∀ r : Bool, M_roster_Put_v_k2 i (A ++ B) (A.length : Int) r = if r = true then (at? (A ++ B) (A.length : Int)).bind fun x_2 => some (.inr ((A ++ B).set A.length i, true)) else
          if (A ++ i :: B).length ≤ 16 then some (.inr (A ++ i :: B, true)) else some (.inr ((A ++ i :: B).eraseIdx (firstS (A ++ i :: B)), !decide (firstS (A ++ i :: B) = A.length))) := by
        intro r
        unfold M_roster_Put_v_k2
        rw [if_pos (by omega), copy_room]
        congr 1
        have hw : (A ++ B).take A.length ++ i :: (A ++ B).drop A.length = A ++ i :: B := by rw [List.take_left, List.drop_left]
        have hlen : (A ++ i :: B).length = (A ++ B).length + 1 := by rw [List.length_append, List.length_append, List.length_cons]; omega
        have hf := firstS_lt (l := A ++ i :: B) (by omega)
        rw [insert_one (by omega) (by rw [List.length_append]; omega), some_bindP, hw, roster_first (by omega) (by omega), some_bindP, if_pos (ok_small (by omega)), delete_one (by omega) hf, some_bindP]
        by_cases h16 : (A ++ i :: B).length ≤ 16
        · rw [if_pos (by omega), if_pos h16]
        · rw [if_neg (by omega), if_neg h16]
          have e : decide ((firstS (A ++ i :: B) : Int) = (A.length : Int)) = decide (firstS (A ++ i :: B) = A.length) := decide_eq_decide.2 (by omega)
          rw [e]
      cases B with
      | nil =>
        simp only []
        rw [if_neg (by decide), hk2, if_neg (by decide)]
        have hno : ∀ x ∈ A ++ [], pubI x ≠ pubI i := by
          intro x hx e
          rw [List.append_nil] at hx
          have := hA x hx
          rw [e, ltS_irr] at this; cases this
        have hgn : getR (A ++ []) (pubI i) = none := by
          cases h : getR (A ++ []) (pubI i) with
          | none => rfl
          | some b => obtain ⟨h1, h2⟩ := getR_some h; exact absurd h2 (hno b h1)
        rw [hgn]
        simp only []
        rw [withR_none hA (fun x hx => by cases hx)]
        have hlen : (A ++ i :: ([] : List G_api_Instance)).length = (A ++ ([] : List G_api_Instance)).length + 1 := by rw [List.length_append, List.length_append, List.length_cons]; omega
        by_cases h16 : (A ++ i :: ([] : List G_api_Instance)).length ≤ 16
        · rw [if_pos h16, if_pos (by omega)]; exact ⟨_, rfl, rfl⟩
        · rw [if_neg h16, if_neg (by omega)]; exact ⟨_, rfl, rfl⟩
      | cons b B =>
        have hk : A.length < (A ++ b :: B).length := by rw [List.length_append, List.length_cons]; omega
        have eb : (A ++ b :: B)[A.length] = b := by rw [List.getElem_append_right (Nat.le_refl _)]; simp
        simp only []
        by_cases he : pubI b = pubI i
        · rw [decide_eq_true he]
          simp only [if_true]
          rw [at?_in hk, eb, some_bindP, inst_cmp, some_bindP, hk2, if_pos rfl, at?_in hk, some_bindP]
          have hgs : getR (A ++ b :: B) (pubI i) = some b := by rw [← he]; exact getR_mem hsort (List.mem_append_right _ List.mem_cons_self)
          rw [hgs]
          simp only []
          rw [withR_there hsort he]
          have hset : (A ++ b :: B).set A.length i = A ++ i :: B := by simp
          rw [hset]
          by_cases hc : cmpI i b ≤ 0
          · rw [if_pos hc, if_pos hc]; exact ⟨_, rfl, rfl⟩
          · rw [if_neg hc, if_neg hc]; exact ⟨_, rfl, rfl⟩
        · rw [decide_eq_false he]
          simp only [Bool.false_eq_true, if_false]
          rw [hk2, if_neg (by decide)]
          obtain ⟨s1, s2⟩ := sorted_ne hsort
          have hib : ltS (pubI i) (pubI b) = true := by
            rcases ltS_tri (pubI i) (pubI b) with h | h | h
            · exact h
            · rw [hB b List.mem_cons_self] at h; cases h
            · exact absurd h.symm he
          have hB' : ∀ x ∈ b :: B, ltS (pubI i) (pubI x) = true := by
            intro x hx
            rcases List.mem_cons.1 hx with hx | hx
            · rw [hx]; exact hib
            · exact ltS_trans hib (s2 x hx)
          have hno : ∀ x ∈ A ++ b :: B, pubI x ≠ pubI i := by
            intro x hx e
            rcases List.mem_append.1 hx with hx | hx
            · have := hA x hx; rw [e, ltS_irr] at this; cases this
            · have := hB' x hx; rw [e, ltS_irr] at this; cases this
          have hgn : getR (A ++ b :: B) (pubI i) = none := by
            cases h : getR (A ++ b :: B) (pubI i) with
            | none => rfl
            | some c => obtain ⟨h1, h2⟩ := getR_some h; exact absurd h2 (hno c h1)
          rw [hgn]
          simp only []
          rw [withR_none hA hB']
          have hlen : (A ++ i :: b :: B).length = (A ++ b :: B).length + 1 := by rw [List.length_append, List.length_append, List.length_cons]; omega
          by_cases h16 : (A ++ i :: b :: B).length ≤ 16
          · rw [if_pos h16, if_pos (by omega)]; exact ⟨_, rfl, rfl⟩
          · rw [if_neg h16, if_neg (by omega)]; exact ⟨_, rfl, rfl⟩
    · rw [if_neg (fun h => hi2 h.2)]
      unfold M_roster_Put_v_k1
      rw [show goodI i = false by simpa using hi2, if_pos (show (!false) = true from rfl)]
      exact ⟨_, rfl, rfl⟩
  · rw [if_neg (fun h => hg (isGoodR_iff.1 h)), if_neg (fun h => hg h.1)]
    unfold M_roster_Put_v_k1
    rw [if_pos rfl]
    exact ⟨_, rfl, rfl⟩
theorem good_nil : M_roster_Good_v [] = some true := by
  unfold M_roster_Good_v
  rw [loopO_end (r := .inl ()) (by unfold M_roster_Good_v_b1; rw [if_neg (by decide)]), some_bindP]; rfl
/-! ### the example -/
def ex12 (n : UInt64) : G_api_Instance := G_api_Instance.mk (fun _ => 0) n 0 5 false 0 0 80 [97]
theorem ex_good (n : UInt64) : goodI (ex12 n) = true := by
  have hp : partsS [97] = [[97]] := by decide
  have e : goodI (ex12 n) = goodI (ex12 1) := rfl
  rw [e]
  unfold goodI goodN
  rw [show (ex12 1).Target = [97] from rfl, hp]; decide
theorem ex_list (n : UInt64) : M_roster_Good_v [ex12 n] = some true := by
  unfold M_roster_Good_v
  rw [show (0 : Int) = ((0 : Nat) : Int) from rfl, loopO_next (s' := ((1 : Nat) : Int)) (by
      show M_roster_Good_v_b1 [ex12 n] ((0 : Nat) : Int) = _
      unfold M_roster_Good_v_b1
      rw [if_pos (by simp), show at? [ex12 n] ((0 : Nat) : Int) = some (ex12 n) from rfl, some_bindP, inst_good (show ([97] : List UInt8).length ≤ 140737488355328 by decide), ex_good, some_bindP, if_pos rfl, if_neg (by decide), if_pos (ok_small (by decide))]; rfl),
    loopO_end (r := .inl ()) (by
      show M_roster_Good_v_b1 [ex12 n] ((1 : Nat) : Int) = _
      unfold M_roster_Good_v_b1
      rw [if_neg (by simp)]), some_bindP]
  rfl
theorem put_nil (n : UInt64) : M_roster_Put_v [] (ex12 n) = some (.inr ([ex12 n], true)) := by
  have hb : M_slices_BinarySearchFunc_ID_v_roster_order [] (ex12 n).Publisher = some (0, false) := by
    unfold M_slices_BinarySearchFunc_ID_v_roster_order
    rw [loopO_end (r := 0) (by unfold M_slices_BinarySearchFunc_ID_v_roster_order_b1; rw [if_neg (by decide)]), some_bindP]
    simp only []
    rw [if_neg (by decide)]
  unfold M_roster_Put_v M_roster_Put_v_k1
  rw [good_nil, some_bindP, if_pos rfl, inst_good (show ([97] : List UInt8).length ≤ 140737488355328 by decide), ex_good, some_bindP, if_neg (by decide), hb, some_bindP]
  simp only []
  rw [if_neg (by decide)]
  unfold M_roster_Put_v_k2
  rw [if_pos (by decide), if_neg (by decide)]
  have hc : copyL (List.replicate ([] : List G_api_Instance).length (G_api_Instance.mk (fun _ => 0) 0 0 0 false 0 0 0 ([] : List UInt8))) 0 (([] : List G_api_Instance).take (min ([] : List G_api_Instance).length ((List.replicate ([] : List G_api_Instance).length (G_api_Instance.mk (fun _ => 0) 0 0 0 false 0 0 0 ([] : List UInt8))).length))) = [] := rfl
  rw [hc]
  unfold M_slices_Insert_Instance_ov
  rw [if_pos (by decide), if_neg (by simp), if_pos (show (0 : Int) = ((([] : List G_api_Instance).length : Nat) : Int) from rfl), if_pos (by simp), some_bindP, if_pos (by simp)]
  rfl
theorem cmp_ex : ∃ x, M_inst_Cmp (ex12 2) (ex12 1) = some x ∧ 0 < x := by
  refine ⟨1, ?_, by decide⟩
  unfold M_inst_Cmp
  rw [show M_cmp_Compare_uint64 (ex12 2).Seq (ex12 1).Seq = some 1 by decide, some_bindP, show M_inst_bit (ex12 2).Gone = some 0 from rfl, some_bindP, show M_inst_bit (ex12 1).Gone = some 0 from rfl, some_bindP,
    show M_cmp_Compare_int 0 0 = some 0 by decide, some_bindP, show M_cmp_Compare_uint64 (ex12 2).Born (ex12 1).Born = some 0 by decide, some_bindP, show M_cmp_Compare_uint32 (ex12 2).Life (ex12 1).Life = some 0 by decide, some_bindP,
    show M_bytes_Compare_vv (List.ofFn (ex12 2).Publisher) (List.ofFn (ex12 1).Publisher) = some () from rfl, some_bindP, show M_cmp_Compare_uint16 (ex12 2).Priority (ex12 1).Priority = some 0 by decide, some_bindP,
    show M_cmp_Compare_uint16 (ex12 2).Weight (ex12 1).Weight = some 0 by decide, some_bindP, show M_cmp_Compare_uint16 (ex12 2).Port (ex12 1).Port = some 0 by decide, some_bindP, show M_cmp_Compare_string (ex12 2).Target (ex12 1).Target = some 0 by decide, some_bindP]
  unfold M_cmp_Or_int_v
  rw [loopO_end (r := .inr 1) (by rfl), some_bindP]
  rfl
theorem put_one : M_roster_Put_v [ex12 1] (ex12 2) = some (.inr ([ex12 2], true)) := by
  have hb : M_slices_BinarySearchFunc_ID_v_roster_order [ex12 1] (ex12 2).Publisher = some (0, true) := by
    unfold M_slices_BinarySearchFunc_ID_v_roster_order
    rw [loopO_next (s' := (0, 0)) (by
        show M_slices_BinarySearchFunc_ID_v_roster_order_b1 (ex12 2).Publisher [ex12 1] 0 1 = _
        unfold M_slices_BinarySearchFunc_ID_v_roster_order_b1
        have h0 : (shr64 (UInt64.ofInt (0 + 1)) 1).toNat = 0 := by decide
        rw [if_pos (by decide), if_pos (ok_small (by decide)), h0, if_pos (by decide), show at? [ex12 1] ((0 : Nat) : Int) = some (ex12 1) from rfl, some_bindP, show M_roster_order (ex12 1) (ex12 2).Publisher = some () from rfl, some_bindP,
          show Lib.compareBytes (List.ofFn (ex12 1).Publisher) (List.ofFn (ex12 2).Publisher) = 0 by decide, if_neg (by decide)]; rfl),
      loopO_end (r := 0) (by unfold M_slices_BinarySearchFunc_ID_v_roster_order_b1; rw [if_neg (by decide)]), some_bindP]
    simp only []
    rw [if_pos (by decide), show at? [ex12 1] 0 = some (ex12 1) from rfl, some_bindP, show M_roster_order (ex12 1) (ex12 2).Publisher = some () from rfl, some_bindP, show Lib.compareBytes (List.ofFn (ex12 1).Publisher) (List.ofFn (ex12 2).Publisher) = 0 by decide]
    rfl
  obtain ⟨x, hx, hx0⟩ := cmp_ex
  unfold M_roster_Put_v M_roster_Put_v_k1
  rw [ex_list, some_bindP, if_pos rfl, inst_good (show ([97] : List UInt8).length ≤ 140737488355328 by decide), ex_good, some_bindP, if_neg (by decide), hb, some_bindP]
  simp only [if_true]
  rw [show at? [ex12 1] 0 = some (ex12 1) from rfl, some_bindP, hx, some_bindP, if_neg (by omega)]
  unfold M_roster_Put_v_k2
  rw [if_pos (by simp), if_pos rfl]
  rfl
theorem lives12 : M_signpostlaw12_lives = some true := by
  have e1 : (G_api_Instance.mk (fun _ => 0) 1 0 5 false 0 0 80 ([97] : List UInt8)) = ex12 1 := rfl
  have e2 : (G_api_Instance.mk (fun _ => 0) 2 0 5 false 0 0 80 ([97] : List UInt8)) = ex12 2 := rfl
  unfold M_signpostlaw12_lives
  rw [e1, e2, put_nil, some_bindP]
  simp only []
  rw [put_one, some_bindP]
  simp only [if_true]
  rw [if_pos (show (([ex12 2].length : Nat) : Int) = 1 from rfl), show at? [ex12 2] 0 = some (ex12 2) from rfl, some_bindP, if_pos (show (ex12 2).Target.length ≤ maxLen by decide), if_pos rfl, ex_list, some_bindP]
/-! ### how many publishers there are -/
/-- Those that came, each once. -/
noncomputable def uniqP (l : List (List UInt8)) : List (List UInt8) := l.foldl (fun u p => if p ∈ u then u else u ++ [p]) []
theorem uniqP_snoc (l : List (List UInt8)) (p : List UInt8) : uniqP (l ++ [p]) = if p ∈ uniqP l then uniqP l else uniqP l ++ [p] := by unfold uniqP; rw [List.foldl_append]; rfl
theorem uniqP_mem (l : List (List UInt8)) : ∀ q, q ∈ uniqP l ↔ q ∈ l := by
  have key : ∀ (l u : List (List UInt8)) q, q ∈ l.foldl (fun u p => if p ∈ u then u else u ++ [p]) u ↔ q ∈ u ∨ q ∈ l := by
    intro l
    induction l with
    | nil => intro u q; simp
    | cons p l ih =>
      intro u q
      rw [List.foldl_cons, ih]
      by_cases h : p ∈ u
      · rw [if_pos h, List.mem_cons]
        constructor
        · rintro (h1 | h1)
          · exact .inl h1
          · exact .inr (.inr h1)
        · rintro (h1 | h1 | h1)
          · exact .inl h1
          · exact .inl (h1 ▸ h)
          · exact .inr h1
      · rw [if_neg h, List.mem_append, List.mem_singleton, List.mem_cons]
        constructor
        · rintro ((h1 | h1) | h1)
          · exact .inl h1
          · exact .inr (.inl h1)
          · exact .inr (.inr h1)
        · rintro (h1 | h1 | h1)
          · exact .inl (.inl h1)
          · exact .inl (.inr h1)
          · exact .inr h1
  intro q
  unfold uniqP
  rw [key]; simp
theorem uniqP_len (l : List (List UInt8)) : (uniqP l).length ≤ l.length := by
  have key : ∀ (l u : List (List UInt8)), (l.foldl (fun u p => if p ∈ u then u else u ++ [p]) u).length ≤ u.length + l.length := by
    intro l
    induction l with
    | nil => intro u; simp
    | cons p l ih =>
      intro u
      rw [List.foldl_cons]
      refine Nat.le_trans (ih _) ?_
      rw [List.length_cons]
      split
      · omega
      · rw [List.length_append, List.length_singleton]; omega
  have := key l []
  simpa [uniqP] using this
theorem once_sim {l : List G_api_Instance} {x : G_api_Instance} {k : Nat} (hk : k ≤ l.length) (hn : l.length ≤ 1000000) : ∀ (d j : Nat) (o : Bool), k = j + d →
    loopO (fun z_ => M_signpostlaw12_publishers_v_b2 l (k : Int) x z_.1 z_.2) (o, (j : Int)) = some (o && decide (∀ y ∈ (l.take k).drop j, pubI y ≠ pubI x)) := by
  intro d
  induction d with
  | zero =>
    intro j o h
    rw [loopO_end (r := o) (by
      show M_signpostlaw12_publishers_v_b2 l (k : Int) x o (j : Int) = _
      unfold M_signpostlaw12_publishers_v_b2
      rw [if_neg (by simp only [List.length_take]; omega)]), List.drop_of_length_le (by rw [List.length_take]; omega)]
    simp
  | succ d ih =>
    intro j o h
    have hj : j < (l.take k).length := by rw [List.length_take]; omega
    have ihe := ih (j + 1) (o && decide (pubI (l.take k)[j] ≠ pubI x)) (by omega)
    have body : M_signpostlaw12_publishers_v_b2 l (k : Int) x o (j : Int) = some (.inl (o && decide (pubI (l.take k)[j] ≠ pubI x), ((j + 1 : Nat) : Int))) := by
      unfold M_signpostlaw12_publishers_v_b2
      have e0 : ((k : Int)).toNat = k := rfl
      rw [e0, if_pos (by omega), at?_in hj, some_bindP]
      have e1 : decide ((l.take k)[j].Publisher = x.Publisher) = decide (pubI (l.take k)[j] = pubI x) := decide_eq_decide.2 ⟨fun e => by unfold pubI; rw [e], fun e => ofFn_inj'.1 e⟩
      cases o with
      | true => rw [if_pos rfl, if_pos (ok_small (by omega)), e1, Bool.true_and, decide_not, Int.natCast_add, Int.natCast_one]
      | false => rw [if_neg (by decide), if_pos (ok_small (by omega)), Bool.false_and, Int.natCast_add, Int.natCast_one]
    rw [loopO_next (s' := (o && decide (pubI (l.take k)[j] ≠ pubI x), ((j + 1 : Nat) : Int))) (by show M_signpostlaw12_publishers_v_b2 l (k : Int) x o (j : Int) = _; rw [body]), ihe, List.drop_eq_getElem_cons hj, Bool.and_assoc]
    congr 2
    rw [← Bool.decide_and]
    exact decide_eq_decide.2 (by rw [List.forall_mem_cons])
theorem publishers_sim {l : List G_api_Instance} (hn : l.length ≤ 1000000) : ∀ (d k : Nat), l.length = k + d →
    loopO (fun z_ => M_signpostlaw12_publishers_v_b1 l z_.1 z_.2) (((uniqP ((l.take k).map pubI)).length : Int), (k : Int)) = some ((uniqP (l.map pubI)).length : Int) := by
  intro d
  induction d with
  | zero =>
    intro k h
    rw [List.take_of_length_le (by omega)]
    exact loopO_end (by
      show M_signpostlaw12_publishers_v_b1 l _ (k : Int) = _
      unfold M_signpostlaw12_publishers_v_b1
      rw [if_neg (by omega)])
  | succ d ih =>
    intro k h
    have hk : k < l.length := by omega
    have ho := once_sim (l := l) (x := l[k]) (k := k) (by omega) hn k 0 true (by omega)
    rw [show ((0 : Nat) : Int) = 0 from rfl, Bool.true_and, List.drop_zero] at ho
    have hmap : (l.take (k + 1)).map pubI = (l.take k).map pubI ++ [pubI l[k]] := by rw [List.take_succ_eq_append_getElem hk, List.map_append]; rfl
    have hlen := uniqP_len ((l.take k).map pubI)
    rw [List.length_map, List.length_take] at hlen
    have body : M_signpostlaw12_publishers_v_b1 l ((uniqP ((l.take k).map pubI)).length : Int) (k : Int) = some (.inl (((uniqP ((l.take (k + 1)).map pubI)).length : Int), ((k + 1 : Nat) : Int))) := by
      unfold M_signpostlaw12_publishers_v_b1
      rw [if_pos (by omega), at?_in hk, some_bindP, if_pos (by omega), ho, some_bindP, hmap, uniqP_snoc]
      simp only [decide_eq_true_eq]
      by_cases hh : pubI l[k] ∈ uniqP ((l.take k).map pubI)
      · have hno : ¬ ∀ y ∈ l.take k, pubI y ≠ pubI l[k] := by
          intro hc
          obtain ⟨y, hy, e⟩ := List.mem_map.1 ((uniqP_mem _ _).1 hh)
          exact hc y hy e
        rw [if_neg hno, if_pos hh, if_pos (ok_small (by omega)), Int.natCast_add, Int.natCast_one]
      · have hyes : ∀ y ∈ l.take k, pubI y ≠ pubI l[k] := fun y hy e => hh ((uniqP_mem _ _).2 (List.mem_map.2 ⟨y, hy, e⟩))
        rw [if_pos hyes, if_neg hh, if_pos (ok_small (by omega)), if_pos (ok_small (by omega)), List.length_append, List.length_singleton, Int.natCast_add, Int.natCast_add, Int.natCast_one]
    rw [loopO_next (s' := (((uniqP ((l.take (k + 1)).map pubI)).length : Int), ((k + 1 : Nat) : Int))) (by show M_signpostlaw12_publishers_v_b1 l _ (k : Int) = _; rw [body])]
    exact ih (k + 1) (by omega)
theorem publishers_uniq {l : List G_api_Instance} (hn : l.length ≤ 1000000) : M_signpostlaw12_publishers_v l = some ((uniqP (l.map pubI)).length : Int) := by
  unfold M_signpostlaw12_publishers_v
  have := publishers_sim hn l.length 0 (by omega)
  rw [show ((0 : Nat) : Int) = 0 from rfl, show (((uniqP ((l.take 0).map pubI)).length : Nat) : Int) = 0 from rfl] at this
  rw [this, some_bindP]
/-! ### what a roster has, and what is light -/
theorem light12 {l : List G_api_Instance} (hn : l.length ≤ 4611686018427387903) : ∃ b, M_signpostlaw12_Light_v l = some b ∧ (b = true → (∀ x ∈ l, x.Target.length ≤ 300) ∧ l.length ≤ 40) := by
  have key : ∀ (d k : Nat), l.length = k + d → ∃ r, loopO (fun z_ => M_signpostlaw12_Light_v_b1 l z_) (k : Int) = some r ∧ ((r = .inl () ∧ ∀ x ∈ l.drop k, x.Target.length ≤ 300) ∨ r = .inr false) := by
    intro d
    induction d with
    | zero =>
      intro k h
      refine ⟨.inl (), loopO_end (by unfold M_signpostlaw12_Light_v_b1; rw [if_neg (by omega)]), .inl ⟨rfl, ?_⟩⟩
      rw [List.drop_of_length_le (by omega)]
      exact fun x hx => absurd hx List.not_mem_nil
    | succ d ih =>
      intro k h
      have hk : k < l.length := by omega
      by_cases hx : (300 : Int) < (l[k].Target.length : Int)
      · exact ⟨.inr false, loopO_end (by
          show M_signpostlaw12_Light_v_b1 l (k : Int) = _
          unfold M_signpostlaw12_Light_v_b1
          rw [if_pos (by omega), at?_in hk, some_bindP, if_pos hx]), .inr rfl⟩
      · obtain ⟨r, h1, h2⟩ := ih (k + 1) (by omega)
        refine ⟨r, ?_, ?_⟩
        · rw [loopO_next (s' := ((k + 1 : Nat) : Int)) (by
            show M_signpostlaw12_Light_v_b1 l (k : Int) = _
            unfold M_signpostlaw12_Light_v_b1
            rw [if_pos (by omega), at?_in hk, some_bindP, if_neg hx, if_pos (ok_small (by omega)), Int.natCast_add, Int.natCast_one])]
          exact h1
        · rcases h2 with ⟨e, h2⟩ | e
          · refine .inl ⟨e, ?_⟩
            rw [List.drop_eq_getElem_cons hk]
            intro x hxm
            rcases List.mem_cons.1 hxm with hxm | hxm
            · rw [hxm]; omega
            · exact h2 x hxm
          · exact .inr e
  obtain ⟨r, h1, h2⟩ := key l.length 0 (by omega)
  rw [show ((0 : Nat) : Int) = 0 from rfl] at h1
  unfold M_signpostlaw12_Light_v
  rw [h1, some_bindP]
  rcases h2 with ⟨rfl, h2⟩ | rfl
  · refine ⟨decide ((l.length : Int) ≤ 40), rfl, fun h => ?_⟩
    rw [List.drop_zero] at h2
    have := of_decide_eq_true h
    exact ⟨h2, by omega⟩
  · exact ⟨false, rfl, fun h => by cases h⟩
/-! ### rosters that are merged -/
noncomputable def mergeR (a b : List G_api_Instance) : List G_api_Instance := b.foldl (fun r i => (putR r i).1) a
theorem mergeR_good {a : List G_api_Instance} (h : GoodR a) : ∀ b : List G_api_Instance, GoodR (mergeR a b) := by
  intro b
  unfold mergeR
  induction b generalizing a with
  | nil => exact h
  | cons i b ih => exact ih (putR_good h i)
theorem mergeR_rep {D : List (List UInt8)} (hD : D.length ≤ 16) : ∀ (b a : List G_api_Instance) (S : G_api_Instance → Prop), GoodR a → (∀ i ∈ b, goodI i = true) → Rep a S → (∀ x, S x ∨ x ∈ b → pubI x ∈ D) → Rep (mergeR a b) (fun y => S y ∨ y ∈ b) := by
  intro b
  induction b with
  | nil => intro a S ha _ hr _; exact rep_congr hr fun x => ⟨fun h => .inl h, fun h => h.elim id fun h => absurd h List.not_mem_nil⟩
  | cons i b ih =>
    intro a S ha hg hr hd
    have hroom := rep_room (i := i) (D := D) ha hr (fun x hx => hd x (hx.elim .inl fun e => .inr (e ▸ List.mem_cons_self))) hD
    have h1 := rep_put ha (hg i List.mem_cons_self) hr hroom
    have h2 := ih (putR a i).1 _ (putR_good ha i) (fun j hj => hg j (List.mem_cons_of_mem _ hj)) h1 (fun x hx => by
      rcases hx with (hx | hx) | hx
      · exact hd x (.inl hx)
      · exact hd x (.inr (hx ▸ List.mem_cons_self))
      · exact hd x (.inr (List.mem_cons_of_mem _ hx)))
    refine rep_congr h2 fun x => ?_
    rw [List.mem_cons]
    constructor
    · rintro ((h | h) | h)
      · exact .inl h
      · exact .inr (.inl h)
      · exact .inr (.inr h)
    · rintro (h | h | h)
      · exact .inl (.inl h)
      · exact .inl (.inr h)
      · exact .inr h
theorem rep_of {L Z : List G_api_Instance} {S T : G_api_Instance → Prop} (h : Rep L (fun y => S y ∨ y ∈ Z)) (k : Rep Z T) : Rep L (fun y => S y ∨ T y) := by
  refine Rep.mk (fun x => (h.top x).trans ⟨fun ht => ⟨?_, ?_⟩, fun ht => ⟨?_, ?_⟩⟩) ?_
  · rcases ht.1 with h1 | h1
    · exact .inl h1
    · exact .inr ((k.top x).1 h1).1
  · rintro y (hy | hy) e
    · exact ht.2 y (.inl hy) e
    · obtain ⟨z, hz, e2⟩ := k.all y hy
      exact cmpI_trans (((k.top z).1 hz).2 y hy e2.symm) (ht.2 z (.inr hz) (e2.trans e))
  · rcases ht.1 with h1 | h1
    · exact .inl h1
    · exact .inr ((k.top x).2 ⟨h1, fun y hy e => ht.2 y (.inr hy) e⟩)
  · rintro y (hy | hy) e
    · exact ht.2 y (.inl hy) e
    · exact ht.2 y (.inr ((k.top y).1 hy).1) e
  · rintro y (hy | hy)
    · exact h.all y (.inl hy)
    · obtain ⟨z, hz, e⟩ := k.all y hy
      obtain ⟨x, hx, e2⟩ := h.all z (.inr hz)
      exact ⟨x, hx, e2.trans e⟩
/-! ### what the program tells -/
def outM (l : List G_api_Instance) : Unit ⊕ List G_api_Instance → List G_api_Instance
  | .inl () => l
  | .inr p => p
theorem merge_own {a b : List G_api_Instance} (hb : ∀ x ∈ b, x.Target.length ≤ 140737488355328) (hn : b.length ≤ 1000000) : ∀ (d k : Nat) (r : List G_api_Instance), b.length = k + d → GoodR r →
    loopO (fun (z_ : Int ⊕ List G_api_Instance × Int) => match z_ with | .inl z_ => M_roster_Merge_vv_b2 a b z_ | .inr z_ => M_roster_Merge_vv_b3 b z_.1 z_.2) (.inr (r, (k : Int))) = some (.inr (mergeR r (b.drop k))) := by
  intro d
  induction d with
  | zero =>
    intro k r h _
    rw [List.drop_of_length_le (by omega)]
    exact loopO_end (by
      show M_roster_Merge_vv_b3 b r (k : Int) = _
      unfold M_roster_Merge_vv_b3
      rw [if_neg (by omega)]; rfl)
  | succ d ih =>
    intro k r h hr
    have hk : k < b.length := by omega
    have hfew := hr.few
    obtain ⟨o, h1, h2⟩ := roster_put (l := r) (i := b[k]) (goodR_len hr) (by omega) (hb _ (List.getElem_mem hk))
    rw [List.drop_eq_getElem_cons hk, show mergeR r (b[k] :: b.drop (k + 1)) = mergeR (putR r b[k]).1 (b.drop (k + 1)) from rfl]
    rw [loopO_next (s' := .inr ((putR r b[k]).1, ((k + 1 : Nat) : Int))) (by
      show M_roster_Merge_vv_b3 b r (k : Int) = _
      unfold M_roster_Merge_vv_b3
      rw [if_pos (by omega), at?_in hk, some_bindP, h1, some_bindP, ← h2]
      rcases o with ⟨⟩ | ⟨r3, r4⟩
      · simp only []
        rw [if_pos (ok_small (by omega)), Int.natCast_add, Int.natCast_one]; rfl
      · simp only []
        rw [if_pos (ok_small (by omega)), Int.natCast_add, Int.natCast_one]; rfl)]
    exact ih (k + 1) _ (by omega) (putR_good hr _)
theorem merge_seen {a b : List G_api_Instance} (ha : GoodR a) (hb : ∀ x ∈ b, x.Target.length ≤ 140737488355328) (hn : b.length ≤ 1000000) : ∀ (d k : Nat), b.length = k + d →
    ∃ o, loopO (fun (z_ : Int ⊕ List G_api_Instance × Int) => match z_ with | .inl z_ => M_roster_Merge_vv_b2 a b z_ | .inr z_ => M_roster_Merge_vv_b3 b z_.1 z_.2) (.inl (k : Int)) = some o ∧ outM a o = mergeR a (b.drop k) := by
  intro d
  induction d with
  | zero =>
    intro k h
    refine ⟨.inl (), loopO_end (by
      show M_roster_Merge_vv_b2 a b (k : Int) = _
      unfold M_roster_Merge_vv_b2
      rw [if_neg (by omega)]), ?_⟩
    rw [List.drop_of_length_le (by omega)]; rfl
  | succ d ih =>
    intro k h
    have hk : k < b.length := by omega
    have hfew := ha.few
    obtain ⟨o, h1, h2⟩ := roster_put (l := a) (i := b[k]) (goodR_len ha) (by omega) (hb _ (List.getElem_mem hk))
    rw [List.drop_eq_getElem_cons hk, show mergeR a (b[k] :: b.drop (k + 1)) = mergeR (putR a b[k]).1 (b.drop (k + 1)) from rfl]
    rcases o with ⟨⟩ | ⟨r3, r4⟩
    · obtain ⟨o2, h3, h4⟩ := ih (k + 1) (by omega)
      refine ⟨o2, ?_, ?_⟩
      · rw [loopO_next (s' := .inl ((k + 1 : Nat) : Int)) (by
          show M_roster_Merge_vv_b2 a b (k : Int) = _
          unfold M_roster_Merge_vv_b2
          rw [if_pos (by omega), at?_in hk, some_bindP, h1, some_bindP]
          simp only []
          rw [if_pos (ok_small (by omega)), Int.natCast_add, Int.natCast_one])]
        exact h3
      · rw [← h2]; exact h4
    · refine ⟨.inr (mergeR r3 (b.drop (k + 1))), ?_, ?_⟩
      · have hg : GoodR r3 := by have := putR_good ha b[k]; rw [← h2] at this; exact this
        rw [loopO_next (s' := .inr (r3, ((k + 1 : Nat) : Int))) (by
          show M_roster_Merge_vv_b2 a b (k : Int) = _
          unfold M_roster_Merge_vv_b2
          rw [if_pos (by omega), at?_in hk, some_bindP, h1, some_bindP]
          simp only []
          rw [if_pos (ok_small (by omega)), Int.natCast_add, Int.natCast_one])]
        exact merge_own hb hn d (k + 1) r3 (by omega) hg
      · rw [← h2]; rfl
theorem roster_merge {a b : List G_api_Instance} (ha : GoodR a) (hb : GoodR b) : ∃ o, M_roster_Merge_vv a b = some o ∧ outM a o = mergeR a b := by
  have h1 := ha.few
  have h2 := hb.few
  obtain ⟨o, h3, h4⟩ := merge_seen ha (goodR_len hb) (by omega) b.length 0 (by omega)
  rw [show ((0 : Nat) : Int) = 0 from rfl] at h3
  rw [List.drop_zero] at h4
  unfold M_roster_Merge_vv M_roster_Merge_vv_k1
  rw [roster_goodR (goodR_len ha) (by omega), isGoodR_iff.2 ha, some_bindP, if_pos rfl, roster_goodR (goodR_len hb) (by omega), isGoodR_iff.2 hb, some_bindP, if_neg (by decide)]
  generalize hX : loopO (ρ := Unit ⊕ List G_api_Instance) _ _ = X
  obtain rfl : X = some o := hX.symm.trans h3
  rw [some_bindP]
  rcases o with ⟨⟩ | r
  · exact ⟨_, rfl, h4⟩
  · exact ⟨_, rfl, h4⟩
theorem merge_2 : ∀ a, M_roster_Merge_vv_2 a = M_roster_Merge_vv a a := fun _ => rfl
theorem roster_same {l : List G_api_Instance} (h : GoodR l) : M_roster_Same_vv_2 l l = some true ∧ M_roster_Same_vv l = some () := by
  have hfew := h.few
  have hm : ∀ k (hk : k < l.length), l[k].Target.length ≤ maxLen := fun k hk => by have := goodI_len (h.good _ (List.getElem_mem hk)); simp only [maxLen]; omega
  have k1 : ∀ (d k : Nat), l.length = k + d → loopO (fun z_ => M_slices_Equal_Instance_vv_2_b1 l l z_) (k : Int) = some (.inl ()) := by
    intro d
    induction d with
    | zero => intro k h; exact loopO_end (by unfold M_slices_Equal_Instance_vv_2_b1; rw [if_neg (by omega)])
    | succ d ih =>
      intro k h
      have hk : k < l.length := by omega
      rw [loopO_next (s' := ((k + 1 : Nat) : Int)) (by
        show M_slices_Equal_Instance_vv_2_b1 l l (k : Int) = _
        unfold M_slices_Equal_Instance_vv_2_b1
        rw [if_pos (by omega), at?_in hk, some_bindP, some_bindP, if_pos (hm k hk), if_pos (hm k hk), if_pos rfl, if_pos (ok_small (by omega)), Int.natCast_add, Int.natCast_one])]
      exact ih (k + 1) (by omega)
  have k2 : ∀ (d k : Nat), l.length = k + d → loopO (fun z_ => M_slices_Equal_Instance_vv_b1 l z_) (k : Int) = some () := by
    intro d
    induction d with
    | zero => intro k h; exact loopO_end (by unfold M_slices_Equal_Instance_vv_b1; rw [if_neg (by omega)])
    | succ d ih =>
      intro k h
      have hk : k < l.length := by omega
      rw [loopO_next (s' := ((k + 1 : Nat) : Int)) (by
        show M_slices_Equal_Instance_vv_b1 l (k : Int) = _
        unfold M_slices_Equal_Instance_vv_b1
        rw [if_pos (by omega), at?_in hk, some_bindP, if_pos (hm k hk), if_pos (hm k hk), if_pos (ok_small (by omega)), Int.natCast_add, Int.natCast_one])]
      exact ih (k + 1) (by omega)
  have r1 := k1 l.length 0 (by omega)
  have r2 := k2 l.length 0 (by omega)
  rw [show ((0 : Nat) : Int) = 0 from rfl] at r1 r2
  constructor
  · unfold M_roster_Same_vv_2 M_slices_Equal_Instance_vv_2
    rw [if_pos rfl, r1, some_bindP]; rfl
  · unfold M_roster_Same_vv M_slices_Equal_Instance_vv
    rw [r2, some_bindP]; rfl
/-! ### the statement -/
theorem merges_k2 {a b c : List G_api_Instance} {n : Int} {o1 o2 o3 o4 : Unit ⊕ List G_api_Instance} (hl : a.length ≤ 100 ∧ b.length ≤ 100 ∧ c.length ≤ 100) (hp : M_signpostlaw12_publishers_v (a ++ b ++ c) = some n)
    (h : n ≤ 16 → M_roster_Merge_vv a b = some (.inl ()) ∧ M_roster_Merge_vv b a = some o1 ∧ M_roster_Merge_vv a c = some o2 ∧ M_roster_Merge_vv b c = some o3 ∧ M_roster_Merge_vv a (outM b o3) = some o4 ∧
      M_roster_Same_vv_2 a (outM b o1) = some true ∧ M_roster_Same_vv_2 (outM a o2) (outM a o4) = some true ∧ M_roster_Same_vv a = some ()) : M_signpostlaw12_RosterMerges_vvv_k2 a b c = some true := by
  unfold M_signpostlaw12_RosterMerges_vvv_k2
  rw [List.nil_append, if_pos (by omega), if_pos (by omega), if_pos (by simp only [List.length_append]; omega), hp, some_bindP]
  by_cases hn : 16 < n
  · rw [if_pos hn, lives12, some_bindP]
  · obtain ⟨h0, h1, h2, h3, h4, hs1, hs2, hself⟩ := h (by omega)
    rw [if_neg hn, h0, h1, h2, h3]
    rcases o1 with ⟨⟩ | x1 <;> rcases o2 with ⟨⟩ | x2 <;> rcases o3 with ⟨⟩ | x3 <;> rcases o4 with ⟨⟩ | x4 <;> dsimp only [outM] at h4 hs1 hs2 <;> (try (rw [h0] at h4; cases h4; done)) <;> simp only [some_bindP, h4, hs1, hs2, hself, lives12, if_true]
theorem merges_k3 {a b c r : List G_api_Instance} {n : Int} {o1 o2 o3 o4 o5 : Unit ⊕ List G_api_Instance} (hl : a.length ≤ 100 ∧ b.length ≤ 100 ∧ c.length ≤ 100) (hp : M_signpostlaw12_publishers_v (a ++ b ++ c) = some n)
    (h : n ≤ 16 → M_roster_Merge_vv b a = some o1 ∧ M_roster_Merge_vv r c = some o2 ∧ M_roster_Merge_vv b c = some o3 ∧ M_roster_Merge_vv a (outM b o3) = some o4 ∧ M_roster_Merge_vv r b = some o5 ∧
      M_roster_Same_vv_2 r (outM b o1) = some true ∧ M_roster_Same_vv_2 (outM r o2) (outM a o4) = some true ∧ M_roster_Same_vv_2 (outM r o5) r = some true ∧ M_roster_Same_vv r = some ()) : M_signpostlaw12_RosterMerges_vvv_k3 a b c r = some true := by
  unfold M_signpostlaw12_RosterMerges_vvv_k3
  rw [List.nil_append, if_pos (by omega), if_pos (by omega), if_pos (by simp only [List.length_append]; omega), hp, some_bindP]
  by_cases hn : 16 < n
  · rw [if_pos hn, lives12, some_bindP]
  · obtain ⟨h1, h2, h3, h4, h5, hs1, hs2, hs3, hself⟩ := h (by omega)
    rw [if_neg hn, h1, h2, h3, h5]
    rcases o1 with ⟨⟩ | x1 <;> rcases o2 with ⟨⟩ | x2 <;> rcases o3 with ⟨⟩ | x3 <;> rcases o4 with ⟨⟩ | x4 <;> rcases o5 with ⟨⟩ | x5 <;> dsimp only [outM] at h4 hs1 hs2 hs3 <;> simp only [some_bindP, h4, hs1, hs2, hs3, hself, lives12, if_true]
theorem merges_k1 {a b c : List G_api_Instance} (ha : GoodR a) (hb : GoodR b) (hc : GoodR c) : M_signpostlaw12_RosterMerges_vvv_k1 a b c false = some true := by
  have la := ha.few
  have lb := hb.few
  have lc := hc.few
  have gX := mergeR_good ha b
  obtain ⟨o0, h0, e0⟩ := roster_merge ha hb
  obtain ⟨o1, h1, e1⟩ := roster_merge hb ha
  obtain ⟨o2, h2, e2⟩ := roster_merge gX hc
  obtain ⟨o3, h3, e3⟩ := roster_merge hb hc
  obtain ⟨o4, h4, e4⟩ := roster_merge ha (mergeR_good hb c)
  obtain ⟨o5, h5, e5⟩ := roster_merge gX hb
  obtain ⟨o6, h6, e6⟩ := roster_merge ha ha
  have ra := rep_self ha.sorted
  have rb := rep_self hb.sorted
  have haa : mergeR a a = a := by
    have hr := mergeR_rep (D := a.map pubI) (by rw [List.length_map]; exact la) a a _ ha ha.good ra (fun x hx => List.mem_map.2 ⟨x, hx.elim id id, rfl⟩)
    exact rep_ext (mergeR_good ha a) ha hr ra fun x => ⟨fun h => h.elim id id, .inl⟩
  have hpub := publishers_uniq (l := a ++ b ++ c) (by simp only [List.length_append]; omega)
  have main : ((uniqP ((a ++ b ++ c).map pubI)).length : Int) ≤ 16 → mergeR b a = mergeR a b ∧ mergeR a (mergeR b c) = mergeR (mergeR a b) c ∧ mergeR (mergeR a b) b = mergeR a b := by
    intro hD0
    have hD : (uniqP ((a ++ b ++ c).map pubI)).length ≤ 16 := by omega
    have hin : ∀ x, x ∈ a ∨ x ∈ b ∨ x ∈ c → pubI x ∈ uniqP ((a ++ b ++ c).map pubI) := fun x hx => by
      rw [uniqP_mem]
      refine List.mem_map.2 ⟨x, ?_, rfl⟩
      rw [List.mem_append, List.mem_append]
      rcases hx with hx | hx | hx
      · exact .inl (.inl hx)
      · exact .inl (.inr hx)
      · exact .inr hx
    have rX := mergeR_rep hD b a _ ha hb.good ra (fun x hx => hin x (hx.elim .inl fun h => .inr (.inl h)))
    have rBA := mergeR_rep hD a b _ hb ha.good rb (fun x hx => hin x (hx.elim (fun h => .inr (.inl h)) .inl))
    have rY := mergeR_rep hD c _ _ gX hc.good rX (fun x hx => hin x (by
      rcases hx with (h | h) | h
      · exact .inl h
      · exact .inr (.inl h)
      · exact .inr (.inr h)))
    have rZ := mergeR_rep hD c b _ hb hc.good rb (fun x hx => hin x (.inr hx))
    have rW := mergeR_rep hD (mergeR b c) a _ ha (mergeR_good hb c).good ra (fun x hx => hin x (by
      rcases hx with h | h
      · exact .inl h
      · exact .inr ((rZ.top x).1 h).1))
    have rV := mergeR_rep hD b _ _ gX hb.good rX (fun x hx => hin x (by
      rcases hx with (h | h) | h
      · exact .inl h
      · exact .inr (.inl h)
      · exact .inr (.inl h)))
    refine ⟨rep_ext (mergeR_good hb a) gX rBA rX fun x => or_comm, rep_ext (mergeR_good ha _) (mergeR_good gX c) (rep_of rW rZ) rY fun x => or_assoc.symm, rep_ext (mergeR_good gX b) gX rV rX fun x => ?_⟩
    constructor
    · rintro (h | h)
      · exact h
      · exact .inr h
    · exact .inl
  unfold M_signpostlaw12_RosterMerges_vvv_k1
  rw [if_neg (by decide), merge_2, h0, h6, some_bindP, some_bindP]
  have hs6 : M_roster_Same_vv_2 (outM a o6) a = some true := by rw [e6, haa]; exact (roster_same ha).1
  have e3' : mergeR b c = outM b o3 := e3.symm
  rcases o0 with ⟨⟩ | r
  · have eX : a = mergeR a b := e0
    have hk : M_signpostlaw12_RosterMerges_vvv_k2 a b c = some true := by
      refine merges_k2 (o1 := o1) (o2 := o2) (o3 := o3) (o4 := o4) ⟨by omega, by omega, by omega⟩ hpub fun hD => ?_
      obtain ⟨m1, m2, m3⟩ := main hD
      rw [← eX] at h2 e2 m1 m2
      rw [e3'] at h4 e4 m2
      refine ⟨h0, h1, h2, h3, h4, ?_, ?_, (roster_same ha).2⟩
      · rw [e1, m1]; exact (roster_same ha).1
      · rw [e2, e4, m2]; exact (roster_same (mergeR_good ha c)).1
    simp only []
    rw [roster_goodR (goodR_len ha) (by omega), isGoodR_iff.2 ha, some_bindP, if_pos rfl]
    rcases o6 with ⟨⟩ | r6
    · try simp only []
      rw [(roster_same ha).2, some_bindP]; exact hk
    · try simp only []
      rw [show M_roster_Same_vv_2 r6 a = some true from hs6, some_bindP, if_pos rfl]; exact hk
  · have eX : r = mergeR a b := e0
    have hr : GoodR r := by rw [eX]; exact gX
    have lr := hr.few
    have hk : M_signpostlaw12_RosterMerges_vvv_k3 a b c r = some true := by
      refine merges_k3 (o1 := o1) (o2 := o2) (o3 := o3) (o4 := o4) (o5 := o5) ⟨by omega, by omega, by omega⟩ hpub fun hD => ?_
      obtain ⟨m1, m2, m3⟩ := main hD
      rw [← eX] at h2 e2 h5 e5 m1 m2 m3
      rw [e3'] at h4 e4 m2
      refine ⟨h1, h2, h3, h4, h5, ?_, ?_, ?_, (roster_same hr).2⟩
      · rw [e1, m1]; exact (roster_same hr).1
      · rw [e2, e4, m2]; exact (roster_same (mergeR_good hr c)).1
      · rw [e5, m3]; exact (roster_same hr).1
    simp only []
    rw [roster_goodR (goodR_len hr) (by omega), isGoodR_iff.2 hr, some_bindP, if_pos rfl]
    rcases o6 with ⟨⟩ | r6
    · try simp only []
      rw [(roster_same ha).2, some_bindP]; exact hk
    · rw [some_bindP]
      simp only []
      rw [show M_roster_Same_vv_2 r6 a = some true from hs6, some_bindP, if_pos rfl]; exact hk
theorem pure_RosterMerges (a2 : List G_api_Instance) (b : List G_api_Instance) (c4 : List G_api_Instance) (hl_a2 : a2.length * 72 ≤ 140737488351232) (wf_a2 : ∀ x ∈ a2, G_api_Instance_wf x) (hl_b : b.length * 72 ≤ 140737488351232) (wf_b : ∀ x ∈ b, G_api_Instance_wf x) (hl_c4 : c4.length * 72 ≤ 140737488351232) (wf_c4 : ∀ x ∈ c4, G_api_Instance_wf x) : M_signpostlaw12_RosterMerges_vvv a2 b c4 = some true := by
  have ht : M_signpostlaw12_RosterMerges_vvv_k1 a2 b c4 true = some true := by
    unfold M_signpostlaw12_RosterMerges_vvv_k1
    rw [if_pos rfl, lives12, some_bindP]
  obtain ⟨x1, h1, k1⟩ := light12 (l := a2) (by omega)
  obtain ⟨x2, h2, k2⟩ := light12 (l := b) (by omega)
  obtain ⟨x3, h3, k3⟩ := light12 (l := c4) (by omega)
  unfold M_signpostlaw12_RosterMerges_vvv
  rw [h1, h2, h3, some_bindP]
  by_cases c1 : x1 = true
  · rw [if_pos c1, some_bindP]
    by_cases c2 : x2 = true
    · rw [if_pos c2, some_bindP]
      by_cases c3 : x3 = true
      · obtain ⟨p1, q1⟩ := k1 c1
        obtain ⟨p2, q2⟩ := k2 c2
        obtain ⟨p3, q3⟩ := k3 c3
        rw [if_pos c3, roster_goodR (fun x hx => by have := p1 x hx; omega) (by omega), roster_goodR (fun x hx => by have := p2 x hx; omega) (by omega), roster_goodR (fun x hx => by have := p3 x hx; omega) (by omega), some_bindP]
        by_cases g1 : isGoodR a2 = true
        · rw [if_pos g1, some_bindP]
          by_cases g2 : isGoodR b = true
          · rw [if_pos g2, some_bindP]
            by_cases g3 : isGoodR c4 = true
            · rw [g3]
              exact merges_k1 (isGoodR_iff.1 g1) (isGoodR_iff.1 g2) (isGoodR_iff.1 g3)
            · rw [show isGoodR c4 = false by simpa using g3]; exact ht
          · rw [if_neg g2, ht]
        · rw [if_neg g1, ht]
      · rw [if_neg c3, ht]
    · rw [if_neg c2, ht]
  · rw [if_neg c1, ht]
end Go.Proofs.Ytmjcemhojhbijaa
