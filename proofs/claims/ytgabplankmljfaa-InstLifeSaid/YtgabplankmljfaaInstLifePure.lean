/-
  What the functions that the statement InstLife reaches compute, as plain laws; and the statement about them. No condition.
-/
import Derived.Test.YtgabplankmljfaaInstLifeMod
import Derived.Test.YtgabplankmljfaaBPure
namespace Go.Proofs.Ytgabplankmljfaa
open Go Go.RowKit
set_option linter.unusedVariables false
set_option linter.unusedSimpArgs false
/-! ### names -/
theorem idx_lt : ∀ (l : List UInt8) (c : UInt8), -1 ≤ Lib.indexByte l c ∧ (0 ≤ Lib.indexByte l c → Lib.indexByte l c < l.length)
  | [], c => by simp [Lib.indexByte]
  | b :: l, c => by
    have h := idx_lt l c
    unfold Lib.indexByte
    simp only [List.length_cons]
    split
    · omega
    · split
      · omega
      · rename_i h1 h2
        simp only [beq_iff_eq] at h2
        omega
/-- A text cut at its first point. -/
def cutS (s : List UInt8) : List UInt8 × List UInt8 × Bool := if 0 ≤ Lib.indexByte s 46 then (s.take (Lib.indexByte s 46).toNat, s.drop (Lib.indexByte s 46 + 1).toNat, true) else (s, [], false)
theorem label_cut {s : List UInt8} (hs : s.length ≤ 4611686018427387904) : M_strings_Cut s = some (cutS s) := by
  have hi : M_stringslite_Index s = some (Lib.indexByte s 46) := by
    unfold M_stringslite_Index
    by_cases h : [46] = s
    · rw [if_pos h, ← h]; rfl
    · rw [if_neg h]; rfl
  have hb := idx_lt s 46
  unfold M_strings_Cut M_stringslite_Cut cutS
  rw [hi, Option.bind_some]
  by_cases h : 0 ≤ Lib.indexByte s 46
  · rw [if_pos h, if_pos (by omega), if_pos (ok_small (by omega)), if_pos (by omega), if_pos h]; rfl
  · rw [if_neg h, if_neg h]; rfl
/-- The texts between points. -/
def partsF : Nat → List UInt8 → List (List UInt8)
  | 0, s => [s]
  | n + 1, s => if (cutS s).2.2 = true then (cutS s).1 :: partsF n (cutS s).2.1 else [s]
def partsS (s : List UInt8) : List (List UInt8) := partsF s.length s
theorem cutS_len (s : List UInt8) : (cutS s).1.length ≤ s.length ∧ ((cutS s).2.2 = true → (cutS s).2.1.length < s.length) ∧ ((cutS s).2.2 = false → (cutS s).1 = s) := by
  have hb := idx_lt s 46
  unfold cutS
  split
  · refine ⟨by simp only [List.length_take]; omega, fun _ => ?_, fun h => (by cases h)⟩
    simp only [List.length_drop]; omega
  · exact ⟨Nat.le_refl _, (fun h => by cases h), fun _ => rfl⟩
theorem parts_loop {σ ρ : Type} {f : σ → List UInt8 → Option (σ ⊕ ρ)} : ∀ (n : Nat) (s : List UInt8) (z : σ), s.length ≤ n → s.length ≤ 4611686018427387904 →
    loopO (fun z_ => M_label_parts_1_p_b1 f z_.1 z_.2) (z, s) = rangeO f (partsF n s) z := by
  have hb : ∀ (s : List UInt8) (z : σ), s.length ≤ 4611686018427387904 → M_label_parts_1_p_b1 f z s = (f z (cutS s).1).bind fun y => match y with
      | .inl z2 => if (cutS s).2.2 = true then some (.inl (z2, (cutS s).2.1)) else some (.inr (.inl z2))
      | .inr x => some (.inr (.inr x)) := by
    intro s z hs
    unfold M_label_parts_1_p_b1
    rw [label_cut hs, Option.bind_some]
    rfl
  intro n
  induction n with
  | zero =>
    intro s z hn hs
    obtain ⟨h1, h2, h3⟩ := cutS_len s
    have hc : (cutS s).2.2 = false := by
      cases h : (cutS s).2.2 with
      | false => rfl
      | true => have := h2 h; omega
    have hb1 := hb s z hs
    rw [hc, h3 hc] at hb1
    simp only [partsF, rangeO]
    cases hf : f z s with
    | none =>
      rw [hf] at hb1
      exact loopO_none hb1
    | some y =>
      rw [hf] at hb1
      cases y with
      | inl z2 => exact loopO_end hb1
      | inr x => exact loopO_end hb1
  | succ n ih =>
    intro s z hn hs
    obtain ⟨h1, h2, h3⟩ := cutS_len s
    have hb1 := hb s z hs
    unfold partsF
    cases hc : (cutS s).2.2 with
    | true =>
      rw [hc] at hb1
      simp only [if_pos, rangeO]
      cases hf : f z (cutS s).1 with
      | none => rw [hf] at hb1; exact loopO_none hb1
      | some y =>
        rw [hf] at hb1
        cases y with
        | inl z2 => rw [loopO_next hb1]; exact ih _ _ (by have := h2 hc; omega) (by have := h2 hc; omega)
        | inr x => exact loopO_end hb1
    | false =>
      rw [hc, h3 hc] at hb1
      simp only [Bool.false_eq_true, if_false, rangeO]
      cases hf : f z s with
      | none => rw [hf] at hb1; exact loopO_none hb1
      | some y =>
        rw [hf] at hb1
        cases y with
        | inl z2 => exact loopO_end hb1
        | inr x => exact loopO_end hb1
theorem label_parts {σ ρ : Type} {f : σ → List UInt8 → Option (σ ⊕ ρ)} {s : List UInt8} {z : σ} (hs : s.length ≤ 4611686018427387904) : M_label_parts_1_p f s z = rangeO f (partsS s) z := by
  unfold M_label_parts_1_p partsS
  rw [parts_loop s.length s z (Nat.le_refl _) hs]
  cases rangeO f (partsF s.length s) z <;> rfl
theorem partsF_len : ∀ (n : Nat) (s : List UInt8), ∀ p ∈ partsF n s, p.length ≤ s.length
  | 0, s, p, hp => by simp only [partsF, List.mem_singleton] at hp; subst hp; exact Nat.le_refl _
  | n + 1, s, p, hp => by
    obtain ⟨h1, h2, h3⟩ := cutS_len s
    unfold partsF at hp
    split at hp
    · rename_i hc
      rcases List.mem_cons.1 hp with rfl | hp
      · exact h1
      · have := partsF_len n _ p hp; have := h2 hc; omega
    · simp only [List.mem_singleton] at hp; subst hp; exact Nat.le_refl _
/-! ### parts -/
noncomputable def plainS (c : UInt8) : Bool := (M_label_plain c).getD false
theorem label_plain (c : UInt8) : M_label_plain c = some (plainS c) := by
  unfold plainS M_label_plain M_label_plain_k1 M_label_plain_k2
  repeat' split
  all_goals rfl
theorem plain_loop09 {s : List UInt8} (hs : s.length ≤ 140737488355328) : ∀ (d k : Nat), s.length = k + d →
    loopO (fun z_ => M_label_Part_b2 s z_) (k : Int) = some (if (s.drop k).all plainS = true then .inl () else .inr false) := by
  intro d
  induction d with
  | zero =>
    intro k h
    rw [loopO_end (r := .inl ()) (by unfold M_label_Part_b2; rw [if_neg (by omega)]), List.drop_of_length_le (by omega)]; rfl
  | succ d ih =>
    intro k h
    have hk : k < s.length := by omega
    have hb : M_label_Part_b2 s (k : Int) = if plainS s[k] = true then some (.inl ((k : Int) + 1)) else some (.inr (.inr false)) := by
      unfold M_label_Part_b2
      rw [if_pos (by omega), at?_in hk, Option.bind_some, label_plain, Option.bind_some, if_pos (ok_small (by omega))]
    rw [List.drop_eq_getElem_cons hk, List.all_cons]
    cases hp : plainS s[k] with
    | true => rw [loopO_next (s' := ((k + 1 : Nat) : Int)) (by show M_label_Part_b2 s (k : Int) = _; rw [hb, if_pos hp]; rfl), ih (k + 1) (by omega), Bool.true_and]
    | false => rw [loopO_end (r := .inr false) (by show M_label_Part_b2 s (k : Int) = _; rw [hb, if_neg (by rw [hp]; decide)])]; rfl
noncomputable def partS (s : List UInt8) : Bool := decide (1 ≤ s.length ∧ s.length ≤ 63) && (!decide (s[0]? = some 45) && (!decide (s[s.length - 1]? = some 45) && s.all plainS))
theorem label_part {s : List UInt8} (hs : s.length ≤ 140737488355328) : M_label_Part s = some (partS s) := by
  have hk1 : M_label_Part_k1 s true = some false := rfl
  have hk2 : M_label_Part_k1 s false = some (s.all plainS) := by
    have := plain_loop09 hs s.length 0 (by omega)
    rw [show ((0 : Nat) : Int) = 0 from rfl, List.drop_zero] at this
    unfold M_label_Part_k1
    rw [if_neg (by decide), if_pos hs, this, Option.bind_some]
    cases s.all plainS <;> rfl
  unfold M_label_Part partS
  by_cases h1 : (s.length : Int) < 1
  · rw [if_pos h1, hk1, decide_eq_false (by omega)]; rfl
  · rw [if_neg h1]
    by_cases h2 : (63 : Int) < s.length
    · rw [if_pos h2, hk1, decide_eq_false (by omega)]; rfl
    · have h0 : 0 < s.length := by omega
      have hl : s.length - 1 < s.length := by omega
      rw [if_neg h2, decide_eq_true (by omega), show (0 : Int) = ((0 : Nat) : Int) from rfl, at?_in h0, Option.bind_some, if_pos (ok_small (by omega)),
        show (s.length : Int) - 1 = ((s.length - 1 : Nat) : Int) by omega, at?_in hl, Option.bind_some, List.getElem?_eq_getElem h0, List.getElem?_eq_getElem hl]
      by_cases h3 : s[0] = 45
      · rw [if_pos h3, hk1]; simp [h3]
      · rw [if_neg h3]
        by_cases h4 : s[s.length - 1] = 45
        · rw [decide_eq_true h4, hk1]; simp [h4]
        · rw [decide_eq_false h4, hk2]; simp [h3, h4]
noncomputable def goodN (s : List UInt8) : Bool := decide (s.length ≤ 253) && (partsS s).all partS
theorem good_range : ∀ (l : List (List UInt8)), (∀ p ∈ l, p.length ≤ 140737488355328) → rangeO (fun (_ : Unit) x => M_label_Good_r1 x) l () = some (if l.all partS = true then .inl () else .inr ())
  | [], _ => rfl
  | p :: l, h => by
    have hp : M_label_Good_r1 p = some (if partS p = true then .inl () else .inr ()) := by
      unfold M_label_Good_r1
      rw [label_part (h p (List.mem_cons_self ..)), Option.bind_some]
      split <;> rfl
    rw [List.all_cons]
    unfold rangeO
    rw [hp]
    cases hh : partS p with
    | true => simp only [if_pos, Bool.true_and]; exact good_range l (fun q hq => h q (List.mem_cons_of_mem _ hq))
    | false => rfl
theorem label_good {s : List UInt8} (hs : s.length ≤ 140737488355328) : M_label_Good s = some (goodN s) := by
  unfold M_label_Good goodN
  by_cases h : (253 : Int) < s.length
  · rw [if_pos h, decide_eq_false (by omega)]; rfl
  · rw [if_neg h, decide_eq_true (by omega), show M_label_parts s = some () from rfl, Option.bind_some, label_parts (by omega), good_range _ (fun p hp => by have := partsF_len _ _ p hp; omega), Option.bind_some]
    cases (partsS s).all partS <;> rfl
/-! ### texts folded -/
def foldC (c : UInt8) : UInt8 := if 65 ≤ c ∧ c ≤ 90 then c ||| 32 else c
def foldS (s : List UInt8) : List UInt8 := s.map foldC
theorem fold_loop09 {s : List UInt8} (hs : s.length ≤ 140737488355328) : ∀ (d k : Nat), s.length = k + d →
    loopO (fun z_ => M_label_Fold_b1 s z_.1 z_.2) ((s.take k).map foldC ++ s.drop k, (k : Int)) = some (foldS s) := by
  intro d
  induction d with
  | zero =>
    intro k h
    rw [loopO_end (r := (s.take k).map foldC ++ s.drop k) (by unfold M_label_Fold_b1; rw [if_neg (by omega)]), List.drop_of_length_le (by omega), List.take_of_length_le (by omega), List.append_nil]; rfl
  | succ d ih =>
    intro k h
    have hk : k < s.length := by omega
    have hlen : ((s.take k).map foldC).length = k := by rw [List.length_map, List.length_take]; omega
    have hx : at? ((s.take k).map foldC ++ s.drop k) (k : Int) = some s[k] := by
      rw [at?_nat, List.getElem?_append_right (by omega), hlen, Nat.sub_self, List.getElem?_drop, Nat.add_zero, List.getElem?_eq_getElem hk]
    have hset : ∀ c : UInt8, ((s.take k).map foldC ++ s.drop k).set k c = (s.take k).map foldC ++ c :: s.drop (k + 1) := by
      intro c
      rw [List.set_append_right _ _ (by omega), hlen, Nat.sub_self, List.drop_eq_getElem_cons hk]; rfl
    have hnext : (s.take (k + 1)).map foldC ++ s.drop (k + 1) = (s.take k).map foldC ++ foldC s[k] :: s.drop (k + 1) := by
      rw [List.take_succ_eq_append_getElem hk, List.map_append, List.append_assoc]; rfl
    have hsame : (s.take k).map foldC ++ s.drop k = (s.take k).map foldC ++ s[k] :: s.drop (k + 1) := by rw [← List.drop_eq_getElem_cons hk]
    have hb : M_label_Fold_b1 s ((s.take k).map foldC ++ s.drop k) (k : Int) = some (.inl ((s.take (k + 1)).map foldC ++ s.drop (k + 1), ((k + 1 : Nat) : Int))) := by
      unfold M_label_Fold_b1 M_label_Fold_k2
      rw [if_pos (by omega), hx, Option.bind_some, hnext]
      by_cases h1 : 65 ≤ s[k]
      · rw [if_pos h1]
        by_cases h2 : s[k] ≤ 90
        · rw [if_pos (decide_eq_true h2), Option.bind_some, if_pos (ok_small (by omega)), show foldC s[k] = s[k] ||| 32 from if_pos ⟨h1, h2⟩, show ((k : Int)).toNat = k from rfl, hset]; rfl
        · rw [if_neg (by simpa using h2), if_pos (ok_small (by omega)), show foldC s[k] = s[k] from if_neg (fun hh => h2 hh.2), ← hsame]; rfl
      · rw [if_neg h1, if_neg (by decide), if_pos (ok_small (by omega)), show foldC s[k] = s[k] from if_neg (fun hh => h1 hh.1), ← hsame]; rfl
    rw [loopO_next hb]
    exact ih (k + 1) (by omega)
theorem label_fold {s : List UInt8} (hs : s.length ≤ 140737488355328) : M_label_Fold s = some (foldS s) := by
  unfold M_label_Fold
  have := fold_loop09 hs s.length 0 (by omega)
  rw [List.take_zero, List.map_nil, List.nil_append, List.drop_zero, show ((0 : Nat) : Int) = 0 from rfl] at this
  rw [if_pos hs, this]; rfl
theorem foldS_len (s : List UInt8) : (foldS s).length = s.length := by unfold foldS; rw [List.length_map]
/-! ### texts between points, byte by byte -/
/-- The texts between points; the first one has begun. -/
def spl (cur : List UInt8) : List UInt8 → List (List UInt8)
  | [] => [cur]
  | c :: t => if c = 46 then cur :: spl [] t else spl (cur ++ [c]) t
theorem spl_cut : ∀ (s cur : List UInt8), spl cur s = if 0 ≤ Lib.indexByte s 46 then (cur ++ s.take (Lib.indexByte s 46).toNat) :: spl [] (s.drop (Lib.indexByte s 46 + 1).toNat) else [cur ++ s]
  | [], cur => by simp [spl, Lib.indexByte]
  | c :: t, cur => by
    have h := spl_cut t (cur ++ [c])
    have hb := idx_lt t 46
    have e : Lib.indexByte (c :: t) 46 = if c = 46 then 0 else if Lib.indexByte t 46 = -1 then -1 else Lib.indexByte t 46 + 1 := by simp [Lib.indexByte]
    rw [e, spl]
    by_cases hc : c = 46
    · simp only [if_pos hc]; simp
    · simp only [if_neg hc]
      rw [h]
      by_cases hi : Lib.indexByte t 46 = -1
      · simp only [hi, reduceIte]; simp
      · simp only [if_neg hi]
        rw [if_pos (by omega), if_pos (by omega)]
        rw [show (Lib.indexByte t 46 + 1).toNat = (Lib.indexByte t 46).toNat + 1 by omega, show (Lib.indexByte t 46 + 1 + 1).toNat = (Lib.indexByte t 46).toNat + 1 + 1 by omega]
        simp
theorem partsF_spl : ∀ (n : Nat) (s : List UInt8), s.length ≤ n → partsF n s = spl [] s
  | 0, s, h => by
    have : s = [] := List.length_eq_zero_iff.1 (by omega)
    subst this; rfl
  | n + 1, s, h => by
    have hb := idx_lt s 46
    rw [spl_cut]
    unfold partsF cutS
    by_cases hi : 0 ≤ Lib.indexByte s 46
    · rw [if_pos hi, if_pos hi, if_pos rfl, partsF_spl n _ (by simp only [List.length_drop]; omega)]; rfl
    · rw [if_neg hi, if_neg hi, if_neg Bool.false_ne_true]; rfl
theorem partsS_spl (s : List UInt8) : partsS s = spl [] s := partsF_spl _ s (Nat.le_refl _)
theorem spl_count : ∀ (s cur : List UInt8), (spl cur s).length ≤ s.length + 1
  | [], cur => by simp [spl]
  | c :: t, cur => by
    unfold spl
    split
    · have := spl_count t []; simp only [List.length_cons]; omega
    · have := spl_count t (cur ++ [c]); simp only [List.length_cons]; omega
theorem partsS_count (s : List UInt8) : (partsS s).length ≤ s.length + 1 := by rw [partsS_spl]; exact spl_count s []
theorem part_len {p : List UInt8} (h : partS p = true) : 1 ≤ p.length ∧ p.length ≤ 63 := by
  unfold partS at h
  rw [Bool.and_eq_true, decide_eq_true_eq] at h
  exact h.1
theorem goodN_iff {s : List UInt8} : goodN s = true ↔ s.length ≤ 253 ∧ ∀ p ∈ partsS s, partS p = true := by
  unfold goodN
  rw [Bool.and_eq_true, decide_eq_true_eq, List.all_eq_true]
/-- The bytes of texts, each behind its length. -/
def wireL : List (List UInt8) → List UInt8
  | [] => []
  | p :: l => UInt8.ofInt (p.length : Int) :: p ++ wireL l
theorem wireL_fold : ∀ (l : List (List UInt8)) (o : List UInt8), l.foldl (fun o p => o ++ UInt8.ofInt (p.length : Int) :: p) o = o ++ wireL l
  | [], o => by simp [wireL]
  | p :: l, o => by
    rw [List.foldl_cons, wireL_fold l]; simp [wireL, List.append_assoc]
theorem wireL_len : ∀ (l : List (List UInt8)), (∀ p ∈ l, p.length ≤ 63) → (wireL l).length ≤ 64 * l.length
  | [], _ => by simp [wireL]
  | p :: l, h => by
    have := wireL_len l (fun q hq => h q (List.mem_cons_of_mem _ hq))
    have := h p (List.mem_cons_self ..)
    simp only [wireL, List.length_cons, List.length_append, List.cons_append]; omega
/-- A name's bytes. -/
def wireS (s : List UInt8) : List UInt8 := wireL (partsS s) ++ [0]
/-! ### octet -/
theorem octet_may (w : Int) : M_octet_may w = some (decide (1 ≤ w ∧ w ≤ 8)) := by
  unfold M_octet_may
  by_cases h : 1 ≤ w <;> simp [h]
/-! ### numbers put -/
/-- The bytes of a number, so many, the most significant first. -/
def putF (n : UInt64) : Nat → List UInt8
  | 0 => []
  | d + 1 => (shr64 n (8 * d)).toUInt8 :: putF n d
theorem putF_len (n : UInt64) : ∀ d, (putF n d).length = d
  | 0 => rfl
  | d + 1 => by rw [putF, List.length_cons, putF_len n d]
theorem put_loop {n : UInt64} {w : Nat} (hw : w ≤ 8) : ∀ (d k : Nat) (out : List UInt8), w = k + d → out.length + d ≤ 140737488355328 →
    loopO (fun z_ => M_octet_Put_v_b1 n (w : Int) z_.1 z_.2) (out, (k : Int)) = some (out ++ putF n d) := by
  intro d
  induction d with
  | zero =>
    intro k out h ho
    rw [loopO_end (r := out) (by unfold M_octet_Put_v_b1; rw [if_neg (by omega)]), putF, List.append_nil]
  | succ d ih =>
    intro k out h ho
    have e : (UInt64.ofInt (8 * (((w : Int) - 1) - (k : Int)))).toNat = 8 * d := by
      rw [show (8 * (((w : Int) - 1) - (k : Int)) : Int) = ((8 * d : Nat) : Int) by omega]
      rw [show UInt64.ofInt ((8 * d : Nat) : Int) = UInt64.ofNat (8 * d) by
        apply UInt64.toNat_inj.1
        simp [UInt64.ofInt, UInt64.toNat_ofNat']; omega, UInt64.toNat_ofNat']
      omega
    rw [loopO_next (s' := (out ++ [(shr64 n (8 * d)).toUInt8], ((k + 1 : Nat) : Int))) (by
      show M_octet_Put_v_b1 n (w : Int) out (k : Int) = _
      unfold M_octet_Put_v_b1
      rw [if_pos (by omega), if_pos (ok_small (by omega)), if_pos (ok_small (by omega)), if_pos (ok_small (by omega)), if_pos (by omega), if_pos (ok_small (by omega)), e]; rfl),
      ih (k + 1) _ (by omega) (by rw [List.length_append, List.length_singleton]; omega), putF, List.append_assoc]
    rfl
theorem octet_put {b : List UInt8} {n : UInt64} {w : Int} (hb : b.length ≤ 140737488355320) : M_octet_Put_v b n w = some (if 1 ≤ w ∧ w ≤ 8 then b ++ putF n w.toNat else b) := by
  unfold M_octet_Put_v
  rw [if_pos (by omega), octet_may, Option.bind_some]
  by_cases h : 1 ≤ w ∧ w ≤ 8
  · have hl := put_loop (n := n) (w := w.toNat) (by omega) w.toNat 0 b (by omega) (by omega)
    rw [show ((w.toNat : Nat) : Int) = w by omega, show ((0 : Nat) : Int) = 0 from rfl] at hl
    rw [if_pos (decide_eq_true h), if_pos h, List.nil_append, hl]
    rfl
  · rw [if_neg (by simpa using h), if_neg h]; rfl
theorem num_put (n : UInt64) : ∀ (d : Nat) (s : UInt64), ((putF n d).foldl (fun n x => n * 256 + x.toUInt64) s).toNat = (s.toNat * 256 ^ d + n.toNat % 256 ^ d) % 18446744073709551616
  | 0, s => by
    have := s.toNat_lt
    simp [putF, Nat.mod_one]
  | d + 1, s => by
    have hn := n.toNat_lt
    rw [putF, List.foldl_cons, num_put n d]
    have e0 : (256 : Nat) ^ d = 2 ^ (8 * d) := by rw [Nat.pow_mul]
    have e1 : ((shr64 n (8 * d)).toUInt8).toUInt64.toNat = n.toNat / 256 ^ d % 256 := by
      rw [e0]
      have : n.toNat / 2 ^ (8 * d) ≤ n.toNat := Nat.div_le_self _ _
      simp [shr64]
    rw [UInt64.toNat_add, UInt64.toNat_mul, e1, show (256 : UInt64).toNat = 256 from rfl]
    have e2 : n.toNat % 256 ^ (d + 1) = n.toNat % 256 ^ d + 256 ^ d * (n.toNat / 256 ^ d % 256) := by rw [Nat.pow_succ, Nat.mod_mul]
    rw [e2]
    have e3 : (s.toNat * 256 % 2 ^ 64 + n.toNat / 256 ^ d % 256) % 2 ^ 64 = (s.toNat * 256 + n.toNat / 256 ^ d % 256) % 18446744073709551616 := by omega
    rw [e3, Nat.add_mod, Nat.mul_mod, Nat.mod_mod, ← Nat.mul_mod, ← Nat.add_mod]
    congr 1
    rw [Nat.pow_succ, Nat.add_mul]
    generalize 256 ^ d = q
    generalize n.toNat / q % 256 = y
    generalize n.toNat % q = z
    rw [Nat.mul_comm q y, Nat.mul_comm q 256, ← Nat.mul_assoc]
    omega
/-! ### instances -/
noncomputable def goodI (i : G_api_Instance) : Bool := decide (1 ≤ i.Life ∧ i.Life ≤ 2147483647) && (if i.Gone = true then decide (i.Priority = 0 ∧ i.Weight = 0 ∧ i.Port = 0 ∧ i.Target = []) else !decide (i.Port = 0) && (goodN i.Target && decide (foldS i.Target = i.Target)))
theorem inst_good {i : G_api_Instance} (h : i.Target.length ≤ 140737488355328) : M_inst_Good i = some (goodI i) := by
  have hk1 : M_inst_Good_k1 i true = some false := rfl
  have hm : i.Target.length ≤ maxLen := by simp only [maxLen]; omega
  unfold M_inst_Good goodI
  by_cases h1 : i.Life < 1
  · rw [if_pos h1, hk1, decide_eq_false (fun hh => absurd h1 (UInt32.not_lt.2 hh.1))]; rfl
  · rw [if_neg h1]
    by_cases h2 : 2147483647 < i.Life
    · rw [decide_eq_true h2, hk1, decide_eq_false (fun hh => absurd h2 (UInt32.not_lt.2 hh.2))]; rfl
    · rw [decide_eq_false h2, decide_eq_true ⟨UInt32.not_lt.1 h1, UInt32.not_lt.1 h2⟩, Bool.true_and]
      unfold M_inst_Good_k1
      rw [if_neg (by decide)]
      by_cases hg : i.Gone = true
      · rw [if_pos hg, if_pos hg, if_pos hm]
        refine congrArg some (decide_eq_decide.2 ?_)
        cases i
        simp only [G_api_Instance.mk.injEq, true_and]
        constructor
        · rintro ⟨a, b, c, d⟩; exact ⟨a.symm, b.symm, c.symm, d.symm⟩
        · rintro ⟨a, b, c, d⟩; exact ⟨a.symm, b.symm, c.symm, d.symm⟩
      · rw [if_neg hg, if_neg hg]
        by_cases hp : i.Port = 0
        · rw [if_pos hp, decide_eq_true hp]; rfl
        · rw [if_neg hp, decide_eq_false hp, label_good h, Option.bind_some]
          cases goodN i.Target with
          | false => rfl
          | true => rw [if_pos rfl, label_fold h, Option.bind_some]; rfl
/-- What a target may at most be. -/
theorem goodI_len {i : G_api_Instance} (h : goodI i = true) : i.Target.length ≤ 253 := by
  unfold goodI at h
  rw [Bool.and_eq_true] at h
  by_cases hg : i.Gone = true
  · rw [if_pos hg] at h
    rw [(of_decide_eq_true h.2).2.2.2]; simp
  · rw [if_neg hg, Bool.and_eq_true, Bool.and_eq_true] at h
    exact (goodN_iff.1 h.2.2.1).1
/-! ### their bytes -/
def tailI (i : G_api_Instance) : List UInt8 := if i.Gone = true then putF 1 1 else putF 0 1 ++ (putF i.Priority.toUInt64 2 ++ (putF i.Weight.toUInt64 2 ++ (putF i.Port.toUInt64 2 ++ (putF (UInt64.ofInt (i.Target.length : Int)) 2 ++ i.Target))))
def bytesI (i : G_api_Instance) : List UInt8 := List.ofFn i.Publisher ++ (putF i.Seq 8 ++ (putF i.Born 8 ++ (putF i.Life.toUInt64 4 ++ tailI i)))
theorem inst_put {x : List UInt8} {n : UInt64} {w : Int} (hx : x.length ≤ 1000000) (hw : 1 ≤ w ∧ w ≤ 8) : M_inst_Bytes_1_po n w x = some (x ++ putF n w.toNat) := by
  unfold M_inst_Bytes_1_po
  rw [octet_put (by omega), if_pos hw]; rfl
theorem octet_text {b s : List UInt8} (hb : b.length ≤ 1000000) (hs : s.length ≤ 1024) : M_octet_Text_v b s = some (b ++ putF (UInt64.ofInt (s.length : Int)) 2 ++ s, 0) := by
  unfold M_octet_Text_v
  rw [if_neg (by omega), octet_put (by omega), if_pos (by decide), Option.bind_some, if_pos (by rw [List.length_append, putF_len]; simp only [show (2 : Int).toNat = 2 from rfl]; omega)]; rfl
theorem inst_bytes {i : G_api_Instance} (h : i.Target.length ≤ 140737488355328) : M_inst_Bytes i = some (if goodI i = true then (bytesI i, 0) else ([], 2)) := by
  unfold M_inst_Bytes
  rw [inst_good h, Option.bind_some]
  by_cases hg : goodI i = true
  · have hl := goodI_len hg
    have h20 : (List.ofFn i.Publisher).length = 20 := by simp
    rw [if_pos hg, if_pos hg]
    unfold M_bytes_Clone_v
    rw [if_pos (by rw [h20]; decide), Option.bind_some, List.nil_append, inst_put (by omega) (by decide), Option.bind_some, inst_put (by simp [putF_len]) (by decide), Option.bind_some, inst_put (by simp [putF_len]) (by decide), Option.bind_some]
    unfold bytesI tailI
    by_cases hgo : i.Gone = true
    · rw [if_pos hgo, if_pos hgo, inst_put (by simp [putF_len]) (by decide), Option.bind_some]
      simp only [List.append_assoc]; rfl
    · rw [if_neg hgo, if_neg hgo, inst_put (by simp [putF_len]) (by decide), Option.bind_some, inst_put (by simp [putF_len]) (by decide), Option.bind_some, inst_put (by simp [putF_len]) (by decide), Option.bind_some, inst_put (by simp [putF_len]) (by decide), Option.bind_some,
        octet_text (by simp [putF_len]) (by omega), Option.bind_some]
      simp only [List.append_assoc]; rfl
  · rw [if_neg hg, if_neg hg]
/-! ### the chapter's example -/
theorem lives11 : M_signpostlaw11_lives = some true := by
  have hp : partsS [97] = [[97]] := by decide
  have hg : goodI (G_api_Instance.mk (fun _ => 0) 0 5 3 false 0 0 80 ([97] : List UInt8)) = true := by
    unfold goodI goodN; rw [hp]; decide
  unfold M_signpostlaw11_lives
  rw [inst_bytes (by decide), if_pos hg, Option.bind_some]
  simp only []
  rw [inst_good (by decide), hg, Option.bind_some, if_pos rfl]
  rfl
/-! ### ticks -/
def endI (i : G_api_Instance) : UInt64 := if (18446744073709551615 - i.Life.toUInt64) < i.Born then 18446744073709551615 else i.Born + i.Life.toUInt64
theorem inst_end (i : G_api_Instance) : M_inst_End i = some (endI i) := by unfold M_inst_End endI; split <;> rfl
def aliveI (i : G_api_Instance) (now : UInt64) : Bool := decide (i.Born ≤ now) && decide (now < endI i)
theorem inst_alive (i : G_api_Instance) (now : UInt64) : M_inst_Alive i now = some (aliveI i now) := by
  unfold M_inst_Alive M_inst_Over aliveI
  rw [inst_end, Option.bind_some, Option.bind_some]
  by_cases h : i.Born ≤ now
  · rw [if_pos h, decide_eq_true h, Bool.true_and, ← decide_not]
    exact congrArg some (decide_eq_decide.2 UInt64.not_le)
  · rw [if_neg h, decide_eq_false h]; rfl
def leftI (i : G_api_Instance) (now : UInt64) : UInt32 := if aliveI i now = true then (endI i - now).toUInt32 else 0
theorem inst_left (i : G_api_Instance) (now : UInt64) : M_inst_Left i now = some (leftI i now) := by
  unfold M_inst_Left leftI
  rw [inst_alive, Option.bind_some, inst_end, Option.bind_some]; split <;> rfl
def stoneI (i : G_api_Instance) : G_api_Instance := G_api_Instance.mk i.Publisher (if i.Seq = 18446744073709551615 then i.Seq else i.Seq + 1) i.Born i.Life true 0 0 0 []
theorem inst_stone (i : G_api_Instance) : M_inst_Stone i = some (stoneI i) := by unfold M_inst_Stone stoneI; split <;> rfl
/-! ### an order that is told by one of three numbers -/
theorem UInt64.cases3 (a b : UInt64) : a < b ∨ b < a ∨ a = b := by
  simp only [UInt64.lt_iff_toNat_lt, ← UInt64.toNat_inj]; omega
/-- What an order tells. -/
def OrdI {α : Type} (c : α → α → Int) : Prop := (∀ a b, c a b = - c b a) ∧ (∀ a b, -1 ≤ c a b ∧ c a b ≤ 1) ∧ ∀ a b d, 0 ≤ c a b → 0 ≤ c b d → 0 ≤ c a d ∧ (0 < c a b ∨ 0 < c b d → 0 < c a d)
def cmpN (x y : Nat) : Int := if x < y then -1 else if y < x then 1 else 0
theorem cmpN_ord : OrdI cmpN := by
  refine ⟨fun a b => ?_, fun a b => ?_, fun a b d => ?_⟩ <;> unfold cmpN <;> (repeat' split) <;> omega
theorem OrdI.on {α β : Type} {c : β → β → Int} (h : OrdI c) (f : α → β) : OrdI fun a b => c (f a) (f b) := ⟨fun a b => h.1 _ _, fun a b => h.2.1 _ _, fun a b d => h.2.2 _ _ _⟩
def elseI (x y : Int) : Int := if x = 0 then y else x
theorem OrdI.or {α : Type} {c d : α → α → Int} (hc : OrdI c) (hd : OrdI d) : OrdI fun a b => elseI (c a b) (d a b) := by
  refine ⟨fun a b => ?_, fun a b => ?_, fun a b e => ?_⟩
  · have h1 := hc.1 a b
    have h2 := hd.1 a b
    simp only [elseI]
    split <;> split <;> omega
  · have h1 := hc.2.1 a b
    have h2 := hd.2.1 a b
    simp only [elseI]
    split <;> omega
  · have h1 := hc.2.2 a b e
    have h2 := hd.2.2 a b e
    have h3 := hc.2.2 e b a
    have h4 := hc.1 a b
    have h5 := hc.1 b e
    have h6 := hc.1 a e
    simp only [elseI]
    intro p q
    split at p <;> split at q <;> split <;> first | omega | (constructor <;> first | omega | (intro; omega))
theorem bytes_ord : OrdI Lib.compareBytes := by
  have anti : ∀ a b, Lib.compareBytes a b = - Lib.compareBytes b a := by
    intro a
    induction a with
    | nil => intro b; cases b <;> simp [Lib.compareBytes]
    | cons x a ih =>
      intro b
      cases b with
      | nil => simp [Lib.compareBytes]
      | cons y b =>
        have h := ih b
        simp only [Lib.compareBytes, UInt8.lt_iff_toNat_lt]
        split <;> split <;> omega
  have rng : ∀ a b, -1 ≤ Lib.compareBytes a b ∧ Lib.compareBytes a b ≤ 1 := by
    intro a
    induction a with
    | nil => intro b; cases b <;> simp [Lib.compareBytes]
    | cons x a ih =>
      intro b
      cases b with
      | nil => simp [Lib.compareBytes]
      | cons y b =>
        have h := ih b
        simp only [Lib.compareBytes, UInt8.lt_iff_toNat_lt]
        split
        · omega
        · split <;> omega
  refine ⟨anti, rng, ?_⟩
  intro a
  induction a with
  | nil => intro b d; cases b <;> cases d <;> simp [Lib.compareBytes]
  | cons x a ih =>
    intro b d
    cases b with
    | nil => cases d <;> simp [Lib.compareBytes]
    | cons y b =>
      cases d with
      | nil => simp [Lib.compareBytes]
      | cons z d =>
        have h := ih b d
        simp only [Lib.compareBytes, UInt8.lt_iff_toNat_lt]
        intro p q
        split at p
        · omega
        · split at p
          · split at q
            · omega
            · split at q
              · rw [if_neg (by omega), if_pos (by omega)]; omega
              · rw [if_neg (by omega), if_pos (by omega)]; omega
          · split at q
            · omega
            · split at q
              · rw [if_neg (by omega), if_pos (by omega)]; omega
              · rw [if_neg (by omega), if_neg (by omega)]
                have h2 := h p q
                refine ⟨h2.1, fun hh => h2.2 ?_⟩
                rcases hh with hh | hh
                · rw [if_neg (by omega), if_neg (by omega)] at hh; exact .inl hh
                · rw [if_neg (by omega), if_neg (by omega)] at hh; exact .inr hh
theorem bytes_zero : ∀ a b, Lib.compareBytes a b = 0 ↔ a = b
  | [], [] => by simp [Lib.compareBytes]
  | [], _ :: _ => by simp [Lib.compareBytes]
  | _ :: _, [] => by simp [Lib.compareBytes]
  | x :: a, y :: b => by
    have h := bytes_zero a b
    simp only [Lib.compareBytes, UInt8.lt_iff_toNat_lt, List.cons.injEq, ← UInt8.toNat_inj]
    split
    · constructor
      · intro e; omega
      · rintro ⟨e, _⟩; omega
    · split
      · constructor
        · intro e; omega
        · rintro ⟨e, _⟩; omega
      · rw [h]
        constructor
        · intro e; exact ⟨by omega, e⟩
        · exact fun e => e.2
theorem cmpN_zero (a b : Nat) : cmpN a b = 0 ↔ a = b := by unfold cmpN; split <;> (try split) <;> omega
theorem elseI_zero (x y : Int) : elseI x y = 0 ↔ x = 0 ∧ y = 0 := by
  unfold elseI; split
  · rename_i h; exact ⟨fun e => ⟨h, e⟩, fun e => e.2⟩
  · rename_i h; exact ⟨fun e => absurd e h, fun e => absurd e.1 h⟩
/-! ### newer -/
def firstI : List Int → Int
  | [] => 0
  | x :: l => elseI x (firstI l)
theorem or_first (vals : List Int) (hv : vals.length ≤ 1000000) : M_cmp_Or_int_v vals = some (firstI vals) := by
  have key : ∀ (d k : Nat), vals.length = k + d → loopO (fun z_ => M_cmp_Or_int_v_b1 vals z_) (k : Int) = some (if firstI (vals.drop k) = 0 then .inl () else .inr (firstI (vals.drop k))) := by
    intro d
    induction d with
    | zero =>
      intro k h
      rw [loopO_end (r := .inl ()) (by unfold M_cmp_Or_int_v_b1; rw [if_neg (by omega)]), List.drop_of_length_le (by omega)]; rfl
    | succ d ih =>
      intro k h
      have hk : k < vals.length := by omega
      rw [List.drop_eq_getElem_cons hk, firstI]
      by_cases hz : vals[k] = 0
      · rw [loopO_next (s' := ((k + 1 : Nat) : Int)) (by unfold M_cmp_Or_int_v_b1; rw [if_pos (by omega), at?_in hk, Option.bind_some, if_pos hz, if_pos (ok_small (by omega))]; rfl), ih (k + 1) (by omega)]
        unfold elseI
        rw [if_pos hz]
      · rw [loopO_end (r := .inr vals[k]) (by unfold M_cmp_Or_int_v_b1; rw [if_pos (by omega), at?_in hk, Option.bind_some, if_neg hz])]
        unfold elseI
        rw [if_neg hz, if_neg hz]
  have := key vals.length 0 (by omega)
  rw [show ((0 : Nat) : Int) = 0 from rfl, List.drop_zero] at this
  unfold M_cmp_Or_int_v
  rw [this, some_bindP]
  by_cases h : firstI vals = 0
  · rw [if_pos h]; simp only [h]
  · rw [if_neg h]
def bitN (b : Bool) : Nat := if b = true then 1 else 0
/-- What tells the newer one. -/
def cmpI (a b : G_api_Instance) : Int := elseI (cmpN a.Seq.toNat b.Seq.toNat) (elseI (cmpN (bitN a.Gone) (bitN b.Gone)) (elseI (cmpN a.Born.toNat b.Born.toNat) (elseI (cmpN a.Life.toNat b.Life.toNat)
  (elseI (Lib.compareBytes (List.ofFn a.Publisher) (List.ofFn b.Publisher)) (elseI (cmpN a.Priority.toNat b.Priority.toNat) (elseI (cmpN a.Weight.toNat b.Weight.toNat) (elseI (cmpN a.Port.toNat b.Port.toNat) (Lib.compareBytes a.Target b.Target))))))))
theorem cmp64 (a b : UInt64) : M_cmp_Compare_uint64 a b = some (cmpN a.toNat b.toNat) := by
  unfold M_cmp_Compare_uint64 M_cmp_isNaN_uint64 cmpN
  simp only [some_bindP, UInt64.lt_iff_toNat_lt]
  split
  · rfl
  · split <;> rfl
theorem cmp32 (a b : UInt32) : M_cmp_Compare_uint32 a b = some (cmpN a.toNat b.toNat) := by
  unfold M_cmp_Compare_uint32 M_cmp_isNaN_uint32 cmpN
  simp only [some_bindP, UInt32.lt_iff_toNat_lt]
  split
  · rfl
  · split <;> rfl
theorem cmp16 (a b : UInt16) : M_cmp_Compare_uint16 a b = some (cmpN a.toNat b.toNat) := by
  unfold M_cmp_Compare_uint16 M_cmp_isNaN_uint16 cmpN
  simp only [some_bindP, UInt16.lt_iff_toNat_lt]
  split
  · rfl
  · split <;> rfl
theorem compare_ltS : ∀ (a b : List UInt8), Lib.compareBytes a b = if ltS a b = true then -1 else if (ltS a b || decide (a = b)) = true then 0 else 1
  | [], [] => by decide
  | [], _ :: _ => by simp [Lib.compareBytes, ltS, Op.bytesLess]
  | _ :: _, [] => by simp [Lib.compareBytes, ltS, Op.bytesLess]
  | a :: x, b :: y => by
    have h := compare_ltS x y
    unfold ltS at h ⊢
    unfold Lib.compareBytes
    rw [Op.bytesLess]
    by_cases h1 : a < b
    · simp [h1]
    · by_cases h2 : b < a
      · have h3 : a ≠ b := fun e => by subst e; exact UInt8.lt_irrefl _ h2
        simp [h1, h2, h3]
      · have h3 : a = b := UInt8.le_antisymm (UInt8.not_lt.1 h2) (UInt8.not_lt.1 h1)
        subst h3
        simp [h1, h]
theorem cmpStr (a b : List UInt8) : M_cmp_Compare_string a b = some (Lib.compareBytes a b) := by
  rw [compare_ltS]
  unfold M_cmp_Compare_string M_cmp_isNaN_string
  simp only [some_bindP]
  split
  · rfl
  · split <;> rfl
theorem inst_cmp (a b : G_api_Instance) : M_inst_Cmp a b = some (cmpI a b) := by
  have hb : (M_inst_bit a.Gone).bind (fun x => (M_inst_bit b.Gone).bind fun y => M_cmp_Compare_int x y) = some (cmpN (bitN a.Gone) (bitN b.Gone)) := by
    cases a.Gone <;> cases b.Gone <;> rfl
  have e : M_inst_Cmp a b = (M_cmp_Compare_uint64 a.Seq b.Seq).bind fun r1_2 => ((M_inst_bit a.Gone).bind fun x => (M_inst_bit b.Gone).bind fun y => M_cmp_Compare_int x y).bind fun r1_5 =>
        (M_cmp_Compare_uint64 a.Born b.Born).bind fun r1_6 => (M_cmp_Compare_uint32 a.Life b.Life).bind fun r1_7 => (M_cmp_Compare_uint16 a.Priority b.Priority).bind fun r1_8 => (M_cmp_Compare_uint16 a.Weight b.Weight).bind fun r1_9 =>
        (M_cmp_Compare_uint16 a.Port b.Port).bind fun r1_10 => (M_cmp_Compare_string a.Target b.Target).bind fun r1_11 =>
        (M_cmp_Or_int_v [r1_2, r1_5, r1_6, r1_7, Lib.compareBytes (List.ofFn a.Publisher) (List.ofFn b.Publisher), r1_8, r1_9, r1_10, r1_11]) := by
    unfold M_inst_Cmp M_bytes_Compare_vv
    cases a.Gone <;> cases b.Gone <;> simp [M_inst_bit]
  rw [e, hb, cmp64, cmp64, cmp32, cmp16, cmp16, cmp16, cmpStr]
  simp only [some_bindP]
  rw [or_first _ (by simp)]
  simp only [firstI, cmpI]
  congr 9
  unfold elseI; split
  · rename_i h; rw [h]
  · rfl
theorem cmpI_ord : OrdI cmpI :=
  (cmpN_ord.on fun a : G_api_Instance => a.Seq.toNat).or ((cmpN_ord.on fun a : G_api_Instance => bitN a.Gone).or ((cmpN_ord.on fun a : G_api_Instance => a.Born.toNat).or ((cmpN_ord.on fun a : G_api_Instance => a.Life.toNat).or
    ((bytes_ord.on fun a : G_api_Instance => List.ofFn a.Publisher).or ((cmpN_ord.on fun a : G_api_Instance => a.Priority.toNat).or ((cmpN_ord.on fun a : G_api_Instance => a.Weight.toNat).or ((cmpN_ord.on fun a : G_api_Instance => a.Port.toNat).or (bytes_ord.on fun a : G_api_Instance => a.Target))))))))
theorem cmpI_zero (a b : G_api_Instance) : cmpI a b = 0 ↔ a = b := by
  unfold cmpI
  simp only [elseI_zero, cmpN_zero, bytes_zero, UInt64.toNat_inj, UInt32.toNat_inj, UInt16.toNat_inj]
  constructor
  · rintro ⟨h1, h2, h3, h4, h5, h6, h7, h8, h9⟩
    have h2' : a.Gone = b.Gone := by revert h2; cases a.Gone <;> cases b.Gone <;> simp [bitN]
    have h5' : a.Publisher = b.Publisher := ofFn_inj'.1 h5
    cases a; cases b
    simp_all
  · rintro rfl; simp
/-! ### the statement -/
theorem left_facts (a : G_api_Instance) (now : UInt64) : leftI a now ≤ a.Life ∧ decide (0 < leftI a now) = aliveI a now := by
  have hl := a.Life.toNat_lt
  have hb := a.Born.toNat_lt
  have hn := now.toNat_lt
  unfold leftI
  cases h : aliveI a now with
  | false => exact ⟨UInt32.le_iff_toNat_le.2 (Nat.zero_le _), rfl⟩
  | true =>
    rw [if_pos rfl]
    unfold aliveI at h
    rw [Bool.and_eq_true, decide_eq_true_eq, decide_eq_true_eq, UInt64.le_iff_toNat_le, UInt64.lt_iff_toNat_lt] at h
    have he : (endI a).toNat ≤ a.Born.toNat + a.Life.toNat := by
      unfold endI
      split
      · rename_i hh
        rw [UInt64.lt_iff_toNat_lt, UInt64.toNat_sub_of_le _ _ (UInt64.le_iff_toNat_le.2 (by rw [UInt32.toNat_toUInt64]; show _ ≤ 18446744073709551615; omega)), UInt32.toNat_toUInt64] at hh
        have : (18446744073709551615 : UInt64).toNat = 18446744073709551615 := rfl
        omega
      · rw [UInt64.toNat_add, UInt32.toNat_toUInt64]; omega
    have hs : (endI a - now).toNat = (endI a).toNat - now.toNat := UInt64.toNat_sub_of_le _ _ (UInt64.le_iff_toNat_le.2 (by omega))
    have ht : ((endI a - now).toUInt32).toNat = (endI a).toNat - now.toNat := by rw [UInt64.toNat_toUInt32, hs]; omega
    refine ⟨UInt32.le_iff_toNat_le.2 (by omega), decide_eq_true (UInt32.lt_iff_toNat_lt.2 ?_)⟩
    rw [ht]
    show 0 < _
    omega
theorem stone_len (a : G_api_Instance) : (stoneI a).Target.length ≤ maxLen := by
  show ([] : List UInt8).length ≤ maxLen
  rw [List.length_nil]; exact Nat.zero_le _
theorem life_k2 (a : G_api_Instance) (h : a.Target.length ≤ 3000) : M_signpostlaw11_InstLife_k2 a = some true := by
  have he : endI (stoneI a) = endI a := rfl
  have hg : goodI a = true → goodI (stoneI a) = true := by
    intro hh
    unfold goodI at hh ⊢
    rw [Bool.and_eq_true] at hh
    rw [Bool.and_eq_true]
    exact ⟨hh.1, by simp [stoneI]⟩
  have hs : (stoneI a).Target.length ≤ 140737488355328 := by show ([] : List UInt8).length ≤ _; simp
  have hc : a.Seq ≠ 18446744073709551615 → 0 < cmpI (stoneI a) a := by
    intro hh
    have hb := a.Seq.toNat_lt
    have h1 : a.Seq.toNat ≠ 18446744073709551615 := fun e => hh (UInt64.toNat_inj.1 e)
    have h2 : (stoneI a).Seq.toNat = a.Seq.toNat + 1 := by
      show (if a.Seq = 18446744073709551615 then a.Seq else a.Seq + 1).toNat = _
      rw [if_neg hh, UInt64.toNat_add]
      show (a.Seq.toNat + 1) % 2 ^ 64 = _
      omega
    unfold cmpI
    have h3 : cmpN (stoneI a).Seq.toNat a.Seq.toNat = 1 := by unfold cmpN; rw [h2, if_neg (by omega), if_pos (by omega)]
    rw [h3]
    unfold elseI
    rw [if_neg (by decide)]; decide
  have hgone : (stoneI a).Gone = true := rfl
  unfold M_signpostlaw11_InstLife_k2
  rw [inst_stone, inst_good (by omega), lives11]
  generalize hst : stoneI a = s at *
  simp only [some_bindP]
  rw [inst_good hs, inst_end, inst_end, he, inst_cmp]
  generalize endI a = e
  by_cases h1 : goodI a = true
  · rw [if_pos h1, hg h1]
    simp only [some_bindP, if_true]
    rw [if_pos hgone]
    by_cases h2 : a.Seq = 18446744073709551615
    · rw [if_pos h2]
    · rw [if_neg h2, if_pos (hc h2)]
  · rw [if_neg h1]
    simp only [some_bindP, if_true]
    by_cases h2 : a.Seq = 18446744073709551615
    · rw [if_pos h2]
    · rw [if_neg h2, if_pos (hc h2)]
theorem life_k1 (a b c : G_api_Instance) (ha : a.Target.length ≤ 3000) (hb : b.Target.length ≤ 3000) : M_signpostlaw11_InstLife_k1 a b c = some true := by
  have hma : a.Target.length ≤ maxLen := by simp only [maxLen]; omega
  have hmb : b.Target.length ≤ maxLen := by simp only [maxLen]; omega
  have h1 := cmpI_ord.1 a b
  have h2 := cmpI_ord.2.1 b a
  have h3 := cmpI_ord.2.2 a b c
  have h0 := cmpI_zero a b
  unfold M_signpostlaw11_InstLife_k1
  rw [if_pos hma, if_pos hmb, inst_cmp, inst_cmp, inst_cmp, inst_cmp, life_k2 a ha]
  simp only [some_bindP]
  rw [if_pos (decide_eq_decide.2 h0), if_pos (ok_small (by omega)), if_pos h1]
  by_cases h4 : 0 < cmpI a b
  · rw [if_pos h4]
    by_cases h5 : 0 < cmpI b c
    · have := (h3 (by omega) (by omega)).2 (.inl h4)
      rw [if_pos h5, if_neg (by omega)]
    · rw [if_neg h5]
  · rw [if_neg h4]
theorem pure_InstLife (a : G_api_Instance) (b : G_api_Instance) (c : G_api_Instance) (now : UInt64) (more : UInt64) (wf_a : G_api_Instance_wf a) (wf_b : G_api_Instance_wf b) (wf_c : G_api_Instance_wf c) : M_signpostlaw11_InstLife a b c now more = some true := by
  unfold G_api_Instance_wf at wf_a wf_b wf_c
  unfold M_signpostlaw11_InstLife
  rw [if_pos (ok_small (by omega)), if_pos (ok_small (by omega)), lives11]
  by_cases h : (3000 : Int) < (a.Target.length : Int) + b.Target.length + c.Target.length
  · rw [if_pos h]; rfl
  · obtain ⟨hl1, hl2⟩ := left_facts a now
    have hk := life_k1 a b c (by omega) (by omega)
    have hover : ∀ t, M_inst_Over a t = some (decide (endI a ≤ t)) := fun t => by unfold M_inst_Over; rw [inst_end, some_bindP]
    rw [if_neg h, inst_left, inst_alive, hover, hover, hk]
    have hdead : endI a ≤ now → aliveI a now = false := by
      intro hh
      unfold aliveI
      rw [decide_eq_false (UInt64.not_lt.2 hh), Bool.and_false]
    have hmore : endI a ≤ now → now < more → endI a ≤ more := fun h1 h2 => UInt64.le_trans h1 (UInt64.le_of_lt h2)
    generalize leftI a now = l at *
    generalize aliveI a now = al at *
    generalize endI a = e at *
    simp only [some_bindP]
    rw [if_neg (UInt32.not_lt.2 hl1), if_pos hl2]
    by_cases h1 : e ≤ now
    · rw [if_pos (decide_eq_true h1), hdead h1, if_neg (by decide)]
      by_cases h2 : now < more
      · rw [if_pos h2, if_pos (decide_eq_true h1), if_pos (decide_eq_true (hmore h1 h2))]
      · rw [if_neg h2]
    · have h1' : ¬ (decide (e ≤ now) = true) := by simpa using h1
      rw [if_neg h1']
      by_cases h2 : now < more
      · rw [if_pos h2, if_neg h1']
      · rw [if_neg h2]
end Go.Proofs.Ytgabplankmljfaa
