/-
  What the functions that the statement LabelUnder reaches compute, as plain laws; and the statement about them. No condition.
-/
import Derived.Test.YtaaahjcldomnbaaLabelUnderMod
import Derived.Test.YtaaahjcldomnbaaBPure
namespace Go.Proofs.Ytaaahjcldomnbaa
open Go Go.RowKit
set_option linter.unusedVariables false
set_option linter.unusedSimpArgs false
/-! ### names -/
theorem idx_lt : ∀ (l : List UInt8) (c : UInt8), -1 ≤ Lib.indexByte l c ∧ (0 ≤ Lib.indexByte l c → Lib.indexByte l c < l.length)
  | [], c => by simp [Lib.indexByte]
  | b :: l, c => by
    have h := idx_lt l c
    unfold Lib.indexByte
    simp only [List.length_cons]
    split
    · omega
    · split
      · omega
      · rename_i h1 h2
        simp only [beq_iff_eq] at h2
        omega
/-- A text cut at its first point. -/
def cutS (s : List UInt8) : List UInt8 × List UInt8 × Bool := if 0 ≤ Lib.indexByte s 46 then (s.take (Lib.indexByte s 46).toNat, s.drop (Lib.indexByte s 46 + 1).toNat, true) else (s, [], false)
theorem label_cut {s : List UInt8} (hs : s.length ≤ 4611686018427387904) : M_strings_Cut s = some (cutS s) := by
  have hi : M_stringslite_Index s = some (Lib.indexByte s 46) := by
    unfold M_stringslite_Index
    by_cases h : [46] = s
    · rw [if_pos h, ← h]; rfl
    · rw [if_neg h]; rfl
  have hb := idx_lt s 46
  unfold M_strings_Cut M_stringslite_Cut cutS
  rw [hi, Option.bind_some]
  by_cases h : 0 ≤ Lib.indexByte s 46
  · rw [if_pos h, if_pos (by omega), if_pos (ok_small (by omega)), if_pos (by omega), if_pos h]; rfl
  · rw [if_neg h, if_neg h]; rfl
/-- The texts between points. -/
def partsF : Nat → List UInt8 → List (List UInt8)
  | 0, s => [s]
  | n + 1, s => if (cutS s).2.2 = true then (cutS s).1 :: partsF n (cutS s).2.1 else [s]
def partsS (s : List UInt8) : List (List UInt8) := partsF s.length s
theorem cutS_len (s : List UInt8) : (cutS s).1.length ≤ s.length ∧ ((cutS s).2.2 = true → (cutS s).2.1.length < s.length) ∧ ((cutS s).2.2 = false → (cutS s).1 = s) := by
  have hb := idx_lt s 46
  unfold cutS
  split
  · refine ⟨by simp only [List.length_take]; omega, fun _ => ?_, fun h => (by cases h)⟩
    simp only [List.length_drop]; omega
  · exact ⟨Nat.le_refl _, (fun h => by cases h), fun _ => rfl⟩
theorem parts_loop {σ ρ : Type} {f : σ → List UInt8 → Option (σ ⊕ ρ)} : ∀ (n : Nat) (s : List UInt8) (z : σ), s.length ≤ n → s.length ≤ 4611686018427387904 →
    loopO (fun z_ => M_label_parts_1_p_b1 f z_.1 z_.2) (z, s) = rangeO f (partsF n s) z := by
  have hb : ∀ (s : List UInt8) (z : σ), s.length ≤ 4611686018427387904 → M_label_parts_1_p_b1 f z s = (f z (cutS s).1).bind fun y => match y with
      | .inl z2 => if (cutS s).2.2 = true then some (.inl (z2, (cutS s).2.1)) else some (.inr (.inl z2))
      | .inr x => some (.inr (.inr x)) := by
    intro s z hs
    unfold M_label_parts_1_p_b1
    rw [label_cut hs, Option.bind_some]
    rfl
  intro n
  induction n with
  | zero =>
    intro s z hn hs
    obtain ⟨h1, h2, h3⟩ := cutS_len s
    have hc : (cutS s).2.2 = false := by
      cases h : (cutS s).2.2 with
      | false => rfl
      | true => have := h2 h; omega
    have hb1 := hb s z hs
    rw [hc, h3 hc] at hb1
    simp only [partsF, rangeO]
    cases hf : f z s with
    | none =>
      rw [hf] at hb1
      exact loopO_none hb1
    | some y =>
      rw [hf] at hb1
      cases y with
      | inl z2 => exact loopO_end hb1
      | inr x => exact loopO_end hb1
  | succ n ih =>
    intro s z hn hs
    obtain ⟨h1, h2, h3⟩ := cutS_len s
    have hb1 := hb s z hs
    unfold partsF
    cases hc : (cutS s).2.2 with
    | true =>
      rw [hc] at hb1
      simp only [if_pos, rangeO]
      cases hf : f z (cutS s).1 with
      | none => rw [hf] at hb1; exact loopO_none hb1
      | some y =>
        rw [hf] at hb1
        cases y with
        | inl z2 => rw [loopO_next hb1]; exact ih _ _ (by have := h2 hc; omega) (by have := h2 hc; omega)
        | inr x => exact loopO_end hb1
    | false =>
      rw [hc, h3 hc] at hb1
      simp only [Bool.false_eq_true, if_false, rangeO]
      cases hf : f z s with
      | none => rw [hf] at hb1; exact loopO_none hb1
      | some y =>
        rw [hf] at hb1
        cases y with
        | inl z2 => exact loopO_end hb1
        | inr x => exact loopO_end hb1
theorem label_parts {σ ρ : Type} {f : σ → List UInt8 → Option (σ ⊕ ρ)} {s : List UInt8} {z : σ} (hs : s.length ≤ 4611686018427387904) : M_label_parts_1_p f s z = rangeO f (partsS s) z := by
  unfold M_label_parts_1_p partsS
  rw [parts_loop s.length s z (Nat.le_refl _) hs]
  cases rangeO f (partsF s.length s) z <;> rfl
theorem partsF_len : ∀ (n : Nat) (s : List UInt8), ∀ p ∈ partsF n s, p.length ≤ s.length
  | 0, s, p, hp => by simp only [partsF, List.mem_singleton] at hp; subst hp; exact Nat.le_refl _
  | n + 1, s, p, hp => by
    obtain ⟨h1, h2, h3⟩ := cutS_len s
    unfold partsF at hp
    split at hp
    · rename_i hc
      rcases List.mem_cons.1 hp with rfl | hp
      · exact h1
      · have := partsF_len n _ p hp; have := h2 hc; omega
    · simp only [List.mem_singleton] at hp; subst hp; exact Nat.le_refl _
/-! ### parts -/
noncomputable def plainS (c : UInt8) : Bool := (M_label_plain c).getD false
theorem label_plain (c : UInt8) : M_label_plain c = some (plainS c) := by
  unfold plainS M_label_plain M_label_plain_k1 M_label_plain_k2
  repeat' split
  all_goals rfl
theorem plain_loop09 {s : List UInt8} (hs : s.length ≤ 140737488355328) : ∀ (d k : Nat), s.length = k + d →
    loopO (fun z_ => M_label_Part_b2 s z_) (k : Int) = some (if (s.drop k).all plainS = true then .inl () else .inr false) := by
  intro d
  induction d with
  | zero =>
    intro k h
    rw [loopO_end (r := .inl ()) (by unfold M_label_Part_b2; rw [if_neg (by omega)]), List.drop_of_length_le (by omega)]; rfl
  | succ d ih =>
    intro k h
    have hk : k < s.length := by omega
    have hb : M_label_Part_b2 s (k : Int) = if plainS s[k] = true then some (.inl ((k : Int) + 1)) else some (.inr (.inr false)) := by
      unfold M_label_Part_b2
      rw [if_pos (by omega), at?_in hk, Option.bind_some, label_plain, Option.bind_some, if_pos (ok_small (by omega))]
    rw [List.drop_eq_getElem_cons hk, List.all_cons]
    cases hp : plainS s[k] with
    | true => rw [loopO_next (s' := ((k + 1 : Nat) : Int)) (by show M_label_Part_b2 s (k : Int) = _; rw [hb, if_pos hp]; rfl), ih (k + 1) (by omega), Bool.true_and]
    | false => rw [loopO_end (r := .inr false) (by show M_label_Part_b2 s (k : Int) = _; rw [hb, if_neg (by rw [hp]; decide)])]; rfl
noncomputable def partS (s : List UInt8) : Bool := decide (1 ≤ s.length ∧ s.length ≤ 63) && (!decide (s[0]? = some 45) && (!decide (s[s.length - 1]? = some 45) && s.all plainS))
theorem label_part {s : List UInt8} (hs : s.length ≤ 140737488355328) : M_label_Part s = some (partS s) := by
  have hk1 : M_label_Part_k1 s true = some false := rfl
  have hk2 : M_label_Part_k1 s false = some (s.all plainS) := by
    have := plain_loop09 hs s.length 0 (by omega)
    rw [show ((0 : Nat) : Int) = 0 from rfl, List.drop_zero] at this
    unfold M_label_Part_k1
    rw [if_neg (by decide), if_pos hs, this, Option.bind_some]
    cases s.all plainS <;> rfl
  unfold M_label_Part partS
  by_cases h1 : (s.length : Int) < 1
  · rw [if_pos h1, hk1, decide_eq_false (by omega)]; rfl
  · rw [if_neg h1]
    by_cases h2 : (63 : Int) < s.length
    · rw [if_pos h2, hk1, decide_eq_false (by omega)]; rfl
    · have h0 : 0 < s.length := by omega
      have hl : s.length - 1 < s.length := by omega
      rw [if_neg h2, decide_eq_true (by omega), show (0 : Int) = ((0 : Nat) : Int) from rfl, at?_in h0, Option.bind_some, if_pos (ok_small (by omega)),
        show (s.length : Int) - 1 = ((s.length - 1 : Nat) : Int) by omega, at?_in hl, Option.bind_some, List.getElem?_eq_getElem h0, List.getElem?_eq_getElem hl]
      by_cases h3 : s[0] = 45
      · rw [if_pos h3, hk1]; simp [h3]
      · rw [if_neg h3]
        by_cases h4 : s[s.length - 1] = 45
        · rw [decide_eq_true h4, hk1]; simp [h4]
        · rw [decide_eq_false h4, hk2]; simp [h3, h4]
noncomputable def goodN (s : List UInt8) : Bool := decide (s.length ≤ 253) && (partsS s).all partS
theorem good_range : ∀ (l : List (List UInt8)), (∀ p ∈ l, p.length ≤ 140737488355328) → rangeO (fun (_ : Unit) x => M_label_Good_r1 x) l () = some (if l.all partS = true then .inl () else .inr ())
  | [], _ => rfl
  | p :: l, h => by
    have hp : M_label_Good_r1 p = some (if partS p = true then .inl () else .inr ()) := by
      unfold M_label_Good_r1
      rw [label_part (h p (List.mem_cons_self ..)), Option.bind_some]
      split <;> rfl
    rw [List.all_cons]
    unfold rangeO
    rw [hp]
    cases hh : partS p with
    | true => simp only [if_pos, Bool.true_and]; exact good_range l (fun q hq => h q (List.mem_cons_of_mem _ hq))
    | false => rfl
theorem label_good {s : List UInt8} (hs : s.length ≤ 140737488355328) : M_label_Good s = some (goodN s) := by
  unfold M_label_Good goodN
  by_cases h : (253 : Int) < s.length
  · rw [if_pos h, decide_eq_false (by omega)]; rfl
  · rw [if_neg h, decide_eq_true (by omega), show M_label_parts s = some () from rfl, Option.bind_some, label_parts (by omega), good_range _ (fun p hp => by have := partsF_len _ _ p hp; omega), Option.bind_some]
    cases (partsS s).all partS <;> rfl
/-! ### texts folded -/
def foldC (c : UInt8) : UInt8 := if 65 ≤ c ∧ c ≤ 90 then c ||| 32 else c
def foldS (s : List UInt8) : List UInt8 := s.map foldC
theorem fold_loop09 {s : List UInt8} (hs : s.length ≤ 140737488355328) : ∀ (d k : Nat), s.length = k + d →
    loopO (fun z_ => M_label_Fold_b1 s z_.1 z_.2) ((s.take k).map foldC ++ s.drop k, (k : Int)) = some (foldS s) := by
  intro d
  induction d with
  | zero =>
    intro k h
    rw [loopO_end (r := (s.take k).map foldC ++ s.drop k) (by unfold M_label_Fold_b1; rw [if_neg (by omega)]), List.drop_of_length_le (by omega), List.take_of_length_le (by omega), List.append_nil]; rfl
  | succ d ih =>
    intro k h
    have hk : k < s.length := by omega
    have hlen : ((s.take k).map foldC).length = k := by rw [List.length_map, List.length_take]; omega
    have hx : at? ((s.take k).map foldC ++ s.drop k) (k : Int) = some s[k] := by
      rw [at?_nat, List.getElem?_append_right (by omega), hlen, Nat.sub_self, List.getElem?_drop, Nat.add_zero, List.getElem?_eq_getElem hk]
    have hset : ∀ c : UInt8, ((s.take k).map foldC ++ s.drop k).set k c = (s.take k).map foldC ++ c :: s.drop (k + 1) := by
      intro c
      rw [List.set_append_right _ _ (by omega), hlen, Nat.sub_self, List.drop_eq_getElem_cons hk]; rfl
    have hnext : (s.take (k + 1)).map foldC ++ s.drop (k + 1) = (s.take k).map foldC ++ foldC s[k] :: s.drop (k + 1) := by
      rw [List.take_succ_eq_append_getElem hk, List.map_append, List.append_assoc]; rfl
    have hsame : (s.take k).map foldC ++ s.drop k = (s.take k).map foldC ++ s[k] :: s.drop (k + 1) := by rw [← List.drop_eq_getElem_cons hk]
    have hb : M_label_Fold_b1 s ((s.take k).map foldC ++ s.drop k) (k : Int) = some (.inl ((s.take (k + 1)).map foldC ++ s.drop (k + 1), ((k + 1 : Nat) : Int))) := by
      unfold M_label_Fold_b1 M_label_Fold_k2
      rw [if_pos (by omega), hx, Option.bind_some, hnext]
      by_cases h1 : 65 ≤ s[k]
      · rw [if_pos h1]
        by_cases h2 : s[k] ≤ 90
        · rw [if_pos (decide_eq_true h2), Option.bind_some, if_pos (ok_small (by omega)), show foldC s[k] = s[k] ||| 32 from if_pos ⟨h1, h2⟩, show ((k : Int)).toNat = k from rfl, hset]; rfl
        · rw [if_neg (by simpa using h2), if_pos (ok_small (by omega)), show foldC s[k] = s[k] from if_neg (fun hh => h2 hh.2), ← hsame]; rfl
      · rw [if_neg h1, if_neg (by decide), if_pos (ok_small (by omega)), show foldC s[k] = s[k] from if_neg (fun hh => h1 hh.1), ← hsame]; rfl
    rw [loopO_next hb]
    exact ih (k + 1) (by omega)
theorem label_fold {s : List UInt8} (hs : s.length ≤ 140737488355328) : M_label_Fold s = some (foldS s) := by
  unfold M_label_Fold
  have := fold_loop09 hs s.length 0 (by omega)
  rw [List.take_zero, List.map_nil, List.nil_append, List.drop_zero, show ((0 : Nat) : Int) = 0 from rfl] at this
  rw [if_pos hs, this]; rfl
theorem foldS_len (s : List UInt8) : (foldS s).length = s.length := by unfold foldS; rw [List.length_map]
/-! ### under -/
def sufS (s t : List UInt8) : Bool := decide (t.length ≤ s.length) && decide (s.drop (s.length - t.length) = t)
theorem strings_suffix {s t : List UInt8} (hs : s.length ≤ 4611686018427387904) : M_strings_HasSuffix s t = some (sufS s t) := by
  unfold M_strings_HasSuffix M_stringslite_HasSuffix sufS
  by_cases h : t.length ≤ s.length
  · rw [if_pos (by omega), if_pos (ok_small (by omega)), if_pos (by omega), decide_eq_true h, show ((s.length : Int) - (t.length : Int)).toNat = s.length - t.length by omega]; rfl
  · rw [if_neg (by omega), decide_eq_false h]; rfl
theorem sufS_iff {s t : List UInt8} : sufS s t = true ↔ ∃ p, s = p ++ t := by
  unfold sufS
  rw [Bool.and_eq_true, decide_eq_true_eq, decide_eq_true_eq]
  constructor
  · rintro ⟨h1, h2⟩
    exact ⟨s.take (s.length - t.length), by conv => rhs; rhs; rw [← h2]
                                            rw [List.take_append_drop]⟩
  · rintro ⟨p, rfl⟩
    refine ⟨by simp, ?_⟩
    rw [List.length_append, Nat.add_sub_cancel, List.drop_left]
noncomputable def underS (s z : List UInt8) : Bool := goodN s && (goodN z && (decide (foldS s = foldS z) || sufS (foldS s) (46 :: foldS z)))
theorem label_under {s z : List UInt8} (hs : s.length ≤ 140737488355328) (hz : z.length ≤ 140737488355328) : M_label_Under s z = some (underS s z) := by
  have hk1 : M_label_Under_k1 s z true = some false := rfl
  have hk2 : M_label_Under_k1 s z false = some (decide (foldS s = foldS z) || sufS (foldS s) (46 :: foldS z)) := by
    unfold M_label_Under_k1 M_label_Same
    rw [if_neg (by decide), label_fold hs, label_fold hz, Option.bind_some, Option.bind_some, Option.bind_some]
    by_cases h : foldS s = foldS z
    · rw [if_pos (decide_eq_true h), decide_eq_true h]; rfl
    · rw [if_neg (by simpa using h), Option.bind_some, Option.bind_some, if_pos (by rw [foldS_len]; omega), strings_suffix (by rw [foldS_len]; omega), decide_eq_false h]; rfl
  unfold M_label_Under underS
  rw [label_good hs, Option.bind_some, label_good hz]
  cases goodN s with
  | false => rw [if_neg (by decide), hk1]; rfl
  | true =>
    rw [if_pos rfl, Option.bind_some]
    cases goodN z with
    | false => rw [Bool.not_false, hk1]; rfl
    | true => rw [Bool.not_true, hk2]; rfl
theorem under_iff {s z : List UInt8} : underS s z = true ↔ goodN s = true ∧ goodN z = true ∧ (foldS s = foldS z ∨ ∃ p, foldS s = p ++ 46 :: foldS z) := by
  unfold underS
  rw [Bool.and_eq_true, Bool.and_eq_true, Bool.or_eq_true, decide_eq_true_eq, sufS_iff]
theorem under_trans {a b c : List UInt8} (h : underS a b = true) (k : underS b c = true) : underS a c = true := by
  rw [under_iff] at h k ⊢
  obtain ⟨h1, h2, h3⟩ := h
  obtain ⟨k1, k2, k3⟩ := k
  refine ⟨h1, k2, ?_⟩
  rcases h3 with h3 | ⟨p, h3⟩
  · rw [h3]; exact k3
  · rcases k3 with k3 | ⟨q, k3⟩
    · rw [← k3]; exact .inr ⟨p, h3⟩
    · exact .inr ⟨p ++ 46 :: q, by rw [h3, k3, List.append_assoc, List.cons_append]⟩
theorem under_anti {a b : List UInt8} (h : underS a b = true) (k : underS b a = true) : foldS a = foldS b := by
  rw [under_iff] at h k
  rcases h.2.2 with h3 | ⟨p, h3⟩
  · exact h3
  · have h4 := congrArg List.length h3
    rw [List.length_append, List.length_cons] at h4
    rcases k.2.2 with k3 | ⟨q, k3⟩
    · exact k3.symm
    · have k4 := congrArg List.length k3
      rw [List.length_append, List.length_cons] at k4
      omega
theorem under_self (a : List UInt8) : underS a a = goodN a := by
  unfold underS
  rw [decide_eq_true rfl, Bool.true_or, Bool.and_true, Bool.and_self]
/-! ### the probe -/
theorem wire_range : ∀ (l : List (List UInt8)) (out : List UInt8), (∀ p ∈ l, p.length ≤ 63) → out.length + 64 * l.length ≤ 140737488355328 →
    rangeO (fun (y_ : List UInt8) x => M_label_Wire_r1 y_ x) l out = some (.inl (l.foldl (fun o p => o ++ UInt8.ofInt (p.length : Int) :: p) out))
  | [], out, _, _ => rfl
  | p :: l, out, h, hl => by
    have hp := h p (List.mem_cons_self ..)
    rw [List.length_cons] at hl
    have h1 : M_label_Wire_r1 out p = some (.inl (out ++ UInt8.ofInt (p.length : Int) :: p)) := by
      unfold M_label_Wire_r1 M_label_Wire_1_po
      rw [if_pos (by omega), if_pos (by rw [List.length_append]; simp; omega), Option.bind_some, List.append_assoc]; rfl
    unfold rangeO
    rw [h1]
    simp only [List.foldl_cons]
    exact wire_range l _ (fun q hq => h q (List.mem_cons_of_mem _ hq)) (by rw [List.length_append, List.length_cons]; omega)
theorem lives09 : M_signpostlaw09_lives = some true := by
  have hp : partsS [97, 46, 98, 99] = [[97], [98, 99]] := by decide
  have hg : goodN [97, 46, 98, 99] = true := by unfold goodN; rw [hp]; decide
  have hw : M_label_Wire [97, 46, 98, 99] = some ([1, 97, 2, 98, 99, 0], 0) := by
    unfold M_label_Wire
    rw [label_good (by decide), Option.bind_some, if_pos hg, show M_label_parts [97, 46, 98, 99] = some () from rfl, Option.bind_some, label_parts (by decide), hp, wire_range _ _ (by decide) (by decide), Option.bind_some]
    decide
  have p1 : partsS [120, 46, 97, 46, 66, 67] = [[120], [97], [66, 67]] := by decide
  have p2 : partsS [65, 46, 98, 99] = [[65], [98, 99]] := by decide
  have h1 : underS [120, 46, 97, 46, 66, 67] [65, 46, 98, 99] = true := by unfold underS goodN; rw [p1, p2]; decide
  have h2 : underS [120, 97, 46, 98, 99] [97, 46, 98, 99] = false := by
    unfold underS
    rw [show (decide (foldS [120, 97, 46, 98, 99] = foldS [97, 46, 98, 99]) || sufS (foldS [120, 97, 46, 98, 99]) (46 :: foldS [97, 46, 98, 99])) = false by decide]
    simp
  unfold M_signpostlaw09_lives
  rw [hw, Option.bind_some]
  simp only [if_pos]
  rw [label_under (by decide) (by decide), Option.bind_some, h1, if_pos rfl, label_under (by decide) (by decide), Option.bind_some, h2]
  rfl
/-! ### the statement -/
theorem pure_LabelUnder (a : List UInt8) (b : List UInt8) (c : List UInt8) (wf_a : a.length ≤ 140737488351232) (wf_b : b.length ≤ 140737488351232) (wf_c : c.length ≤ 140737488351232) : M_signpostlaw09_LabelUnder a b c = some true := by
  have hk1 : M_signpostlaw09_LabelUnder_k1 a b = some true := by
    unfold M_signpostlaw09_LabelUnder_k1 M_label_Same
    rw [label_under (by omega) (by omega), Option.bind_some, label_under (by omega) (by omega), label_fold (by omega), label_fold (by omega), lives09]
    simp only [Option.bind_some]
    cases h : underS a b with
    | false => rfl
    | true =>
      cases k : underS b a with
      | false => rfl
      | true => rw [if_pos rfl, if_pos rfl, if_pos (decide_eq_true (under_anti h k))]
  have e2 : M_label_Under_2 a = M_label_Under a a := rfl
  unfold M_signpostlaw09_LabelUnder
  rw [if_pos (ok_small (by omega)), if_pos (ok_small (by omega)), lives09]
  by_cases h : (1500 : Int) < (a.length : Int) + b.length + c.length
  · rw [if_pos h]; rfl
  · rw [if_neg h, label_good (by omega), Option.bind_some, e2, label_under (by omega) (by omega), Option.bind_some, under_self, if_pos rfl, label_under (by omega) (by omega), Option.bind_some, label_under (by omega) (by omega), label_under (by omega) (by omega), hk1]
    cases h1 : underS a b with
    | false => rfl
    | true =>
      rw [if_pos rfl, Option.bind_some]
      cases h2 : underS b c with
      | false => rfl
      | true => rw [if_pos rfl, Option.bind_some, under_trans h1 h2, if_pos rfl]
end Go.Proofs.Ytaaahjcldomnbaa
