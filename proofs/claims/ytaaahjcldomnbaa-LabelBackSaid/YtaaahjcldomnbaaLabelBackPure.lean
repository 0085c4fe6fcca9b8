/-
  What the functions that the statement LabelBack reaches compute, as plain laws; and the statement about them. No condition.
-/
import Derived.Test.YtaaahjcldomnbaaLabelBackMod
import Derived.Test.YtaaahjcldomnbaaBPure
namespace Go.Proofs.Ytaaahjcldomnbaa
open Go Go.RowKit
set_option linter.unusedVariables false
set_option linter.unusedSimpArgs false
/-! ### names -/
theorem idx_lt : ∀ (l : List UInt8) (c : UInt8), -1 ≤ Lib.indexByte l c ∧ (0 ≤ Lib.indexByte l c → Lib.indexByte l c < l.length)
  | [], c => by simp [Lib.indexByte]
  | b :: l, c => by
    have h := idx_lt l c
    unfold Lib.indexByte
    simp only [List.length_cons]
    split
    · omega
    · split
      · omega
      · rename_i h1 h2
        simp only [beq_iff_eq] at h2
        omega
/-- A text cut at its first point. -/
def cutS (s : List UInt8) : List UInt8 × List UInt8 × Bool := if 0 ≤ Lib.indexByte s 46 then (s.take (Lib.indexByte s 46).toNat, s.drop (Lib.indexByte s 46 + 1).toNat, true) else (s, [], false)
theorem label_cut {s : List UInt8} (hs : s.length ≤ 4611686018427387904) : M_strings_Cut s = some (cutS s) := by
  have hi : M_stringslite_Index s = some (Lib.indexByte s 46) := by
    unfold M_stringslite_Index
    by_cases h : [46] = s
    · rw [if_pos h, ← h]; rfl
    · rw [if_neg h]; rfl
  have hb := idx_lt s 46
  unfold M_strings_Cut M_stringslite_Cut cutS
  rw [hi, Option.bind_some]
  by_cases h : 0 ≤ Lib.indexByte s 46
  · rw [if_pos h, if_pos (by omega), if_pos (ok_small (by omega)), if_pos (by omega), if_pos h]; rfl
  · rw [if_neg h, if_neg h]; rfl
/-- The texts between points. -/
def partsF : Nat → List UInt8 → List (List UInt8)
  | 0, s => [s]
  | n + 1, s => if (cutS s).2.2 = true then (cutS s).1 :: partsF n (cutS s).2.1 else [s]
def partsS (s : List UInt8) : List (List UInt8) := partsF s.length s
theorem cutS_len (s : List UInt8) : (cutS s).1.length ≤ s.length ∧ ((cutS s).2.2 = true → (cutS s).2.1.length < s.length) ∧ ((cutS s).2.2 = false → (cutS s).1 = s) := by
  have hb := idx_lt s 46
  unfold cutS
  split
  · refine ⟨by simp only [List.length_take]; omega, fun _ => ?_, fun h => (by cases h)⟩
    simp only [List.length_drop]; omega
  · exact ⟨Nat.le_refl _, (fun h => by cases h), fun _ => rfl⟩
theorem parts_loop {σ ρ : Type} {f : σ → List UInt8 → Option (σ ⊕ ρ)} : ∀ (n : Nat) (s : List UInt8) (z : σ), s.length ≤ n → s.length ≤ 4611686018427387904 →
    loopO (fun z_ => M_label_parts_1_p_b1 f z_.1 z_.2) (z, s) = rangeO f (partsF n s) z := by
  have hb : ∀ (s : List UInt8) (z : σ), s.length ≤ 4611686018427387904 → M_label_parts_1_p_b1 f z s = (f z (cutS s).1).bind fun y => match y with
      | .inl z2 => if (cutS s).2.2 = true then some (.inl (z2, (cutS s).2.1)) else some (.inr (.inl z2))
      | .inr x => some (.inr (.inr x)) := by
    intro s z hs
    unfold M_label_parts_1_p_b1
    rw [label_cut hs, Option.bind_some]
    rfl
  intro n
  induction n with
  | zero =>
    intro s z hn hs
    obtain ⟨h1, h2, h3⟩ := cutS_len s
    have hc : (cutS s).2.2 = false := by
      cases h : (cutS s).2.2 with
      | false => rfl
      | true => have := h2 h; omega
    have hb1 := hb s z hs
    rw [hc, h3 hc] at hb1
    simp only [partsF, rangeO]
    cases hf : f z s with
    | none =>
      rw [hf] at hb1
      exact loopO_none hb1
    | some y =>
      rw [hf] at hb1
      cases y with
      | inl z2 => exact loopO_end hb1
      | inr x => exact loopO_end hb1
  | succ n ih =>
    intro s z hn hs
    obtain ⟨h1, h2, h3⟩ := cutS_len s
    have hb1 := hb s z hs
    unfold partsF
    cases hc : (cutS s).2.2 with
    | true =>
      rw [hc] at hb1
      simp only [if_pos, rangeO]
      cases hf : f z (cutS s).1 with
      | none => rw [hf] at hb1; exact loopO_none hb1
      | some y =>
        rw [hf] at hb1
        cases y with
        | inl z2 => rw [loopO_next hb1]; exact ih _ _ (by have := h2 hc; omega) (by have := h2 hc; omega)
        | inr x => exact loopO_end hb1
    | false =>
      rw [hc, h3 hc] at hb1
      simp only [Bool.false_eq_true, if_false, rangeO]
      cases hf : f z s with
      | none => rw [hf] at hb1; exact loopO_none hb1
      | some y =>
        rw [hf] at hb1
        cases y with
        | inl z2 => exact loopO_end hb1
        | inr x => exact loopO_end hb1
theorem label_parts {σ ρ : Type} {f : σ → List UInt8 → Option (σ ⊕ ρ)} {s : List UInt8} {z : σ} (hs : s.length ≤ 4611686018427387904) : M_label_parts_1_p f s z = rangeO f (partsS s) z := by
  unfold M_label_parts_1_p partsS
  rw [parts_loop s.length s z (Nat.le_refl _) hs]
  cases rangeO f (partsF s.length s) z <;> rfl
theorem partsF_len : ∀ (n : Nat) (s : List UInt8), ∀ p ∈ partsF n s, p.length ≤ s.length
  | 0, s, p, hp => by simp only [partsF, List.mem_singleton] at hp; subst hp; exact Nat.le_refl _
  | n + 1, s, p, hp => by
    obtain ⟨h1, h2, h3⟩ := cutS_len s
    unfold partsF at hp
    split at hp
    · rename_i hc
      rcases List.mem_cons.1 hp with rfl | hp
      · exact h1
      · have := partsF_len n _ p hp; have := h2 hc; omega
    · simp only [List.mem_singleton] at hp; subst hp; exact Nat.le_refl _
/-! ### parts -/
noncomputable def plainS (c : UInt8) : Bool := (M_label_plain c).getD false
theorem label_plain (c : UInt8) : M_label_plain c = some (plainS c) := by
  unfold plainS M_label_plain M_label_plain_k1 M_label_plain_k2
  repeat' split
  all_goals rfl
theorem plain_loop09 {s : List UInt8} (hs : s.length ≤ 140737488355328) : ∀ (d k : Nat), s.length = k + d →
    loopO (fun z_ => M_label_Part_b2 s z_) (k : Int) = some (if (s.drop k).all plainS = true then .inl () else .inr false) := by
  intro d
  induction d with
  | zero =>
    intro k h
    rw [loopO_end (r := .inl ()) (by unfold M_label_Part_b2; rw [if_neg (by omega)]), List.drop_of_length_le (by omega)]; rfl
  | succ d ih =>
    intro k h
    have hk : k < s.length := by omega
    have hb : M_label_Part_b2 s (k : Int) = if plainS s[k] = true then some (.inl ((k : Int) + 1)) else some (.inr (.inr false)) := by
      unfold M_label_Part_b2
      rw [if_pos (by omega), at?_in hk, Option.bind_some, label_plain, Option.bind_some, if_pos (ok_small (by omega))]
    rw [List.drop_eq_getElem_cons hk, List.all_cons]
    cases hp : plainS s[k] with
    | true => rw [loopO_next (s' := ((k + 1 : Nat) : Int)) (by show M_label_Part_b2 s (k : Int) = _; rw [hb, if_pos hp]; rfl), ih (k + 1) (by omega), Bool.true_and]
    | false => rw [loopO_end (r := .inr false) (by show M_label_Part_b2 s (k : Int) = _; rw [hb, if_neg (by rw [hp]; decide)])]; rfl
noncomputable def partS (s : List UInt8) : Bool := decide (1 ≤ s.length ∧ s.length ≤ 63) && (!decide (s[0]? = some 45) && (!decide (s[s.length - 1]? = some 45) && s.all plainS))
theorem label_part {s : List UInt8} (hs : s.length ≤ 140737488355328) : M_label_Part s = some (partS s) := by
  have hk1 : M_label_Part_k1 s true = some false := rfl
  have hk2 : M_label_Part_k1 s false = some (s.all plainS) := by
    have := plain_loop09 hs s.length 0 (by omega)
    rw [show ((0 : Nat) : Int) = 0 from rfl, List.drop_zero] at this
    unfold M_label_Part_k1
    rw [if_neg (by decide), if_pos hs, this, Option.bind_some]
    cases s.all plainS <;> rfl
  unfold M_label_Part partS
  by_cases h1 : (s.length : Int) < 1
  · rw [if_pos h1, hk1, decide_eq_false (by omega)]; rfl
  · rw [if_neg h1]
    by_cases h2 : (63 : Int) < s.length
    · rw [if_pos h2, hk1, decide_eq_false (by omega)]; rfl
    · have h0 : 0 < s.length := by omega
      have hl : s.length - 1 < s.length := by omega
      rw [if_neg h2, decide_eq_true (by omega), show (0 : Int) = ((0 : Nat) : Int) from rfl, at?_in h0, Option.bind_some, if_pos (ok_small (by omega)),
        show (s.length : Int) - 1 = ((s.length - 1 : Nat) : Int) by omega, at?_in hl, Option.bind_some, List.getElem?_eq_getElem h0, List.getElem?_eq_getElem hl]
      by_cases h3 : s[0] = 45
      · rw [if_pos h3, hk1]; simp [h3]
      · rw [if_neg h3]
        by_cases h4 : s[s.length - 1] = 45
        · rw [decide_eq_true h4, hk1]; simp [h4]
        · rw [decide_eq_false h4, hk2]; simp [h3, h4]
noncomputable def goodN (s : List UInt8) : Bool := decide (s.length ≤ 253) && (partsS s).all partS
theorem good_range : ∀ (l : List (List UInt8)), (∀ p ∈ l, p.length ≤ 140737488355328) → rangeO (fun (_ : Unit) x => M_label_Good_r1 x) l () = some (if l.all partS = true then .inl () else .inr ())
  | [], _ => rfl
  | p :: l, h => by
    have hp : M_label_Good_r1 p = some (if partS p = true then .inl () else .inr ()) := by
      unfold M_label_Good_r1
      rw [label_part (h p (List.mem_cons_self ..)), Option.bind_some]
      split <;> rfl
    rw [List.all_cons]
    unfold rangeO
    rw [hp]
    cases hh : partS p with
    | true => simp only [if_pos, Bool.true_and]; exact good_range l (fun q hq => h q (List.mem_cons_of_mem _ hq))
    | false => rfl
theorem label_good {s : List UInt8} (hs : s.length ≤ 140737488355328) : M_label_Good s = some (goodN s) := by
  unfold M_label_Good goodN
  by_cases h : (253 : Int) < s.length
  · rw [if_pos h, decide_eq_false (by omega)]; rfl
  · rw [if_neg h, decide_eq_true (by omega), show M_label_parts s = some () from rfl, Option.bind_some, label_parts (by omega), good_range _ (fun p hp => by have := partsF_len _ _ p hp; omega), Option.bind_some]
    cases (partsS s).all partS <;> rfl
/-! ### texts folded -/
def foldC (c : UInt8) : UInt8 := if 65 ≤ c ∧ c ≤ 90 then c ||| 32 else c
def foldS (s : List UInt8) : List UInt8 := s.map foldC
theorem fold_loop09 {s : List UInt8} (hs : s.length ≤ 140737488355328) : ∀ (d k : Nat), s.length = k + d →
    loopO (fun z_ => M_label_Fold_b1 s z_.1 z_.2) ((s.take k).map foldC ++ s.drop k, (k : Int)) = some (foldS s) := by
  intro d
  induction d with
  | zero =>
    intro k h
    rw [loopO_end (r := (s.take k).map foldC ++ s.drop k) (by unfold M_label_Fold_b1; rw [if_neg (by omega)]), List.drop_of_length_le (by omega), List.take_of_length_le (by omega), List.append_nil]; rfl
  | succ d ih =>
    intro k h
    have hk : k < s.length := by omega
    have hlen : ((s.take k).map foldC).length = k := by rw [List.length_map, List.length_take]; omega
    have hx : at? ((s.take k).map foldC ++ s.drop k) (k : Int) = some s[k] := by
      rw [at?_nat, List.getElem?_append_right (by omega), hlen, Nat.sub_self, List.getElem?_drop, Nat.add_zero, List.getElem?_eq_getElem hk]
    have hset : ∀ c : UInt8, ((s.take k).map foldC ++ s.drop k).set k c = (s.take k).map foldC ++ c :: s.drop (k + 1) := by
      intro c
      rw [List.set_append_right _ _ (by omega), hlen, Nat.sub_self, List.drop_eq_getElem_cons hk]; rfl
    have hnext : (s.take (k + 1)).map foldC ++ s.drop (k + 1) = (s.take k).map foldC ++ foldC s[k] :: s.drop (k + 1) := by
      rw [List.take_succ_eq_append_getElem hk, List.map_append, List.append_assoc]; rfl
    have hsame : (s.take k).map foldC ++ s.drop k = (s.take k).map foldC ++ s[k] :: s.drop (k + 1) := by rw [← List.drop_eq_getElem_cons hk]
    have hb : M_label_Fold_b1 s ((s.take k).map foldC ++ s.drop k) (k : Int) = some (.inl ((s.take (k + 1)).map foldC ++ s.drop (k + 1), ((k + 1 : Nat) : Int))) := by
      unfold M_label_Fold_b1 M_label_Fold_k2
      rw [if_pos (by omega), hx, Option.bind_some, hnext]
      by_cases h1 : 65 ≤ s[k]
      · rw [if_pos h1]
        by_cases h2 : s[k] ≤ 90
        · rw [if_pos (decide_eq_true h2), Option.bind_some, if_pos (ok_small (by omega)), show foldC s[k] = s[k] ||| 32 from if_pos ⟨h1, h2⟩, show ((k : Int)).toNat = k from rfl, hset]; rfl
        · rw [if_neg (by simpa using h2), if_pos (ok_small (by omega)), show foldC s[k] = s[k] from if_neg (fun hh => h2 hh.2), ← hsame]; rfl
      · rw [if_neg h1, if_neg (by decide), if_pos (ok_small (by omega)), show foldC s[k] = s[k] from if_neg (fun hh => h1 hh.1), ← hsame]; rfl
    rw [loopO_next hb]
    exact ih (k + 1) (by omega)
theorem label_fold {s : List UInt8} (hs : s.length ≤ 140737488355328) : M_label_Fold s = some (foldS s) := by
  unfold M_label_Fold
  have := fold_loop09 hs s.length 0 (by omega)
  rw [List.take_zero, List.map_nil, List.nil_append, List.drop_zero, show ((0 : Nat) : Int) = 0 from rfl] at this
  rw [if_pos hs, this]; rfl
theorem foldS_len (s : List UInt8) : (foldS s).length = s.length := by unfold foldS; rw [List.length_map]
/-! ### under -/
def sufS (s t : List UInt8) : Bool := decide (t.length ≤ s.length) && decide (s.drop (s.length - t.length) = t)
theorem strings_suffix {s t : List UInt8} (hs : s.length ≤ 4611686018427387904) : M_strings_HasSuffix s t = some (sufS s t) := by
  unfold M_strings_HasSuffix M_stringslite_HasSuffix sufS
  by_cases h : t.length ≤ s.length
  · rw [if_pos (by omega), if_pos (ok_small (by omega)), if_pos (by omega), decide_eq_true h, show ((s.length : Int) - (t.length : Int)).toNat = s.length - t.length by omega]; rfl
  · rw [if_neg (by omega), decide_eq_false h]; rfl
theorem sufS_iff {s t : List UInt8} : sufS s t = true ↔ ∃ p, s = p ++ t := by
  unfold sufS
  rw [Bool.and_eq_true, decide_eq_true_eq, decide_eq_true_eq]
  constructor
  · rintro ⟨h1, h2⟩
    exact ⟨s.take (s.length - t.length), by conv => rhs; rhs; rw [← h2]
                                            rw [List.take_append_drop]⟩
  · rintro ⟨p, rfl⟩
    refine ⟨by simp, ?_⟩
    rw [List.length_append, Nat.add_sub_cancel, List.drop_left]
noncomputable def underS (s z : List UInt8) : Bool := goodN s && (goodN z && (decide (foldS s = foldS z) || sufS (foldS s) (46 :: foldS z)))
theorem label_under {s z : List UInt8} (hs : s.length ≤ 140737488355328) (hz : z.length ≤ 140737488355328) : M_label_Under s z = some (underS s z) := by
  have hk1 : M_label_Under_k1 s z true = some false := rfl
  have hk2 : M_label_Under_k1 s z false = some (decide (foldS s = foldS z) || sufS (foldS s) (46 :: foldS z)) := by
    unfold M_label_Under_k1 M_label_Same
    rw [if_neg (by decide), label_fold hs, label_fold hz, Option.bind_some, Option.bind_some, Option.bind_some]
    by_cases h : foldS s = foldS z
    · rw [if_pos (decide_eq_true h), decide_eq_true h]; rfl
    · rw [if_neg (by simpa using h), Option.bind_some, Option.bind_some, if_pos (by rw [foldS_len]; omega), strings_suffix (by rw [foldS_len]; omega), decide_eq_false h]; rfl
  unfold M_label_Under underS
  rw [label_good hs, Option.bind_some, label_good hz]
  cases goodN s with
  | false => rw [if_neg (by decide), hk1]; rfl
  | true =>
    rw [if_pos rfl, Option.bind_some]
    cases goodN z with
    | false => rw [Bool.not_false, hk1]; rfl
    | true => rw [Bool.not_true, hk2]; rfl
theorem under_iff {s z : List UInt8} : underS s z = true ↔ goodN s = true ∧ goodN z = true ∧ (foldS s = foldS z ∨ ∃ p, foldS s = p ++ 46 :: foldS z) := by
  unfold underS
  rw [Bool.and_eq_true, Bool.and_eq_true, Bool.or_eq_true, decide_eq_true_eq, sufS_iff]
theorem under_trans {a b c : List UInt8} (h : underS a b = true) (k : underS b c = true) : underS a c = true := by
  rw [under_iff] at h k ⊢
  obtain ⟨h1, h2, h3⟩ := h
  obtain ⟨k1, k2, k3⟩ := k
  refine ⟨h1, k2, ?_⟩
  rcases h3 with h3 | ⟨p, h3⟩
  · rw [h3]; exact k3
  · rcases k3 with k3 | ⟨q, k3⟩
    · rw [← k3]; exact .inr ⟨p, h3⟩
    · exact .inr ⟨p ++ 46 :: q, by rw [h3, k3, List.append_assoc, List.cons_append]⟩
theorem under_anti {a b : List UInt8} (h : underS a b = true) (k : underS b a = true) : foldS a = foldS b := by
  rw [under_iff] at h k
  rcases h.2.2 with h3 | ⟨p, h3⟩
  · exact h3
  · have h4 := congrArg List.length h3
    rw [List.length_append, List.length_cons] at h4
    rcases k.2.2 with k3 | ⟨q, k3⟩
    · exact k3.symm
    · have k4 := congrArg List.length k3
      rw [List.length_append, List.length_cons] at k4
      omega
theorem under_self (a : List UInt8) : underS a a = goodN a := by
  unfold underS
  rw [decide_eq_true rfl, Bool.true_or, Bool.and_true, Bool.and_self]
/-! ### the probe -/
theorem wire_range : ∀ (l : List (List UInt8)) (out : List UInt8), (∀ p ∈ l, p.length ≤ 63) → out.length + 64 * l.length ≤ 140737488355328 →
    rangeO (fun (y_ : List UInt8) x => M_label_Wire_r1 y_ x) l out = some (.inl (l.foldl (fun o p => o ++ UInt8.ofInt (p.length : Int) :: p) out))
  | [], out, _, _ => rfl
  | p :: l, out, h, hl => by
    have hp := h p (List.mem_cons_self ..)
    rw [List.length_cons] at hl
    have h1 : M_label_Wire_r1 out p = some (.inl (out ++ UInt8.ofInt (p.length : Int) :: p)) := by
      unfold M_label_Wire_r1 M_label_Wire_1_po
      rw [if_pos (by omega), if_pos (by rw [List.length_append]; simp; omega), Option.bind_some, List.append_assoc]; rfl
    unfold rangeO
    rw [h1]
    simp only [List.foldl_cons]
    exact wire_range l _ (fun q hq => h q (List.mem_cons_of_mem _ hq)) (by rw [List.length_append, List.length_cons]; omega)
theorem lives09 : M_signpostlaw09_lives = some true := by
  have hp : partsS [97, 46, 98, 99] = [[97], [98, 99]] := by decide
  have hg : goodN [97, 46, 98, 99] = true := by unfold goodN; rw [hp]; decide
  have hw : M_label_Wire [97, 46, 98, 99] = some ([1, 97, 2, 98, 99, 0], 0) := by
    unfold M_label_Wire
    rw [label_good (by decide), Option.bind_some, if_pos hg, show M_label_parts [97, 46, 98, 99] = some () from rfl, Option.bind_some, label_parts (by decide), hp, wire_range _ _ (by decide) (by decide), Option.bind_some]
    decide
  have p1 : partsS [120, 46, 97, 46, 66, 67] = [[120], [97], [66, 67]] := by decide
  have p2 : partsS [65, 46, 98, 99] = [[65], [98, 99]] := by decide
  have h1 : underS [120, 46, 97, 46, 66, 67] [65, 46, 98, 99] = true := by unfold underS goodN; rw [p1, p2]; decide
  have h2 : underS [120, 97, 46, 98, 99] [97, 46, 98, 99] = false := by
    unfold underS
    rw [show (decide (foldS [120, 97, 46, 98, 99] = foldS [97, 46, 98, 99]) || sufS (foldS [120, 97, 46, 98, 99]) (46 :: foldS [97, 46, 98, 99])) = false by decide]
    simp
  unfold M_signpostlaw09_lives
  rw [hw, Option.bind_some]
  simp only [if_pos]
  rw [label_under (by decide) (by decide), Option.bind_some, h1, if_pos rfl, label_under (by decide) (by decide), Option.bind_some, h2]
  rfl
/-! ### texts between points, byte by byte -/
/-- The texts between points; the first one has begun. -/
def spl (cur : List UInt8) : List UInt8 → List (List UInt8)
  | [] => [cur]
  | c :: t => if c = 46 then cur :: spl [] t else spl (cur ++ [c]) t
theorem spl_cut : ∀ (s cur : List UInt8), spl cur s = if 0 ≤ Lib.indexByte s 46 then (cur ++ s.take (Lib.indexByte s 46).toNat) :: spl [] (s.drop (Lib.indexByte s 46 + 1).toNat) else [cur ++ s]
  | [], cur => by simp [spl, Lib.indexByte]
  | c :: t, cur => by
    have h := spl_cut t (cur ++ [c])
    have hb := idx_lt t 46
    have e : Lib.indexByte (c :: t) 46 = if c = 46 then 0 else if Lib.indexByte t 46 = -1 then -1 else Lib.indexByte t 46 + 1 := by simp [Lib.indexByte]
    rw [e, spl]
    by_cases hc : c = 46
    · simp only [if_pos hc]; simp
    · simp only [if_neg hc]
      rw [h]
      by_cases hi : Lib.indexByte t 46 = -1
      · simp only [hi, reduceIte]; simp
      · simp only [if_neg hi]
        rw [if_pos (by omega), if_pos (by omega)]
        rw [show (Lib.indexByte t 46 + 1).toNat = (Lib.indexByte t 46).toNat + 1 by omega, show (Lib.indexByte t 46 + 1 + 1).toNat = (Lib.indexByte t 46).toNat + 1 + 1 by omega]
        simp
theorem partsF_spl : ∀ (n : Nat) (s : List UInt8), s.length ≤ n → partsF n s = spl [] s
  | 0, s, h => by
    have : s = [] := List.length_eq_zero_iff.1 (by omega)
    subst this; rfl
  | n + 1, s, h => by
    have hb := idx_lt s 46
    rw [spl_cut]
    unfold partsF cutS
    by_cases hi : 0 ≤ Lib.indexByte s 46
    · rw [if_pos hi, if_pos hi, if_pos rfl, partsF_spl n _ (by simp only [List.length_drop]; omega)]; rfl
    · rw [if_neg hi, if_neg hi, if_neg Bool.false_ne_true]; rfl
theorem partsS_spl (s : List UInt8) : partsS s = spl [] s := partsF_spl _ s (Nat.le_refl _)
theorem spl_count : ∀ (s cur : List UInt8), (spl cur s).length ≤ s.length + 1
  | [], cur => by simp [spl]
  | c :: t, cur => by
    unfold spl
    split
    · have := spl_count t []; simp only [List.length_cons]; omega
    · have := spl_count t (cur ++ [c]); simp only [List.length_cons]; omega
theorem partsS_count (s : List UInt8) : (partsS s).length ≤ s.length + 1 := by rw [partsS_spl]; exact spl_count s []
theorem part_len {p : List UInt8} (h : partS p = true) : 1 ≤ p.length ∧ p.length ≤ 63 := by
  unfold partS at h
  rw [Bool.and_eq_true, decide_eq_true_eq] at h
  exact h.1
theorem goodN_iff {s : List UInt8} : goodN s = true ↔ s.length ≤ 253 ∧ ∀ p ∈ partsS s, partS p = true := by
  unfold goodN
  rw [Bool.and_eq_true, decide_eq_true_eq, List.all_eq_true]
/-- The bytes of texts, each behind its length. -/
def wireL : List (List UInt8) → List UInt8
  | [] => []
  | p :: l => UInt8.ofInt (p.length : Int) :: p ++ wireL l
theorem wireL_fold : ∀ (l : List (List UInt8)) (o : List UInt8), l.foldl (fun o p => o ++ UInt8.ofInt (p.length : Int) :: p) o = o ++ wireL l
  | [], o => by simp [wireL]
  | p :: l, o => by
    rw [List.foldl_cons, wireL_fold l]; simp [wireL, List.append_assoc]
theorem wireL_len : ∀ (l : List (List UInt8)), (∀ p ∈ l, p.length ≤ 63) → (wireL l).length ≤ 64 * l.length
  | [], _ => by simp [wireL]
  | p :: l, h => by
    have := wireL_len l (fun q hq => h q (List.mem_cons_of_mem _ hq))
    have := h p (List.mem_cons_self ..)
    simp only [wireL, List.length_cons, List.length_append, List.cons_append]; omega
/-- A name's bytes. -/
def wireS (s : List UInt8) : List UInt8 := wireL (partsS s) ++ [0]
theorem label_wire {s : List UInt8} (hs : s.length ≤ 140737488355328) : M_label_Wire s = some (if goodN s = true then (wireS s, 0) else ([], 40)) := by
  unfold M_label_Wire
  rw [label_good hs, Option.bind_some]
  by_cases h : goodN s = true
  · have hg := goodN_iff.1 h
    have hc := partsS_count s
    have h63 : ∀ p ∈ partsS s, p.length ≤ 63 := fun p hp => (part_len (hg.2 p hp)).2
    have hw := wireL_len _ h63
    rw [if_pos h, if_pos h, show M_label_parts s = some () from rfl, Option.bind_some, label_parts (by omega), wire_range _ _ h63 (by simp only [List.length_nil]; omega), Option.bind_some, wireL_fold, List.nil_append]
    simp only []
    unfold M_label_Wire_1_po
    rw [if_pos (by omega), if_pos (by simp only [List.length_append, List.length_cons, List.length_nil]; omega), Option.bind_some]
    simp only [List.append_nil]; rfl
  · rw [if_neg h, if_neg h]
/-! ### names in bytes -/
/-- The texts that stand at the front of bytes, up to a nought, and what stands from there on; none: they do not stand there. -/
noncomputable def unwF : Nat → List UInt8 → Option (List (List UInt8) × List UInt8)
  | 0, r => some ([], r)
  | _ + 1, [] => some ([], [])
  | n + 1, c :: t => if c = 0 then some ([], c :: t) else
      if c.toNat ≤ t.length ∧ partS (t.take c.toNat) = true then (unwF n (t.drop c.toNat)).map fun x => (t.take c.toNat :: x.1, x.2) else none
theorem join_cons2 (x y : List UInt8) (r : List (List UInt8)) : Lib.join (x :: y :: r) [46] = x ++ 46 :: Lib.join (y :: r) [46] := by
  rw [Lib.join_cons, Lib.join_cons]; simp [Lib.joinTail]
theorem join_len : ∀ (l : List (List UInt8)), (Lib.join l [46]).length ≤ (wireL l).length
  | [] => by simp [Lib.join_nil]
  | [x] => by simp [Lib.join_one, wireL]
  | x :: y :: r => by
    have := join_len (y :: r)
    rw [join_cons2]; simp only [wireL, List.length_append, List.length_cons, List.cons_append] at this ⊢; omega
theorem unwF_ok : ∀ (n : Nat) (r : List UInt8) (l : List (List UInt8)) (r' : List UInt8), unwF n r = some (l, r') → r = wireL l ++ r' ∧ (∀ p ∈ l, partS p = true) ∧ (r.length ≤ n → r' = [] ∨ ∃ t, r' = 0 :: t)
  | 0, r, l, r', h => by
    simp only [unwF, Option.some.injEq, Prod.mk.injEq] at h
    obtain ⟨rfl, rfl⟩ := h
    refine ⟨rfl, (fun _ hh => by cases hh), fun hh => .inl (List.length_eq_zero_iff.1 (by omega))⟩
  | n + 1, [], l, r', h => by
    simp only [unwF, Option.some.injEq, Prod.mk.injEq] at h
    obtain ⟨rfl, rfl⟩ := h
    exact ⟨rfl, (fun _ hh => by cases hh), fun _ => .inl rfl⟩
  | n + 1, c :: t, l, r', h => by
    unfold unwF at h
    split at h
    · rename_i hc
      simp only [Option.some.injEq, Prod.mk.injEq] at h
      obtain ⟨rfl, rfl⟩ := h
      exact ⟨rfl, (fun _ hh => by cases hh), fun _ => .inr ⟨t, by rw [hc]⟩⟩
    · split at h
      · rename_i hc hp
        rw [Option.map_eq_some_iff] at h
        obtain ⟨⟨l2, r2⟩, h1, h2⟩ := h
        simp only [Prod.mk.injEq] at h2
        obtain ⟨rfl, rfl⟩ := h2
        obtain ⟨k1, k2, k3⟩ := unwF_ok n _ _ _ h1
        refine ⟨?_, ?_, ?_⟩
        · have hl : (t.take c.toNat).length = c.toNat := by rw [List.length_take]; omega
          have hc8 : UInt8.ofInt ((c.toNat : Nat) : Int) = c := by
            apply UInt8.toNat_inj.1
            have := c.toNat_lt
            simp [UInt8.ofInt, UInt8.toNat_ofNat']; omega
          simp only [wireL, hl, hc8, List.cons_append, List.append_assoc, ← k1, List.take_append_drop]
        · intro p hp'
          rcases List.mem_cons.1 hp' with rfl | hp'
          · exact hp.2
          · exact k2 p hp'
        · intro hn
          exact k3 (by simp only [List.length_cons, List.length_drop] at hn ⊢; omega)
      · cases h
theorem unwF_fuel : ∀ (n m : Nat) (r : List UInt8), r.length ≤ n → n ≤ m → unwF n r = unwF m r
  | 0, m, r, h, _ => by
    have : r = [] := List.length_eq_zero_iff.1 (by omega)
    subst this
    cases m <;> rfl
  | n + 1, 0, r, _, hm => by omega
  | n + 1, m + 1, [], _, _ => rfl
  | n + 1, m + 1, c :: t, h, hm => by
    rw [List.length_cons] at h
    unfold unwF
    rw [unwF_fuel n m (t.drop c.toNat) (by rw [List.length_drop]; omega) (by omega)]
/-- The part that stands at a place. -/
theorem label_piece {b : List UInt8} (hb : b.length ≤ 140737488355328) {k : Nat} (hk : k < b.length) : M_label_part_v b (k : Int) = some (if b[k].toNat ≤ (b.drop (k + 1)).length then (b.drop (k + 1)).take b[k].toNat else []) := by
  have hx := b[k].toNat_lt
  unfold M_label_part_v
  rw [if_neg (by omega), at?_in hk, Option.bind_some, if_pos (ok_small (by omega)), if_pos (ok_small (by omega))]
  by_cases h : b[k].toNat ≤ (b.drop (k + 1)).length
  · rw [if_pos h]
    rw [List.length_drop] at h
    rw [decide_eq_false (by omega)]
    unfold M_label_part_v_k1
    rw [if_neg (by decide), if_pos (ok_small (by omega)), if_pos (ok_small (by omega)), at?_in hk, Option.bind_some, if_pos (ok_small (by omega)), if_pos (by omega)]
    rw [show ((k : Int) + 1 + (b[k].toNat : Int)).toNat = k + 1 + b[k].toNat by omega, show ((k : Int) + 1).toNat = k + 1 by omega, List.drop_take, show k + 1 + b[k].toNat - (k + 1) = b[k].toNat by omega]
  · rw [if_neg h]
    rw [List.length_drop] at h
    rw [decide_eq_true (by omega)]; rfl
theorem partS_nil : partS [] = false := by unfold partS; rfl
theorem unwire_loop {b : List UInt8} (hb : b.length ≤ 1000000) : ∀ (d k : Nat) (l : List (List UInt8)), b.length = k + d → l.length ≤ k →
    loopO (fun z_ => M_label_Unwire_v_b2 b z_.1 z_.2) ((k : Int), l) = some (match unwF d (b.drop k) with
      | none => .inr ([], 0, 10)
      | some x => .inl (((b.length - x.2.length : Nat) : Int), l ++ x.1)) := by
  intro d
  induction d using Nat.strongRecOn with
  | ind d ih =>
    intro k l h hl
    by_cases hk : k < b.length
    · have hd : b.drop k = b[k] :: b.drop (k + 1) := List.drop_eq_getElem_cons hk
      obtain ⟨d, rfl⟩ : ∃ e, d = e + 1 := ⟨d - 1, by omega⟩
      have hb1 : M_label_Unwire_v_b2 b (k : Int) l = M_label_Unwire_v_k3 (k : Int) b l (!(decide (b[k] = 0))) := by
        unfold M_label_Unwire_v_b2
        rw [if_pos (by omega), at?_in hk, Option.bind_some]
      rw [hd]
      unfold unwF
      by_cases h0 : b[k] = 0
      · rw [loopO_end (r := .inl ((k : Int), l)) (by
          show M_label_Unwire_v_b2 b (k : Int) l = _
          rw [hb1, decide_eq_true h0]; rfl), if_pos h0]
        simp only [List.length_cons, List.length_drop, List.append_nil]
        rw [show b.length - (b.length - (k + 1) + 1) = k by omega]
      · rw [if_neg h0]
        have hk3 : M_label_Unwire_v_b2 b (k : Int) l = if b[k].toNat ≤ (b.drop (k + 1)).length ∧ partS ((b.drop (k + 1)).take b[k].toNat) = true
            then some (.inl (((k + (1 + b[k].toNat) : Nat) : Int), l ++ [(b.drop (k + 1)).take b[k].toNat])) else some (.inr (.inr ([], 0, 10))) := by
          rw [hb1, decide_eq_false h0]
          unfold M_label_Unwire_v_k3
          have hx := b[k].toNat_lt
          rw [if_pos (by decide), label_piece (by omega) hk, Option.bind_some]
          by_cases hn : b[k].toNat ≤ (b.drop (k + 1)).length
          · rw [if_pos hn]
            have hlen : ((b.drop (k + 1)).take b[k].toNat).length = b[k].toNat := by rw [List.length_take]; omega
            rw [label_part (by omega), Option.bind_some]
            by_cases hp : partS ((b.drop (k + 1)).take b[k].toNat) = true
            · rw [if_pos hp, if_pos (by omega), hlen, if_pos (ok_small (by omega)), if_pos (ok_small (by omega)), if_pos ⟨hn, hp⟩]
              rw [Int.natCast_add, Int.natCast_add]; rfl
            · rw [if_neg hp, if_neg (fun hh => hp hh.2)]
          · rw [if_neg hn, label_part (by simp), Option.bind_some, partS_nil, if_neg (by decide), if_neg (fun hh => hn hh.1)]
        by_cases hp : b[k].toNat ≤ (b.drop (k + 1)).length ∧ partS ((b.drop (k + 1)).take b[k].toNat) = true
        · rw [loopO_next (s' := (((k + (1 + b[k].toNat) : Nat) : Int), l ++ [(b.drop (k + 1)).take b[k].toNat])) (by
            show M_label_Unwire_v_b2 b (k : Int) l = _
            rw [hk3, if_pos hp]), if_pos hp]
          have hp1 := hp.1
          rw [List.length_drop] at hp1
          rw [ih (d - b[k].toNat) (by omega) _ _ (by omega) (by simp; omega), List.drop_drop, show k + 1 + b[k].toNat = k + (1 + b[k].toNat) by omega]
          rw [unwF_fuel (d - b[k].toNat) d _ (by rw [List.length_drop]; omega) (by omega)]
          cases unwF d (b.drop (k + (1 + b[k].toNat))) with
          | none => rfl
          | some x => simp
        · rw [loopO_end (r := .inr ([], 0, 10)) (by
            show M_label_Unwire_v_b2 b (k : Int) l = _
            rw [hk3, if_neg hp]), if_neg hp]
    · have : d = 0 := by omega
      subst this
      rw [loopO_end (r := .inl ((k : Int), l)) (by
        show M_label_Unwire_v_b2 b (k : Int) l = _
        unfold M_label_Unwire_v_b2 M_label_Unwire_v_k3
        rw [if_neg (by omega), if_neg (by decide)]), List.drop_of_length_le (by omega)]
      simp only [unwF, List.length_nil, List.append_nil, Nat.sub_zero]
      rw [show (b.length : Nat) = k by omega]
/-- The name that stands at a place. -/
noncomputable def unwS (b : List UInt8) (a : Int) : List UInt8 × Int × Int :=
  if a < 0 ∨ (b.length : Int) ≤ a then ([], 0, 30) else
  match unwF (b.length - a.toNat) (b.drop a.toNat) with
  | none => ([], 0, 10)
  | some x => if x.2 = [] then ([], 0, 10) else if goodN (Lib.join x.1 [46]) = true then (Lib.join x.1 [46], ((b.length - x.2.length + 1 : Nat) : Int), 0) else ([], 0, 10)
theorem label_unwire {b : List UInt8} (hb : b.length ≤ 1000000) (a : Int) : M_label_Unwire_v b a = some (unwS b a) := by
  have hk1 : M_label_Unwire_v_k1 a b true = some ([], 0, 30) := rfl
  unfold M_label_Unwire_v unwS
  by_cases h1 : a < 0
  · rw [if_pos h1, hk1, if_pos (.inl h1)]
  · rw [if_neg h1]
    by_cases h2 : (b.length : Int) ≤ a
    · rw [decide_eq_true h2, hk1, if_pos (.inr h2)]
    · rw [decide_eq_false h2, if_neg (by omega)]
      obtain ⟨k, rfl⟩ : ∃ n : Nat, a = n := ⟨a.toNat, by omega⟩
      have hloop := unwire_loop hb (b.length - k) k [] (by omega) (by simp)
      unfold M_label_Unwire_v_k1
      rw [if_neg (by decide), hloop, Option.bind_some, show ((k : Int)).toNat = k from rfl]
      cases hu : unwF (b.length - k) (b.drop k) with
      | none => rfl
      | some x =>
        obtain ⟨l, r⟩ := x
        obtain ⟨e, -, hr⟩ := unwF_ok _ _ _ _ hu
        have hlen := congrArg List.length e
        rw [List.length_append, List.length_drop] at hlen
        have hj := join_len l
        have hcount : l.length ≤ (wireL l).length := by
          clear hu e hlen hj hloop
          induction l with
          | nil => simp
          | cons p l ih => simp only [wireL, List.length_cons, List.length_append, List.cons_append]; omega
        simp only [List.nil_append]
        rw [if_pos (by omega), if_pos (by omega)]
        by_cases h0 : r = []
        · subst h0
          rw [if_pos (by simp), if_pos rfl]
        · have hr1 : 0 < r.length := List.length_pos_iff.2 h0
          rw [if_neg (by omega), if_neg h0, label_good (by omega), Option.bind_some]
          split
          · rw [if_pos (ok_small (by omega))]; rfl
          · rfl
/-! ### what is written is read again -/
theorem spl_ne : ∀ (s cur : List UInt8), spl cur s ≠ []
  | [], cur => by simp [spl]
  | c :: t, cur => by
    unfold spl
    split
    · simp
    · exact spl_ne t _
theorem join_spl : ∀ (s cur : List UInt8), Lib.join (spl cur s) [46] = cur ++ s
  | [], cur => by simp [spl, Lib.join_one]
  | c :: t, cur => by
    unfold spl
    split
    · rename_i hc
      have h := join_spl t []
      cases hs : spl [] t with
      | nil => exact absurd hs (spl_ne t [])
      | cons y r => rw [hs] at h; rw [join_cons2, h, hc]; simp
    · rw [join_spl t]; simp
theorem join_parts (s : List UInt8) : Lib.join (partsS s) [46] = s := by rw [partsS_spl, join_spl]; simp
theorem wireL_join : ∀ (l : List (List UInt8)), l ≠ [] → (wireL l).length = (Lib.join l [46]).length + 1
  | [], h => absurd rfl h
  | [x], _ => by simp [Lib.join_one, wireL]
  | x :: y :: r, _ => by
    have := wireL_join (y :: r) (by simp)
    rw [join_cons2]; simp only [wireL, List.length_append, List.length_cons, List.cons_append] at this ⊢; omega
theorem wireS_len (s : List UInt8) : (wireS s).length = s.length + 2 := by
  unfold wireS
  have := wireL_join (partsS s) (by rw [partsS_spl]; exact spl_ne s [])
  rw [join_parts] at this
  rw [List.length_append, this]; rfl
theorem unwF_wire : ∀ (l : List (List UInt8)) (t : List UInt8) (n : Nat), (∀ p ∈ l, partS p = true) → (wireL l ++ 0 :: t).length ≤ n → unwF n (wireL l ++ 0 :: t) = some (l, 0 :: t)
  | [], t, 0, _, hn => by simp [wireL] at hn
  | [], t, n + 1, _, _ => by simp [wireL, unwF]
  | p :: l, t, 0, _, hn => by simp [wireL] at hn
  | p :: l, t, n + 1, h, hn => by
    have hp := h p (List.mem_cons_self ..)
    have hl := part_len hp
    have hc : (UInt8.ofInt (p.length : Int)).toNat = p.length := by simp [UInt8.ofInt, UInt8.toNat_ofNat']; omega
    have h0 : UInt8.ofInt (p.length : Int) ≠ 0 := fun e => by rw [e] at hc; simp at hc; omega
    simp only [wireL, List.cons_append, List.append_assoc, List.length_cons, List.length_append] at hn ⊢
    unfold unwF
    rw [if_neg h0, hc, List.take_left, List.drop_left, if_pos ⟨by simp, hp⟩, unwF_wire l t n (fun q hq => h q (List.mem_cons_of_mem _ hq)) (by simp only [List.length_append, List.length_cons]; omega)]
    rfl
theorem unwS_wire {s a c : List UInt8} (h : goodN s = true) : unwS (a ++ wireS s ++ c) (a.length : Int) = (s, (a.length : Int) + ((wireS s).length : Int), 0) := by
  have hg := goodN_iff.1 h
  have hl := wireS_len s
  have e : a ++ wireS s ++ c = a ++ (wireL (partsS s) ++ 0 :: c) := by simp [wireS, List.append_assoc]
  unfold unwS
  rw [if_neg (by rw [List.length_append, List.length_append]; omega), e, show ((a.length : Int)).toNat = a.length from rfl, List.drop_left, unwF_wire _ _ _ hg.2 (by simp)]
  simp only [if_neg (List.cons_ne_nil _ _), join_parts, if_pos h]
  have : (wireL (partsS s)).length + 1 = (wireS s).length := by simp [wireS]
  simp only [List.length_append, List.length_cons]
  congr 2
  omega
theorem spl_plain : ∀ (p cur t : List UInt8), p.all plainS = true → spl cur (p ++ 46 :: t) = (cur ++ p) :: spl [] t ∧ spl cur p = [cur ++ p]
  | [], cur, t, _ => by simp [spl]
  | c :: p, cur, t, h => by
    rw [List.all_cons, Bool.and_eq_true] at h
    have hc : c ≠ 46 := fun e => by
      have : plainS 46 = false := by
        unfold plainS M_label_plain M_label_plain_k1 M_label_plain_k2
        decide
      rw [e, this] at h; cases h.1
    have := spl_plain p (cur ++ [c]) t h.2
    simp only [List.cons_append, spl, if_neg hc, this.1, this.2, List.append_assoc, List.singleton_append, List.nil_append]
    simp
theorem part_all {p : List UInt8} (h : partS p = true) : p.all plainS = true := by
  unfold partS at h
  simp only [Bool.and_eq_true] at h
  exact h.2.2.2
theorem spl_join : ∀ (l : List (List UInt8)), l ≠ [] → (∀ p ∈ l, partS p = true) → spl [] (Lib.join l [46]) = l
  | [], h, _ => absurd rfl h
  | [x], _, h => by rw [Lib.join_one]; exact (spl_plain x [] [] (part_all (h x (List.mem_cons_self ..)))).2
  | x :: y :: r, _, h => by
    rw [join_cons2, (spl_plain x [] _ (part_all (h x (List.mem_cons_self ..)))).1, spl_join (y :: r) (by simp) (fun q hq => h q (List.mem_cons_of_mem _ hq))]; rfl
theorem goodN_nil : goodN [] = false := by
  unfold goodN
  rw [show partsS [] = [[]] from rfl, List.all_cons, partS_nil]; rfl
/-- What is read is a good name, and has just these bytes; or nothing is read. -/
theorem unwS_back (b : List UInt8) : (unwS b 0).2.2 = 0 ∧ goodN (unwS b 0).1 = true ∧ (unwS b 0).2.1 = ((wireS (unwS b 0).1).length : Int) ∧ (unwS b 0).2.1 ≤ b.length ∧ wireS (unwS b 0).1 = b.take (unwS b 0).2.1.toNat
    ∨ (unwS b 0).2.2 ≠ 0 ∧ (unwS b 0).1 = [] ∧ (unwS b 0).2.1 = 0 := by
  unfold unwS
  split
  · exact .inr ⟨by decide, rfl, rfl⟩
  · cases hu : unwF (b.length - (0 : Int).toNat) (b.drop (0 : Int).toNat) with
    | none => exact .inr ⟨by simp, rfl, rfl⟩
    | some x =>
      obtain ⟨l, r⟩ := x
      obtain ⟨e, hp, hr⟩ := unwF_ok _ _ _ _ hu
      simp only []
      by_cases h0 : r = []
      · rw [if_pos h0]; exact .inr ⟨by simp, rfl, rfl⟩
      · rw [if_neg h0]
        by_cases hg : goodN (Lib.join l [46]) = true
        · rw [if_pos hg]
          left
          have hl : l ≠ [] := fun h => by rw [h, Lib.join_nil, goodN_nil] at hg; cases hg
          obtain ⟨t, rfl⟩ : ∃ t, r = 0 :: t := (hr (by simp)).resolve_left h0
          have hw : wireS (Lib.join l [46]) = wireL l ++ [0] := by unfold wireS; rw [partsS_spl, spl_join l hl hp]
          rw [show (0 : Int).toNat = 0 from rfl, List.drop_zero] at e
          have hb : b.length - (0 :: t).length + 1 = (wireL l).length + 1 := by rw [e]; simp only [List.length_append, List.length_cons]; omega
          refine ⟨rfl, hg, ?_, ?_, ?_⟩
          · simp only [hw, hb]; simp
          · simp only [hb, e]; simp; omega
          · simp only [hw, hb]
            rw [show (((wireL l).length + 1 : Nat) : Int).toNat = (wireL l).length + 1 from rfl]
            rw [e, List.take_append, List.take_of_length_le (by omega), Nat.add_sub_cancel_left]; rfl
        · rw [if_neg hg]; exact .inr ⟨by simp, rfl, rfl⟩
/-! ### the statement -/
theorem pure_LabelBack (s : List UInt8) (ahead : List UInt8) (behind : List UInt8) (wf_s : s.length ≤ 140737488351232) (hl_ahead : ahead.length ≤ 140737488351232) (hl_behind : behind.length ≤ 140737488351232) : M_signpostlaw09_LabelBack_vv s ahead behind = some true := by
  have hk1 : M_signpostlaw09_LabelBack_vv_k1 ahead behind s true = some true := by
    unfold M_signpostlaw09_LabelBack_vv_k1
    rw [if_pos rfl, lives09]; rfl
  have hk2 : behind.length ≤ 2000 → M_signpostlaw09_LabelBack_vv_k2 behind = some true := by
    intro h
    unfold M_signpostlaw09_LabelBack_vv_k2 M_signpostlaw09_LabelBack_vv_k3
    rw [label_unwire (by omega), Option.bind_some, lives09]
    have hu := unwS_back behind
    revert hu
    generalize unwS behind 0 = x
    obtain ⟨n, k, e⟩ := x
    simp only []
    rintro (⟨h1, h2, h3, h4, h5⟩ | ⟨h1, h2, h3⟩)
    · have hl := wireS_len n
      have hn := (goodN_iff.1 h2).1
      rw [if_pos h1, label_wire (by omega), if_pos h2]
      simp only [Option.bind_some, reduceIte]
      rw [if_pos h3, if_pos h4, if_pos ⟨by omega, h4⟩, if_pos h5]
    · rw [if_neg h1, if_pos h2, if_pos h3]; rfl
  unfold M_signpostlaw09_LabelBack_vv
  by_cases h1 : (600 : Int) < s.length
  · rw [if_pos h1, hk1]
  · rw [if_neg h1, if_pos (ok_small (by omega))]
    by_cases h2 : (2000 : Int) < (ahead.length : Int) + behind.length
    · rw [decide_eq_true h2, hk1]
    · rw [decide_eq_false h2]
      unfold M_signpostlaw09_LabelBack_vv_k1
      rw [if_neg (by decide), label_wire (by omega), Option.bind_some]
      by_cases hg : goodN s = true
      · have hl := wireS_len s
        have hn := (goodN_iff.1 hg).1
        rw [if_pos hg]
        simp only [reduceIte]
        rw [List.nil_append, if_pos (by omega), if_pos (by omega), if_pos (by rw [List.length_append]; omega), label_unwire (by rw [List.length_append, List.length_append]; omega), unwS_wire hg, Option.bind_some]
        simp only [reduceIte]
        rw [if_pos (ok_small (by omega)), if_neg (by omega), hk2 (by omega)]
      · rw [if_neg hg]
        simp only []
        rw [if_neg (by decide), hk2 (by omega)]
end Go.Proofs.Ytaaahjcldomnbaa
