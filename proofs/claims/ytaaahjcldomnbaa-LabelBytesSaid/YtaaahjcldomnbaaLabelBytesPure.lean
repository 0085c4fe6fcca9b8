/-
  What the functions that the statement LabelBytes reaches compute, as plain laws; and the statement about them. No condition.
-/
import Derived.Test.YtaaahjcldomnbaaLabelBytesMod
import Derived.Test.YtaaahjcldomnbaaBPure
namespace Go.Proofs.Ytaaahjcldomnbaa
open Go Go.RowKit
set_option linter.unusedVariables false
set_option linter.unusedSimpArgs false
/-! ### names -/
theorem idx_lt : ∀ (l : List UInt8) (c : UInt8), -1 ≤ Lib.indexByte l c ∧ (0 ≤ Lib.indexByte l c → Lib.indexByte l c < l.length)
  | [], c => by simp [Lib.indexByte]
  | b :: l, c => by
    have h := idx_lt l c
    unfold Lib.indexByte
    simp only [List.length_cons]
    split
    · omega
    · split
      · omega
      · rename_i h1 h2
        simp only [beq_iff_eq] at h2
        omega
/-- A text cut at its first point. -/
def cutS (s : List UInt8) : List UInt8 × List UInt8 × Bool := if 0 ≤ Lib.indexByte s 46 then (s.take (Lib.indexByte s 46).toNat, s.drop (Lib.indexByte s 46 + 1).toNat, true) else (s, [], false)
theorem label_cut {s : List UInt8} (hs : s.length ≤ 4611686018427387904) : M_strings_Cut s = some (cutS s) := by
  have hi : M_stringslite_Index s = some (Lib.indexByte s 46) := by
    unfold M_stringslite_Index
    by_cases h : [46] = s
    · rw [if_pos h, ← h]; rfl
    · rw [if_neg h]; rfl
  have hb := idx_lt s 46
  unfold M_strings_Cut M_stringslite_Cut cutS
  rw [hi, Option.bind_some]
  by_cases h : 0 ≤ Lib.indexByte s 46
  · rw [if_pos h, if_pos (by omega), if_pos (ok_small (by omega)), if_pos (by omega), if_pos h]; rfl
  · rw [if_neg h, if_neg h]; rfl
/-- The texts between points. -/
def partsF : Nat → List UInt8 → List (List UInt8)
  | 0, s => [s]
  | n + 1, s => if (cutS s).2.2 = true then (cutS s).1 :: partsF n (cutS s).2.1 else [s]
def partsS (s : List UInt8) : List (List UInt8) := partsF s.length s
theorem cutS_len (s : List UInt8) : (cutS s).1.length ≤ s.length ∧ ((cutS s).2.2 = true → (cutS s).2.1.length < s.length) ∧ ((cutS s).2.2 = false → (cutS s).1 = s) := by
  have hb := idx_lt s 46
  unfold cutS
  split
  · refine ⟨by simp only [List.length_take]; omega, fun _ => ?_, fun h => (by cases h)⟩
    simp only [List.length_drop]; omega
  · exact ⟨Nat.le_refl _, (fun h => by cases h), fun _ => rfl⟩
theorem parts_loop {σ ρ : Type} {f : σ → List UInt8 → Option (σ ⊕ ρ)} : ∀ (n : Nat) (s : List UInt8) (z : σ), s.length ≤ n → s.length ≤ 4611686018427387904 →
    loopO (fun z_ => M_label_parts_1_p_b1 f z_.1 z_.2) (z, s) = rangeO f (partsF n s) z := by
  have hb : ∀ (s : List UInt8) (z : σ), s.length ≤ 4611686018427387904 → M_label_parts_1_p_b1 f z s = (f z (cutS s).1).bind fun y => match y with
      | .inl z2 => if (cutS s).2.2 = true then some (.inl (z2, (cutS s).2.1)) else some (.inr (.inl z2))
      | .inr x => some (.inr (.inr x)) := by
    intro s z hs
    unfold M_label_parts_1_p_b1
    rw [label_cut hs, Option.bind_some]
    rfl
  intro n
  induction n with
  | zero =>
    intro s z hn hs
    obtain ⟨h1, h2, h3⟩ := cutS_len s
    have hc : (cutS s).2.2 = false := by
      cases h : (cutS s).2.2 with
      | false => rfl
      | true => have := h2 h; omega
    have hb1 := hb s z hs
    rw [hc, h3 hc] at hb1
    simp only [partsF, rangeO]
    cases hf : f z s with
    | none =>
      rw [hf] at hb1
      exact loopO_none hb1
    | some y =>
      rw [hf] at hb1
      cases y with
      | inl z2 => exact loopO_end hb1
      | inr x => exact loopO_end hb1
  | succ n ih =>
    intro s z hn hs
    obtain ⟨h1, h2, h3⟩ := cutS_len s
    have hb1 := hb s z hs
    unfold partsF
    cases hc : (cutS s).2.2 with
    | true =>
      rw [hc] at hb1
      simp only [if_pos, rangeO]
      cases hf : f z (cutS s).1 with
      | none => rw [hf] at hb1; exact loopO_none hb1
      | some y =>
        rw [hf] at hb1
        cases y with
        | inl z2 => rw [loopO_next hb1]; exact ih _ _ (by have := h2 hc; omega) (by have := h2 hc; omega)
        | inr x => exact loopO_end hb1
    | false =>
      rw [hc, h3 hc] at hb1
      simp only [Bool.false_eq_true, if_false, rangeO]
      cases hf : f z s with
      | none => rw [hf] at hb1; exact loopO_none hb1
      | some y =>
        rw [hf] at hb1
        cases y with
        | inl z2 => exact loopO_end hb1
        | inr x => exact loopO_end hb1
theorem label_parts {σ ρ : Type} {f : σ → List UInt8 → Option (σ ⊕ ρ)} {s : List UInt8} {z : σ} (hs : s.length ≤ 4611686018427387904) : M_label_parts_1_p f s z = rangeO f (partsS s) z := by
  unfold M_label_parts_1_p partsS
  rw [parts_loop s.length s z (Nat.le_refl _) hs]
  cases rangeO f (partsF s.length s) z <;> rfl
theorem partsF_len : ∀ (n : Nat) (s : List UInt8), ∀ p ∈ partsF n s, p.length ≤ s.length
  | 0, s, p, hp => by simp only [partsF, List.mem_singleton] at hp; subst hp; exact Nat.le_refl _
  | n + 1, s, p, hp => by
    obtain ⟨h1, h2, h3⟩ := cutS_len s
    unfold partsF at hp
    split at hp
    · rename_i hc
      rcases List.mem_cons.1 hp with rfl | hp
      · exact h1
      · have := partsF_len n _ p hp; have := h2 hc; omega
    · simp only [List.mem_singleton] at hp; subst hp; exact Nat.le_refl _
/-! ### parts -/
noncomputable def plainS (c : UInt8) : Bool := (M_label_plain c).getD false
theorem label_plain (c : UInt8) : M_label_plain c = some (plainS c) := by
  unfold plainS M_label_plain M_label_plain_k1 M_label_plain_k2
  repeat' split
  all_goals rfl
theorem plain_loop09 {s : List UInt8} (hs : s.length ≤ 140737488355328) : ∀ (d k : Nat), s.length = k + d →
    loopO (fun z_ => M_label_Part_b2 s z_) (k : Int) = some (if (s.drop k).all plainS = true then .inl () else .inr false) := by
  intro d
  induction d with
  | zero =>
    intro k h
    rw [loopO_end (r := .inl ()) (by unfold M_label_Part_b2; rw [if_neg (by omega)]), List.drop_of_length_le (by omega)]; rfl
  | succ d ih =>
    intro k h
    have hk : k < s.length := by omega
    have hb : M_label_Part_b2 s (k : Int) = if plainS s[k] = true then some (.inl ((k : Int) + 1)) else some (.inr (.inr false)) := by
      unfold M_label_Part_b2
      rw [if_pos (by omega), at?_in hk, Option.bind_some, label_plain, Option.bind_some, if_pos (ok_small (by omega))]
    rw [List.drop_eq_getElem_cons hk, List.all_cons]
    cases hp : plainS s[k] with
    | true => rw [loopO_next (s' := ((k + 1 : Nat) : Int)) (by show M_label_Part_b2 s (k : Int) = _; rw [hb, if_pos hp]; rfl), ih (k + 1) (by omega), Bool.true_and]
    | false => rw [loopO_end (r := .inr false) (by show M_label_Part_b2 s (k : Int) = _; rw [hb, if_neg (by rw [hp]; decide)])]; rfl
noncomputable def partS (s : List UInt8) : Bool := decide (1 ≤ s.length ∧ s.length ≤ 63) && (!decide (s[0]? = some 45) && (!decide (s[s.length - 1]? = some 45) && s.all plainS))
theorem label_part {s : List UInt8} (hs : s.length ≤ 140737488355328) : M_label_Part s = some (partS s) := by
  have hk1 : M_label_Part_k1 s true = some false := rfl
  have hk2 : M_label_Part_k1 s false = some (s.all plainS) := by
    have := plain_loop09 hs s.length 0 (by omega)
    rw [show ((0 : Nat) : Int) = 0 from rfl, List.drop_zero] at this
    unfold M_label_Part_k1
    rw [if_neg (by decide), if_pos hs, this, Option.bind_some]
    cases s.all plainS <;> rfl
  unfold M_label_Part partS
  by_cases h1 : (s.length : Int) < 1
  · rw [if_pos h1, hk1, decide_eq_false (by omega)]; rfl
  · rw [if_neg h1]
    by_cases h2 : (63 : Int) < s.length
    · rw [if_pos h2, hk1, decide_eq_false (by omega)]; rfl
    · have h0 : 0 < s.length := by omega
      have hl : s.length - 1 < s.length := by omega
      rw [if_neg h2, decide_eq_true (by omega), show (0 : Int) = ((0 : Nat) : Int) from rfl, at?_in h0, Option.bind_some, if_pos (ok_small (by omega)),
        show (s.length : Int) - 1 = ((s.length - 1 : Nat) : Int) by omega, at?_in hl, Option.bind_some, List.getElem?_eq_getElem h0, List.getElem?_eq_getElem hl]
      by_cases h3 : s[0] = 45
      · rw [if_pos h3, hk1]; simp [h3]
      · rw [if_neg h3]
        by_cases h4 : s[s.length - 1] = 45
        · rw [decide_eq_true h4, hk1]; simp [h4]
        · rw [decide_eq_false h4, hk2]; simp [h3, h4]
noncomputable def goodN (s : List UInt8) : Bool := decide (s.length ≤ 253) && (partsS s).all partS
theorem good_range : ∀ (l : List (List UInt8)), (∀ p ∈ l, p.length ≤ 140737488355328) → rangeO (fun (_ : Unit) x => M_label_Good_r1 x) l () = some (if l.all partS = true then .inl () else .inr ())
  | [], _ => rfl
  | p :: l, h => by
    have hp : M_label_Good_r1 p = some (if partS p = true then .inl () else .inr ()) := by
      unfold M_label_Good_r1
      rw [label_part (h p (List.mem_cons_self ..)), Option.bind_some]
      split <;> rfl
    rw [List.all_cons]
    unfold rangeO
    rw [hp]
    cases hh : partS p with
    | true => simp only [if_pos, Bool.true_and]; exact good_range l (fun q hq => h q (List.mem_cons_of_mem _ hq))
    | false => rfl
theorem label_good {s : List UInt8} (hs : s.length ≤ 140737488355328) : M_label_Good s = some (goodN s) := by
  unfold M_label_Good goodN
  by_cases h : (253 : Int) < s.length
  · rw [if_pos h, decide_eq_false (by omega)]; rfl
  · rw [if_neg h, decide_eq_true (by omega), show M_label_parts s = some () from rfl, Option.bind_some, label_parts (by omega), good_range _ (fun p hp => by have := partsF_len _ _ p hp; omega), Option.bind_some]
    cases (partsS s).all partS <;> rfl
/-! ### texts folded -/
def foldC (c : UInt8) : UInt8 := if 65 ≤ c ∧ c ≤ 90 then c ||| 32 else c
def foldS (s : List UInt8) : List UInt8 := s.map foldC
theorem fold_loop09 {s : List UInt8} (hs : s.length ≤ 140737488355328) : ∀ (d k : Nat), s.length = k + d →
    loopO (fun z_ => M_label_Fold_b1 s z_.1 z_.2) ((s.take k).map foldC ++ s.drop k, (k : Int)) = some (foldS s) := by
  intro d
  induction d with
  | zero =>
    intro k h
    rw [loopO_end (r := (s.take k).map foldC ++ s.drop k) (by unfold M_label_Fold_b1; rw [if_neg (by omega)]), List.drop_of_length_le (by omega), List.take_of_length_le (by omega), List.append_nil]; rfl
  | succ d ih =>
    intro k h
    have hk : k < s.length := by omega
    have hlen : ((s.take k).map foldC).length = k := by rw [List.length_map, List.length_take]; omega
    have hx : at? ((s.take k).map foldC ++ s.drop k) (k : Int) = some s[k] := by
      rw [at?_nat, List.getElem?_append_right (by omega), hlen, Nat.sub_self, List.getElem?_drop, Nat.add_zero, List.getElem?_eq_getElem hk]
    have hset : ∀ c : UInt8, ((s.take k).map foldC ++ s.drop k).set k c = (s.take k).map foldC ++ c :: s.drop (k + 1) := by
      intro c
      rw [List.set_append_right _ _ (by omega), hlen, Nat.sub_self, List.drop_eq_getElem_cons hk]; rfl
    have hnext : (s.take (k + 1)).map foldC ++ s.drop (k + 1) = (s.take k).map foldC ++ foldC s[k] :: s.drop (k + 1) := by
      rw [List.take_succ_eq_append_getElem hk, List.map_append, List.append_assoc]; rfl
    have hsame : (s.take k).map foldC ++ s.drop k = (s.take k).map foldC ++ s[k] :: s.drop (k + 1) := by rw [← List.drop_eq_getElem_cons hk]
    have hb : M_label_Fold_b1 s ((s.take k).map foldC ++ s.drop k) (k : Int) = some (.inl ((s.take (k + 1)).map foldC ++ s.drop (k + 1), ((k + 1 : Nat) : Int))) := by
      unfold M_label_Fold_b1 M_label_Fold_k2
      rw [if_pos (by omega), hx, Option.bind_some, hnext]
      by_cases h1 : 65 ≤ s[k]
      · rw [if_pos h1]
        by_cases h2 : s[k] ≤ 90
        · rw [if_pos (decide_eq_true h2), Option.bind_some, if_pos (ok_small (by omega)), show foldC s[k] = s[k] ||| 32 from if_pos ⟨h1, h2⟩, show ((k : Int)).toNat = k from rfl, hset]; rfl
        · rw [if_neg (by simpa using h2), if_pos (ok_small (by omega)), show foldC s[k] = s[k] from if_neg (fun hh => h2 hh.2), ← hsame]; rfl
      · rw [if_neg h1, if_neg (by decide), if_pos (ok_small (by omega)), show foldC s[k] = s[k] from if_neg (fun hh => h1 hh.1), ← hsame]; rfl
    rw [loopO_next hb]
    exact ih (k + 1) (by omega)
theorem label_fold {s : List UInt8} (hs : s.length ≤ 140737488355328) : M_label_Fold s = some (foldS s) := by
  unfold M_label_Fold
  have := fold_loop09 hs s.length 0 (by omega)
  rw [List.take_zero, List.map_nil, List.nil_append, List.drop_zero, show ((0 : Nat) : Int) = 0 from rfl] at this
  rw [if_pos hs, this]; rfl
theorem foldS_len (s : List UInt8) : (foldS s).length = s.length := by unfold foldS; rw [List.length_map]
/-! ### under -/
def sufS (s t : List UInt8) : Bool := decide (t.length ≤ s.length) && decide (s.drop (s.length - t.length) = t)
theorem strings_suffix {s t : List UInt8} (hs : s.length ≤ 4611686018427387904) : M_strings_HasSuffix s t = some (sufS s t) := by
  unfold M_strings_HasSuffix M_stringslite_HasSuffix sufS
  by_cases h : t.length ≤ s.length
  · rw [if_pos (by omega), if_pos (ok_small (by omega)), if_pos (by omega), decide_eq_true h, show ((s.length : Int) - (t.length : Int)).toNat = s.length - t.length by omega]; rfl
  · rw [if_neg (by omega), decide_eq_false h]; rfl
theorem sufS_iff {s t : List UInt8} : sufS s t = true ↔ ∃ p, s = p ++ t := by
  unfold sufS
  rw [Bool.and_eq_true, decide_eq_true_eq, decide_eq_true_eq]
  constructor
  · rintro ⟨h1, h2⟩
    exact ⟨s.take (s.length - t.length), by conv => rhs; rhs; rw [← h2]
                                            rw [List.take_append_drop]⟩
  · rintro ⟨p, rfl⟩
    refine ⟨by simp, ?_⟩
    rw [List.length_append, Nat.add_sub_cancel, List.drop_left]
noncomputable def underS (s z : List UInt8) : Bool := goodN s && (goodN z && (decide (foldS s = foldS z) || sufS (foldS s) (46 :: foldS z)))
theorem label_under {s z : List UInt8} (hs : s.length ≤ 140737488355328) (hz : z.length ≤ 140737488355328) : M_label_Under s z = some (underS s z) := by
  have hk1 : M_label_Under_k1 s z true = some false := rfl
  have hk2 : M_label_Under_k1 s z false = some (decide (foldS s = foldS z) || sufS (foldS s) (46 :: foldS z)) := by
    unfold M_label_Under_k1 M_label_Same
    rw [if_neg (by decide), label_fold hs, label_fold hz, Option.bind_some, Option.bind_some, Option.bind_some]
    by_cases h : foldS s = foldS z
    · rw [if_pos (decide_eq_true h), decide_eq_true h]; rfl
    · rw [if_neg (by simpa using h), Option.bind_some, Option.bind_some, if_pos (by rw [foldS_len]; omega), strings_suffix (by rw [foldS_len]; omega), decide_eq_false h]; rfl
  unfold M_label_Under underS
  rw [label_good hs, Option.bind_some, label_good hz]
  cases goodN s with
  | false => rw [if_neg (by decide), hk1]; rfl
  | true =>
    rw [if_pos rfl, Option.bind_some]
    cases goodN z with
    | false => rw [Bool.not_false, hk1]; rfl
    | true => rw [Bool.not_true, hk2]; rfl
theorem under_iff {s z : List UInt8} : underS s z = true ↔ goodN s = true ∧ goodN z = true ∧ (foldS s = foldS z ∨ ∃ p, foldS s = p ++ 46 :: foldS z) := by
  unfold underS
  rw [Bool.and_eq_true, Bool.and_eq_true, Bool.or_eq_true, decide_eq_true_eq, sufS_iff]
theorem under_trans {a b c : List UInt8} (h : underS a b = true) (k : underS b c = true) : underS a c = true := by
  rw [under_iff] at h k ⊢
  obtain ⟨h1, h2, h3⟩ := h
  obtain ⟨k1, k2, k3⟩ := k
  refine ⟨h1, k2, ?_⟩
  rcases h3 with h3 | ⟨p, h3⟩
  · rw [h3]; exact k3
  · rcases k3 with k3 | ⟨q, k3⟩
    · rw [← k3]; exact .inr ⟨p, h3⟩
    · exact .inr ⟨p ++ 46 :: q, by rw [h3, k3, List.append_assoc, List.cons_append]⟩
theorem under_anti {a b : List UInt8} (h : underS a b = true) (k : underS b a = true) : foldS a = foldS b := by
  rw [under_iff] at h k
  rcases h.2.2 with h3 | ⟨p, h3⟩
  · exact h3
  · have h4 := congrArg List.length h3
    rw [List.length_append, List.length_cons] at h4
    rcases k.2.2 with k3 | ⟨q, k3⟩
    · exact k3.symm
    · have k4 := congrArg List.length k3
      rw [List.length_append, List.length_cons] at k4
      omega
theorem under_self (a : List UInt8) : underS a a = goodN a := by
  unfold underS
  rw [decide_eq_true rfl, Bool.true_or, Bool.and_true, Bool.and_self]
/-! ### the probe -/
theorem wire_range : ∀ (l : List (List UInt8)) (out : List UInt8), (∀ p ∈ l, p.length ≤ 63) → out.length + 64 * l.length ≤ 140737488355328 →
    rangeO (fun (y_ : List UInt8) x => M_label_Wire_r1 y_ x) l out = some (.inl (l.foldl (fun o p => o ++ UInt8.ofInt (p.length : Int) :: p) out))
  | [], out, _, _ => rfl
  | p :: l, out, h, hl => by
    have hp := h p (List.mem_cons_self ..)
    rw [List.length_cons] at hl
    have h1 : M_label_Wire_r1 out p = some (.inl (out ++ UInt8.ofInt (p.length : Int) :: p)) := by
      unfold M_label_Wire_r1 M_label_Wire_1_po
      rw [if_pos (by omega), if_pos (by rw [List.length_append]; simp; omega), Option.bind_some, List.append_assoc]; rfl
    unfold rangeO
    rw [h1]
    simp only [List.foldl_cons]
    exact wire_range l _ (fun q hq => h q (List.mem_cons_of_mem _ hq)) (by rw [List.length_append, List.length_cons]; omega)
theorem lives09 : M_signpostlaw09_lives = some true := by
  have hp : partsS [97, 46, 98, 99] = [[97], [98, 99]] := by decide
  have hg : goodN [97, 46, 98, 99] = true := by unfold goodN; rw [hp]; decide
  have hw : M_label_Wire [97, 46, 98, 99] = some ([1, 97, 2, 98, 99, 0], 0) := by
    unfold M_label_Wire
    rw [label_good (by decide), Option.bind_some, if_pos hg, show M_label_parts [97, 46, 98, 99] = some () from rfl, Option.bind_some, label_parts (by decide), hp, wire_range _ _ (by decide) (by decide), Option.bind_some]
    decide
  have p1 : partsS [120, 46, 97, 46, 66, 67] = [[120], [97], [66, 67]] := by decide
  have p2 : partsS [65, 46, 98, 99] = [[65], [98, 99]] := by decide
  have h1 : underS [120, 46, 97, 46, 66, 67] [65, 46, 98, 99] = true := by unfold underS goodN; rw [p1, p2]; decide
  have h2 : underS [120, 97, 46, 98, 99] [97, 46, 98, 99] = false := by
    unfold underS
    rw [show (decide (foldS [120, 97, 46, 98, 99] = foldS [97, 46, 98, 99]) || sufS (foldS [120, 97, 46, 98, 99]) (46 :: foldS [97, 46, 98, 99])) = false by decide]
    simp
  unfold M_signpostlaw09_lives
  rw [hw, Option.bind_some]
  simp only [if_pos]
  rw [label_under (by decide) (by decide), Option.bind_some, h1, if_pos rfl, label_under (by decide) (by decide), Option.bind_some, h2]
  rfl
/-! ### texts between points, byte by byte -/
/-- The texts between points; the first one has begun. -/
def spl (cur : List UInt8) : List UInt8 → List (List UInt8)
  | [] => [cur]
  | c :: t => if c = 46 then cur :: spl [] t else spl (cur ++ [c]) t
theorem spl_cut : ∀ (s cur : List UInt8), spl cur s = if 0 ≤ Lib.indexByte s 46 then (cur ++ s.take (Lib.indexByte s 46).toNat) :: spl [] (s.drop (Lib.indexByte s 46 + 1).toNat) else [cur ++ s]
  | [], cur => by simp [spl, Lib.indexByte]
  | c :: t, cur => by
    have h := spl_cut t (cur ++ [c])
    have hb := idx_lt t 46
    have e : Lib.indexByte (c :: t) 46 = if c = 46 then 0 else if Lib.indexByte t 46 = -1 then -1 else Lib.indexByte t 46 + 1 := by simp [Lib.indexByte]
    rw [e, spl]
    by_cases hc : c = 46
    · simp only [if_pos hc]; simp
    · simp only [if_neg hc]
      rw [h]
      by_cases hi : Lib.indexByte t 46 = -1
      · simp only [hi, reduceIte]; simp
      · simp only [if_neg hi]
        rw [if_pos (by omega), if_pos (by omega)]
        rw [show (Lib.indexByte t 46 + 1).toNat = (Lib.indexByte t 46).toNat + 1 by omega, show (Lib.indexByte t 46 + 1 + 1).toNat = (Lib.indexByte t 46).toNat + 1 + 1 by omega]
        simp
theorem partsF_spl : ∀ (n : Nat) (s : List UInt8), s.length ≤ n → partsF n s = spl [] s
  | 0, s, h => by
    have : s = [] := List.length_eq_zero_iff.1 (by omega)
    subst this; rfl
  | n + 1, s, h => by
    have hb := idx_lt s 46
    rw [spl_cut]
    unfold partsF cutS
    by_cases hi : 0 ≤ Lib.indexByte s 46
    · rw [if_pos hi, if_pos hi, if_pos rfl, partsF_spl n _ (by simp only [List.length_drop]; omega)]; rfl
    · rw [if_neg hi, if_neg hi, if_neg Bool.false_ne_true]; rfl
theorem partsS_spl (s : List UInt8) : partsS s = spl [] s := partsF_spl _ s (Nat.le_refl _)
theorem spl_count : ∀ (s cur : List UInt8), (spl cur s).length ≤ s.length + 1
  | [], cur => by simp [spl]
  | c :: t, cur => by
    unfold spl
    split
    · have := spl_count t []; simp only [List.length_cons]; omega
    · have := spl_count t (cur ++ [c]); simp only [List.length_cons]; omega
theorem partsS_count (s : List UInt8) : (partsS s).length ≤ s.length + 1 := by rw [partsS_spl]; exact spl_count s []
theorem part_len {p : List UInt8} (h : partS p = true) : 1 ≤ p.length ∧ p.length ≤ 63 := by
  unfold partS at h
  rw [Bool.and_eq_true, decide_eq_true_eq] at h
  exact h.1
theorem goodN_iff {s : List UInt8} : goodN s = true ↔ s.length ≤ 253 ∧ ∀ p ∈ partsS s, partS p = true := by
  unfold goodN
  rw [Bool.and_eq_true, decide_eq_true_eq, List.all_eq_true]
/-- The bytes of texts, each behind its length. -/
def wireL : List (List UInt8) → List UInt8
  | [] => []
  | p :: l => UInt8.ofInt (p.length : Int) :: p ++ wireL l
theorem wireL_fold : ∀ (l : List (List UInt8)) (o : List UInt8), l.foldl (fun o p => o ++ UInt8.ofInt (p.length : Int) :: p) o = o ++ wireL l
  | [], o => by simp [wireL]
  | p :: l, o => by
    rw [List.foldl_cons, wireL_fold l]; simp [wireL, List.append_assoc]
theorem wireL_len : ∀ (l : List (List UInt8)), (∀ p ∈ l, p.length ≤ 63) → (wireL l).length ≤ 64 * l.length
  | [], _ => by simp [wireL]
  | p :: l, h => by
    have := wireL_len l (fun q hq => h q (List.mem_cons_of_mem _ hq))
    have := h p (List.mem_cons_self ..)
    simp only [wireL, List.length_cons, List.length_append, List.cons_append]; omega
/-- A name's bytes. -/
def wireS (s : List UInt8) : List UInt8 := wireL (partsS s) ++ [0]
theorem label_wire {s : List UInt8} (hs : s.length ≤ 140737488355328) : M_label_Wire s = some (if goodN s = true then (wireS s, 0) else ([], 40)) := by
  unfold M_label_Wire
  rw [label_good hs, Option.bind_some]
  by_cases h : goodN s = true
  · have hg := goodN_iff.1 h
    have hc := partsS_count s
    have h63 : ∀ p ∈ partsS s, p.length ≤ 63 := fun p hp => (part_len (hg.2 p hp)).2
    have hw := wireL_len _ h63
    rw [if_pos h, if_pos h, show M_label_parts s = some () from rfl, Option.bind_some, label_parts (by omega), wire_range _ _ h63 (by simp only [List.length_nil]; omega), Option.bind_some, wireL_fold, List.nil_append]
    simp only []
    unfold M_label_Wire_1_po
    rw [if_pos (by omega), if_pos (by simp only [List.length_append, List.length_cons, List.length_nil]; omega), Option.bind_some]
    simp only [List.append_nil]; rfl
  · rw [if_neg h, if_neg h]
/-! ### signpostref09 -/
theorem ref09_parts_loop {s : List UInt8} (hs : s.length ≤ 1000000) : ∀ (d : Nat) (out : List (List UInt8)) (f i : Nat), s.length = i + d → f ≤ i → out.length ≤ i →
    loopO (fun z_ => M_signpostref09_Parts_b1 s z_.1 z_.2.1 z_.2.2) (out, (f : Int), (i : Int)) = some (out ++ spl ((s.take i).drop f) (s.drop i)) := by
  intro d
  induction d with
  | zero =>
    intro out f i h hf ho
    rw [loopO_next (s' := (out ++ [(s.take i).drop f], ((i + 1 : Nat) : Int), ((i + 1 : Nat) : Int))) (by
        show M_signpostref09_Parts_b1 s out (f : Int) (i : Int) = _
        unfold M_signpostref09_Parts_b1 M_signpostref09_Parts_k2
        rw [if_pos (by omega), if_pos (by omega), if_pos rfl, if_pos (by omega), if_pos (by omega), if_pos (ok_small (by omega)), if_pos (ok_small (by omega))]; rfl),
      loopO_end (r := out ++ [(s.take i).drop f]) (by show M_signpostref09_Parts_b1 s _ ((i + 1 : Nat) : Int) ((i + 1 : Nat) : Int) = _; unfold M_signpostref09_Parts_b1; rw [if_neg (by omega)]), List.drop_of_length_le (by omega : s.length ≤ i)]
    rfl
  | succ d ih =>
    intro out f i h hf ho
    have hk : i < s.length := by omega
    have hb : M_signpostref09_Parts_b1 s out (f : Int) (i : Int) = M_signpostref09_Parts_k2 (f : Int) (i : Int) out s (decide (s[i] = 46)) := by
      unfold M_signpostref09_Parts_b1
      rw [if_pos (by omega), if_neg (by omega), at?_in hk, Option.bind_some]
    rw [List.drop_eq_getElem_cons hk]
    unfold spl
    by_cases hc : s[i] = 46
    · rw [loopO_next (s' := (out ++ [(s.take i).drop f], ((i + 1 : Nat) : Int), ((i + 1 : Nat) : Int))) (by
        show M_signpostref09_Parts_b1 s out (f : Int) (i : Int) = _
        rw [hb, decide_eq_true hc]
        unfold M_signpostref09_Parts_k2
        rw [if_pos rfl, if_pos (by omega), if_pos (by omega), if_pos (ok_small (by omega)), if_pos (ok_small (by omega))]; rfl), ih _ _ _ (by omega) (Nat.le_refl _) (by simp; omega), if_pos hc, show (s.take (i + 1)).drop (i + 1) = [] from List.drop_of_length_le (by rw [List.length_take]; omega), List.append_assoc]
      rfl
    · rw [loopO_next (s' := (out, (f : Int), ((i + 1 : Nat) : Int))) (by
        show M_signpostref09_Parts_b1 s out (f : Int) (i : Int) = _
        rw [hb, decide_eq_false hc]
        unfold M_signpostref09_Parts_k2
        rw [if_neg (by decide), if_pos (ok_small (by omega))]; rfl), ih _ _ _ (by omega) (by omega) (by omega), if_neg hc,
        show (s.take (i + 1)).drop f = (s.take i).drop f ++ [s[i]] by
          rw [List.take_succ_eq_append_getElem hk, List.drop_append_of_le_length (by rw [List.length_take]; omega)]]
theorem ref09_parts {s : List UInt8} (hs : s.length ≤ 1000000) : M_signpostref09_Parts s = some (partsS s) := by
  unfold M_signpostref09_Parts
  have := ref09_parts_loop hs s.length [] 0 0 (by omega) (by omega) (by simp)
  rw [show ((0 : Nat) : Int) = 0 from rfl] at this
  rw [this, Option.bind_some, partsS_spl]
  rfl
theorem ref09_part_step {s : List UInt8} {k : Nat} (hs : s.length ≤ 140737488355328) (hk : k < s.length) : M_signpostref09_Part_b1 s (k : Int) = if plainS s[k] = true then some (.inl ((k : Int) + 1)) else some (.inr (.inr false)) := by
  have hp := label_plain s[k]
  unfold M_label_plain M_label_plain_k1 M_label_plain_k2 at hp
  unfold M_signpostref09_Part_b1 M_signpostref09_letter M_signpostref09_Part_k3 M_signpostref09_Part_k2
  rw [if_pos (by omega), at?_in hk]
  simp only [Option.bind_some]
  rw [if_pos (ok_small (by omega))]
  by_cases h1 : 97 ≤ s[k] <;> by_cases h2 : s[k] ≤ 122 <;> by_cases h3 : 65 ≤ s[k] <;> by_cases h4 : s[k] ≤ 90 <;> by_cases h5 : 48 ≤ s[k] <;> by_cases h6 : s[k] ≤ 57 <;> by_cases h7 : s[k] = 45 <;>
    simp only [h1, h2, h3, h4, h5, h6, h7, if_true, if_false, Option.some.injEq] at hp <;>
    simp only [h1, h2, h3, h4, h5, h6, h7, ← hp, if_true, if_false, Option.bind_some, decide_true, decide_false, Bool.false_eq_true, Bool.not_eq_true', decide_eq_false_iff_not, decide_eq_true_eq, Bool.not_true, Bool.not_false, reduceIte] <;> (try split) <;> simp_all
theorem ref09_part_loop {s : List UInt8} (hs : s.length ≤ 140737488355328) : ∀ (d k : Nat), s.length = k + d →
    loopO (fun z_ => M_signpostref09_Part_b1 s z_) (k : Int) = some (if (s.drop k).all plainS = true then .inl () else .inr false) := by
  intro d
  induction d with
  | zero =>
    intro k h
    rw [loopO_end (r := .inl ()) (by unfold M_signpostref09_Part_b1; rw [if_neg (by omega)]), List.drop_of_length_le (by omega)]; rfl
  | succ d ih =>
    intro k h
    have hk : k < s.length := by omega
    have hb := ref09_part_step hs hk
    rw [List.drop_eq_getElem_cons hk, List.all_cons]
    cases hp : plainS s[k] with
    | true => rw [loopO_next (s' := ((k + 1 : Nat) : Int)) (by show M_signpostref09_Part_b1 s (k : Int) = _; rw [hb, if_pos hp]; rfl), ih (k + 1) (by omega), Bool.true_and]
    | false => rw [loopO_end (r := .inr false) (by show M_signpostref09_Part_b1 s (k : Int) = _; rw [hb, if_neg (by rw [hp]; decide)])]; rfl
theorem ref09_part {s : List UInt8} (hs : s.length ≤ 140737488355328) : M_signpostref09_Part s = some (partS s) := by
  unfold M_signpostref09_Part
  have := ref09_part_loop hs s.length 0 (by omega)
  rw [show ((0 : Nat) : Int) = 0 from rfl, List.drop_zero] at this
  rw [this, Option.bind_some]
  unfold partS
  cases ha : s.all plainS with
  | false => simp
  | true =>
    rw [if_pos rfl]
    simp only []
    by_cases h1 : (1 : Int) ≤ s.length
    · rw [if_pos h1]
      by_cases h2 : (s.length : Int) ≤ 63
      · have h0 : 0 < s.length := by omega
        have hl : s.length - 1 < s.length := by omega
        rw [if_pos h2, decide_eq_true (by omega), show (0 : Int) = ((0 : Nat) : Int) from rfl, at?_in h0, Option.bind_some, if_pos (ok_small (by omega)),
          show (s.length : Int) - 1 = ((s.length - 1 : Nat) : Int) by omega, at?_in hl, Option.bind_some, List.getElem?_eq_getElem h0, List.getElem?_eq_getElem hl]
        by_cases h3 : s[0] = 45
        · rw [if_pos h3]; simp [h3]
        · rw [if_neg h3]; simp [h3]
      · rw [if_neg h2, decide_eq_false (by omega)]; rfl
    · rw [if_neg h1, decide_eq_false (by omega)]; rfl
theorem ref09_good_loop {l : List (List UInt8)} (hl : l.length ≤ 1000001) (h : ∀ p ∈ l, p.length ≤ 140737488355328) : ∀ (d k : Nat), l.length = k + d →
    loopO (fun z_ => M_signpostref09_Good_b1 l z_) (k : Int) = some (if (l.drop k).all partS = true then .inl () else .inr false) := by
  intro d
  induction d with
  | zero =>
    intro k h
    rw [loopO_end (r := .inl ()) (by unfold M_signpostref09_Good_b1; rw [if_neg (by omega)]), List.drop_of_length_le (by omega)]; rfl
  | succ d ih =>
    intro k h1
    have hk : k < l.length := by omega
    have hb : M_signpostref09_Good_b1 l (k : Int) = if partS l[k] = true then some (.inl ((k : Int) + 1)) else some (.inr (.inr false)) := by
      unfold M_signpostref09_Good_b1
      rw [if_pos (by omega), at?_in hk, Option.bind_some, ref09_part (h _ (List.getElem_mem hk)), Option.bind_some, if_pos (ok_small (by omega))]
    rw [List.drop_eq_getElem_cons hk, List.all_cons]
    cases hp : partS l[k] with
    | true => rw [loopO_next (s' := ((k + 1 : Nat) : Int)) (by show M_signpostref09_Good_b1 l (k : Int) = _; rw [hb, if_pos hp]; rfl), ih (k + 1) (by omega), Bool.true_and]
    | false => rw [loopO_end (r := .inr false) (by show M_signpostref09_Good_b1 l (k : Int) = _; rw [hb, if_neg (by rw [hp]; decide)])]; rfl
theorem ref09_good {s : List UInt8} (hs : s.length ≤ 1000000) : M_signpostref09_Good s = some (goodN s) := by
  have hc := partsS_count s
  unfold M_signpostref09_Good
  have := ref09_good_loop (l := partsS s) (by omega) (fun p hp => by have := partsF_len _ _ p hp; omega) (partsS s).length 0 (by omega)
  rw [show ((0 : Nat) : Int) = 0 from rfl, List.drop_zero] at this
  rw [ref09_parts hs, Option.bind_some, this, Option.bind_some]
  unfold goodN
  cases (partsS s).all partS with
  | false => simp
  | true =>
    rw [if_pos rfl]
    simp only []
    rw [if_pos (ok_small (by omega)), Bool.and_true]
    exact congrArg some (decide_eq_decide.2 (by omega))
theorem ref09_wire_loop {l : List (List UInt8)} (h : ∀ p ∈ l, p.length ≤ 63) : ∀ (d k : Nat) (o : List UInt8), l.length = k + d → k + d ≤ 1000000 → o.length + 64 * d ≤ 100000000 →
    loopO (fun z_ => M_signpostref09_Wire_b1 l z_.1 z_.2) (o, (k : Int)) = some (o ++ wireL (l.drop k)) := by
  intro d
  induction d with
  | zero =>
    intro k o h1 _ _
    rw [loopO_end (r := o) (by unfold M_signpostref09_Wire_b1; rw [if_neg (by omega)]), List.drop_of_length_le (by omega)]; simp [wireL]
  | succ d ih =>
    intro k o h1 h2 h3
    have hk : k < l.length := by omega
    have hp := h _ (List.getElem_mem hk)
    rw [List.drop_eq_getElem_cons hk, loopO_next (s' := (o ++ [UInt8.ofInt (l[k].length : Int)] ++ l[k], ((k + 1 : Nat) : Int))) (by
      show M_signpostref09_Wire_b1 l o (k : Int) = _
      unfold M_signpostref09_Wire_b1
      rw [if_pos (by omega), at?_in hk, Option.bind_some, if_pos (by omega), if_pos (by simp only [List.length_append, List.length_cons, List.length_nil]; omega), if_pos (ok_small (by omega))]; rfl),
      ih (k + 1) _ (by omega) (by omega) (by simp only [List.length_append, List.length_cons, List.length_nil]; omega)]
    simp [wireL, List.append_assoc]
theorem ref09_wire {s : List UInt8} (hs : s.length ≤ 100000) : M_signpostref09_Wire s = some (if goodN s = true then (wireS s, 0) else ([], 40)) := by
  unfold M_signpostref09_Wire
  rw [ref09_good (by omega), Option.bind_some]
  by_cases h : goodN s = true
  · have hg := goodN_iff.1 h
    have hc := partsS_count s
    have h63 : ∀ p ∈ partsS s, p.length ≤ 63 := fun p hp => (part_len (hg.2 p hp)).2
    have hw := wireL_len _ h63
    have := ref09_wire_loop h63 (partsS s).length 0 [] (by omega) (by omega) (by simp; omega)
    rw [show ((0 : Nat) : Int) = 0 from rfl, List.drop_zero, List.nil_append] at this
    rw [if_pos h, if_pos h, ref09_parts (by omega), Option.bind_some, this, Option.bind_some]
    simp only []
    rw [if_pos (by omega)]; rfl
  · rw [if_neg h, if_neg h]
/-! ### names in bytes -/
/-- The texts that stand at the front of bytes, up to a nought, and what stands from there on; none: they do not stand there. -/
noncomputable def unwF : Nat → List UInt8 → Option (List (List UInt8) × List UInt8)
  | 0, r => some ([], r)
  | _ + 1, [] => some ([], [])
  | n + 1, c :: t => if c = 0 then some ([], c :: t) else
      if c.toNat ≤ t.length ∧ partS (t.take c.toNat) = true then (unwF n (t.drop c.toNat)).map fun x => (t.take c.toNat :: x.1, x.2) else none
theorem join_cons2 (x y : List UInt8) (r : List (List UInt8)) : Lib.join (x :: y :: r) [46] = x ++ 46 :: Lib.join (y :: r) [46] := by
  rw [Lib.join_cons, Lib.join_cons]; simp [Lib.joinTail]
theorem join_len : ∀ (l : List (List UInt8)), (Lib.join l [46]).length ≤ (wireL l).length
  | [] => by simp [Lib.join_nil]
  | [x] => by simp [Lib.join_one, wireL]
  | x :: y :: r => by
    have := join_len (y :: r)
    rw [join_cons2]; simp only [wireL, List.length_append, List.length_cons, List.cons_append] at this ⊢; omega
theorem unwF_ok : ∀ (n : Nat) (r : List UInt8) (l : List (List UInt8)) (r' : List UInt8), unwF n r = some (l, r') → r = wireL l ++ r' ∧ (∀ p ∈ l, partS p = true) ∧ (r.length ≤ n → r' = [] ∨ ∃ t, r' = 0 :: t)
  | 0, r, l, r', h => by
    simp only [unwF, Option.some.injEq, Prod.mk.injEq] at h
    obtain ⟨rfl, rfl⟩ := h
    refine ⟨rfl, (fun _ hh => by cases hh), fun hh => .inl (List.length_eq_zero_iff.1 (by omega))⟩
  | n + 1, [], l, r', h => by
    simp only [unwF, Option.some.injEq, Prod.mk.injEq] at h
    obtain ⟨rfl, rfl⟩ := h
    exact ⟨rfl, (fun _ hh => by cases hh), fun _ => .inl rfl⟩
  | n + 1, c :: t, l, r', h => by
    unfold unwF at h
    split at h
    · rename_i hc
      simp only [Option.some.injEq, Prod.mk.injEq] at h
      obtain ⟨rfl, rfl⟩ := h
      exact ⟨rfl, (fun _ hh => by cases hh), fun _ => .inr ⟨t, by rw [hc]⟩⟩
    · split at h
      · rename_i hc hp
        rw [Option.map_eq_some_iff] at h
        obtain ⟨⟨l2, r2⟩, h1, h2⟩ := h
        simp only [Prod.mk.injEq] at h2
        obtain ⟨rfl, rfl⟩ := h2
        obtain ⟨k1, k2, k3⟩ := unwF_ok n _ _ _ h1
        refine ⟨?_, ?_, ?_⟩
        · have hl : (t.take c.toNat).length = c.toNat := by rw [List.length_take]; omega
          have hc8 : UInt8.ofInt ((c.toNat : Nat) : Int) = c := by
            apply UInt8.toNat_inj.1
            have := c.toNat_lt
            simp [UInt8.ofInt, UInt8.toNat_ofNat']; omega
          simp only [wireL, hl, hc8, List.cons_append, List.append_assoc, ← k1, List.take_append_drop]
        · intro p hp'
          rcases List.mem_cons.1 hp' with rfl | hp'
          · exact hp.2
          · exact k2 p hp'
        · intro hn
          exact k3 (by simp only [List.length_cons, List.length_drop] at hn ⊢; omega)
      · cases h
theorem unwF_fuel : ∀ (n m : Nat) (r : List UInt8), r.length ≤ n → n ≤ m → unwF n r = unwF m r
  | 0, m, r, h, _ => by
    have : r = [] := List.length_eq_zero_iff.1 (by omega)
    subst this
    cases m <;> rfl
  | n + 1, 0, r, _, hm => by omega
  | n + 1, m + 1, [], _, _ => rfl
  | n + 1, m + 1, c :: t, h, hm => by
    rw [List.length_cons] at h
    unfold unwF
    rw [unwF_fuel n m (t.drop c.toNat) (by rw [List.length_drop]; omega) (by omega)]
/-- The part that stands at a place. -/
theorem label_piece {b : List UInt8} (hb : b.length ≤ 140737488355328) {k : Nat} (hk : k < b.length) : M_label_part_v b (k : Int) = some (if b[k].toNat ≤ (b.drop (k + 1)).length then (b.drop (k + 1)).take b[k].toNat else []) := by
  have hx := b[k].toNat_lt
  unfold M_label_part_v
  rw [if_neg (by omega), at?_in hk, Option.bind_some, if_pos (ok_small (by omega)), if_pos (ok_small (by omega))]
  by_cases h : b[k].toNat ≤ (b.drop (k + 1)).length
  · rw [if_pos h]
    rw [List.length_drop] at h
    rw [decide_eq_false (by omega)]
    unfold M_label_part_v_k1
    rw [if_neg (by decide), if_pos (ok_small (by omega)), if_pos (ok_small (by omega)), at?_in hk, Option.bind_some, if_pos (ok_small (by omega)), if_pos (by omega)]
    rw [show ((k : Int) + 1 + (b[k].toNat : Int)).toNat = k + 1 + b[k].toNat by omega, show ((k : Int) + 1).toNat = k + 1 by omega, List.drop_take, show k + 1 + b[k].toNat - (k + 1) = b[k].toNat by omega]
  · rw [if_neg h]
    rw [List.length_drop] at h
    rw [decide_eq_true (by omega)]; rfl
theorem partS_nil : partS [] = false := by unfold partS; rfl
theorem unwire_loop {b : List UInt8} (hb : b.length ≤ 1000000) : ∀ (d k : Nat) (l : List (List UInt8)), b.length = k + d → l.length ≤ k →
    loopO (fun z_ => M_label_Unwire_v_b2 b z_.1 z_.2) ((k : Int), l) = some (match unwF d (b.drop k) with
      | none => .inr ([], 0, 10)
      | some x => .inl (((b.length - x.2.length : Nat) : Int), l ++ x.1)) := by
  intro d
  induction d using Nat.strongRecOn with
  | ind d ih =>
    intro k l h hl
    by_cases hk : k < b.length
    · have hd : b.drop k = b[k] :: b.drop (k + 1) := List.drop_eq_getElem_cons hk
      obtain ⟨d, rfl⟩ : ∃ e, d = e + 1 := ⟨d - 1, by omega⟩
      have hb1 : M_label_Unwire_v_b2 b (k : Int) l = M_label_Unwire_v_k3 (k : Int) b l (!(decide (b[k] = 0))) := by
        unfold M_label_Unwire_v_b2
        rw [if_pos (by omega), at?_in hk, Option.bind_some]
      rw [hd]
      unfold unwF
      by_cases h0 : b[k] = 0
      · rw [loopO_end (r := .inl ((k : Int), l)) (by
          show M_label_Unwire_v_b2 b (k : Int) l = _
          rw [hb1, decide_eq_true h0]; rfl), if_pos h0]
        simp only [List.length_cons, List.length_drop, List.append_nil]
        rw [show b.length - (b.length - (k + 1) + 1) = k by omega]
      · rw [if_neg h0]
        have hk3 : M_label_Unwire_v_b2 b (k : Int) l = if b[k].toNat ≤ (b.drop (k + 1)).length ∧ partS ((b.drop (k + 1)).take b[k].toNat) = true
            then some (.inl (((k + (1 + b[k].toNat) : Nat) : Int), l ++ [(b.drop (k + 1)).take b[k].toNat])) else some (.inr (.inr ([], 0, 10))) := by
          rw [hb1, decide_eq_false h0]
          unfold M_label_Unwire_v_k3
          have hx := b[k].toNat_lt
          rw [if_pos (by decide), label_piece (by omega) hk, Option.bind_some]
          by_cases hn : b[k].toNat ≤ (b.drop (k + 1)).length
          · rw [if_pos hn]
            have hlen : ((b.drop (k + 1)).take b[k].toNat).length = b[k].toNat := by rw [List.length_take]; omega
            rw [label_part (by omega), Option.bind_some]
            by_cases hp : partS ((b.drop (k + 1)).take b[k].toNat) = true
            · rw [if_pos hp, if_pos (by omega), hlen, if_pos (ok_small (by omega)), if_pos (ok_small (by omega)), if_pos ⟨hn, hp⟩]
              rw [Int.natCast_add, Int.natCast_add]; rfl
            · rw [if_neg hp, if_neg (fun hh => hp hh.2)]
          · rw [if_neg hn, label_part (by simp), Option.bind_some, partS_nil, if_neg (by decide), if_neg (fun hh => hn hh.1)]
        by_cases hp : b[k].toNat ≤ (b.drop (k + 1)).length ∧ partS ((b.drop (k + 1)).take b[k].toNat) = true
        · rw [loopO_next (s' := (((k + (1 + b[k].toNat) : Nat) : Int), l ++ [(b.drop (k + 1)).take b[k].toNat])) (by
            show M_label_Unwire_v_b2 b (k : Int) l = _
            rw [hk3, if_pos hp]), if_pos hp]
          have hp1 := hp.1
          rw [List.length_drop] at hp1
          rw [ih (d - b[k].toNat) (by omega) _ _ (by omega) (by simp; omega), List.drop_drop, show k + 1 + b[k].toNat = k + (1 + b[k].toNat) by omega]
          rw [unwF_fuel (d - b[k].toNat) d _ (by rw [List.length_drop]; omega) (by omega)]
          cases unwF d (b.drop (k + (1 + b[k].toNat))) with
          | none => rfl
          | some x => simp
        · rw [loopO_end (r := .inr ([], 0, 10)) (by
            show M_label_Unwire_v_b2 b (k : Int) l = _
            rw [hk3, if_neg hp]), if_neg hp]
    · have : d = 0 := by omega
      subst this
      rw [loopO_end (r := .inl ((k : Int), l)) (by
        show M_label_Unwire_v_b2 b (k : Int) l = _
        unfold M_label_Unwire_v_b2 M_label_Unwire_v_k3
        rw [if_neg (by omega), if_neg (by decide)]), List.drop_of_length_le (by omega)]
      simp only [unwF, List.length_nil, List.append_nil, Nat.sub_zero]
      rw [show (b.length : Nat) = k by omega]
/-- The name that stands at a place. -/
noncomputable def unwS (b : List UInt8) (a : Int) : List UInt8 × Int × Int :=
  if a < 0 ∨ (b.length : Int) ≤ a then ([], 0, 30) else
  match unwF (b.length - a.toNat) (b.drop a.toNat) with
  | none => ([], 0, 10)
  | some x => if x.2 = [] then ([], 0, 10) else if goodN (Lib.join x.1 [46]) = true then (Lib.join x.1 [46], ((b.length - x.2.length + 1 : Nat) : Int), 0) else ([], 0, 10)
theorem label_unwire {b : List UInt8} (hb : b.length ≤ 1000000) (a : Int) : M_label_Unwire_v b a = some (unwS b a) := by
  have hk1 : M_label_Unwire_v_k1 a b true = some ([], 0, 30) := rfl
  unfold M_label_Unwire_v unwS
  by_cases h1 : a < 0
  · rw [if_pos h1, hk1, if_pos (.inl h1)]
  · rw [if_neg h1]
    by_cases h2 : (b.length : Int) ≤ a
    · rw [decide_eq_true h2, hk1, if_pos (.inr h2)]
    · rw [decide_eq_false h2, if_neg (by omega)]
      obtain ⟨k, rfl⟩ : ∃ n : Nat, a = n := ⟨a.toNat, by omega⟩
      have hloop := unwire_loop hb (b.length - k) k [] (by omega) (by simp)
      unfold M_label_Unwire_v_k1
      rw [if_neg (by decide), hloop, Option.bind_some, show ((k : Int)).toNat = k from rfl]
      cases hu : unwF (b.length - k) (b.drop k) with
      | none => rfl
      | some x =>
        obtain ⟨l, r⟩ := x
        obtain ⟨e, -, hr⟩ := unwF_ok _ _ _ _ hu
        have hlen := congrArg List.length e
        rw [List.length_append, List.length_drop] at hlen
        have hj := join_len l
        have hcount : l.length ≤ (wireL l).length := by
          clear hu e hlen hj hloop
          induction l with
          | nil => simp
          | cons p l ih => simp only [wireL, List.length_cons, List.length_append, List.cons_append]; omega
        simp only [List.nil_append]
        rw [if_pos (by omega), if_pos (by omega)]
        by_cases h0 : r = []
        · subst h0
          rw [if_pos (by simp), if_pos rfl]
        · have hr1 : 0 < r.length := List.length_pos_iff.2 h0
          rw [if_neg (by omega), if_neg h0, label_good (by omega), Option.bind_some]
          split
          · rw [if_pos (ok_small (by omega))]; rfl
          · rfl
/-- One more text behind a name. -/
def joinA (s p : List UInt8) : List UInt8 := if s = [] then p else s ++ 46 :: p
theorem joinA_fold : ∀ (l : List (List UInt8)) (s : List UInt8), (∀ p ∈ l, partS p = true) → s ≠ [] → l.foldl joinA s = s ++ Lib.joinTail [46] l
  | [], s, _, _ => by simp [Lib.joinTail]
  | p :: l, s, h, hs => by
    rw [List.foldl_cons, show joinA s p = s ++ 46 :: p from if_neg hs, joinA_fold l _ (fun q hq => h q (List.mem_cons_of_mem _ hq)) (by simp)]
    simp [Lib.joinTail]
theorem joinA_join (l : List (List UInt8)) (h : ∀ p ∈ l, partS p = true) : l.foldl joinA [] = Lib.join l [46] := by
  cases l with
  | nil => rfl
  | cons p l =>
    have hp := part_len (h p (List.mem_cons_self ..))
    rw [Lib.join_cons, List.foldl_cons, show joinA [] p = p from if_pos rfl, joinA_fold l p (fun q hq => h q (List.mem_cons_of_mem _ hq)) (fun e => by subst e; simp at hp)]
theorem ref09_k4 {b s : List UInt8} (hb : b.length ≤ 1000000) {k : Nat} (hk : k < b.length) (hn : b[k].toNat ≤ (b.drop (k + 1)).length) (hs : s.length ≤ 10000000) : M_signpostref09_Unwire_v_k4 b (k : Int) b[k] s =
    if partS ((b.drop (k + 1)).take b[k].toNat) = true then some (.inl (s ++ (b.drop (k + 1)).take b[k].toNat, ((k + (1 + b[k].toNat) : Nat) : Int))) else some (.inr (.inr ([], 0, 10))) := by
  have hlen : ((b.drop (k + 1)).take b[k].toNat).length = b[k].toNat := by rw [List.length_take]; omega
  rw [List.length_drop] at hn
  have e : (b.take ((k : Int) + 1 + (b[k].toNat : Int)).toNat).drop ((k : Int) + 1).toNat = (b.drop (k + 1)).take b[k].toNat := by
    rw [show ((k : Int) + 1 + (b[k].toNat : Int)).toNat = k + 1 + b[k].toNat by omega, show ((k : Int) + 1).toNat = k + 1 by omega, List.drop_take, show k + 1 + b[k].toNat - (k + 1) = b[k].toNat by omega]
  have h1 : ok64 ((k : Int) + 1) := ok_small (by omega)
  have h2 : ok64 ((k : Int) + 1 + (b[k].toNat : Int)) := ok_small (by omega)
  have e3 : (k : Int) + 1 + (b[k].toNat : Int) = ((k + (1 + b[k].toNat) : Nat) : Int) := by omega
  unfold M_signpostref09_Unwire_v_k4
  rw [if_pos h1, if_pos h1, if_pos h2, if_pos (by omega), e, ref09_part (by omega), Option.bind_some]
  by_cases hp : partS ((b.drop (k + 1)).take b[k].toNat) = true
  · rw [if_pos hp, if_pos hp, if_pos h1, if_pos h1, if_pos h2, if_pos (by omega), hlen, if_pos (by omega), if_pos h1, if_pos h2, e3]
  · rw [if_neg hp, if_neg hp]
theorem ref09_unwire_loop {b : List UInt8} (hb : b.length ≤ 1000000) : ∀ (d k : Nat) (s : List UInt8), b.length = k + d → s.length ≤ k →
    loopO (fun z_ => M_signpostref09_Unwire_v_b2 b z_.1 z_.2) (s, (k : Int)) = some (match unwF d (b.drop k) with
      | none => .inr ([], 0, 10)
      | some x => .inl (x.1.foldl joinA s, ((b.length - x.2.length : Nat) : Int))) := by
  intro d
  induction d using Nat.strongRecOn with
  | ind d ih =>
    intro k s h hl
    by_cases hk : k < b.length
    · have hd : b.drop k = b[k] :: b.drop (k + 1) := List.drop_eq_getElem_cons hk
      obtain ⟨d, rfl⟩ : ∃ e, d = e + 1 := ⟨d - 1, by omega⟩
      have hb1 : M_signpostref09_Unwire_v_b2 b s (k : Int) = M_signpostref09_Unwire_v_k3 b (k : Int) s (!(decide (b[k] = 0))) := by
        unfold M_signpostref09_Unwire_v_b2
        rw [if_pos (by omega), at?_in hk, Option.bind_some]
      rw [hd]
      unfold unwF
      by_cases h0 : b[k] = 0
      · rw [loopO_end (r := .inl (s, (k : Int))) (by
          show M_signpostref09_Unwire_v_b2 b s (k : Int) = _
          rw [hb1, decide_eq_true h0]; rfl), if_pos h0]
        simp only [List.length_cons, List.length_drop, List.foldl_nil]
        rw [show b.length - (b.length - (k + 1) + 1) = k by omega]
      · rw [if_neg h0]
        have hx := b[k].toNat_lt
        have hk3 : M_signpostref09_Unwire_v_b2 b s (k : Int) = if b[k].toNat ≤ (b.drop (k + 1)).length ∧ partS ((b.drop (k + 1)).take b[k].toNat) = true
            then some (.inl (joinA s ((b.drop (k + 1)).take b[k].toNat), ((k + (1 + b[k].toNat) : Nat) : Int))) else some (.inr (.inr ([], 0, 10))) := by
          rw [hb1, decide_eq_false h0]
          unfold M_signpostref09_Unwire_v_k3
          rw [if_pos (by decide), at?_in hk, Option.bind_some, if_pos (ok_small (by omega)), if_pos (ok_small (by omega))]
          by_cases hn : b[k].toNat ≤ (b.drop (k + 1)).length
          · have hn' := hn
            rw [List.length_drop] at hn'
            rw [if_neg (by omega)]
            unfold joinA
            by_cases hs : s = []
            · rw [if_pos hs, if_pos hs, ref09_k4 hb hk hn (by omega), hs, List.nil_append]
              by_cases hp : partS ((b.drop (k + 1)).take b[k].toNat) = true
              · rw [if_pos hp, if_pos ⟨hn, hp⟩]
              · rw [if_neg hp, if_neg (fun hh => hp hh.2)]
            · rw [if_neg hs, if_neg hs, if_pos (by omega), ref09_k4 hb hk hn (by simp; omega), List.append_assoc]
              by_cases hp : partS ((b.drop (k + 1)).take b[k].toNat) = true
              · rw [if_pos hp, if_pos ⟨hn, hp⟩]; rfl
              · rw [if_neg hp, if_neg (fun hh => hp hh.2)]
          · have hn' := hn
            rw [List.length_drop] at hn'
            rw [if_pos (by omega), if_neg (fun hh => hn hh.1)]
        by_cases hp : b[k].toNat ≤ (b.drop (k + 1)).length ∧ partS ((b.drop (k + 1)).take b[k].toNat) = true
        · rw [loopO_next (s' := (joinA s ((b.drop (k + 1)).take b[k].toNat), ((k + (1 + b[k].toNat) : Nat) : Int))) (by
            show M_signpostref09_Unwire_v_b2 b s (k : Int) = _
            rw [hk3, if_pos hp]), if_pos hp]
          have hp1 := hp.1
          rw [List.length_drop] at hp1
          have hlen : (joinA s ((b.drop (k + 1)).take b[k].toNat)).length ≤ k + (1 + b[k].toNat) := by
            unfold joinA
            split <;> simp <;> omega
          rw [ih (d - b[k].toNat) (by omega) _ _ (by omega) hlen, List.drop_drop, show k + 1 + b[k].toNat = k + (1 + b[k].toNat) by omega]
          rw [unwF_fuel (d - b[k].toNat) d _ (by rw [List.length_drop]; omega) (by omega)]
          cases unwF d (b.drop (k + (1 + b[k].toNat))) with
          | none => rfl
          | some x => simp
        · rw [loopO_end (r := .inr ([], 0, 10)) (by
            show M_signpostref09_Unwire_v_b2 b s (k : Int) = _
            rw [hk3, if_neg hp]), if_neg hp]
    · have : d = 0 := by omega
      subst this
      rw [loopO_end (r := .inl (s, (k : Int))) (by
        show M_signpostref09_Unwire_v_b2 b s (k : Int) = _
        unfold M_signpostref09_Unwire_v_b2 M_signpostref09_Unwire_v_k3
        rw [if_neg (by omega), if_neg (by decide)]), List.drop_of_length_le (by omega)]
      simp only [unwF, List.length_nil, List.foldl_nil, Nat.sub_zero]
      rw [show (b.length : Nat) = k by omega]
theorem ref09_unwire {b : List UInt8} (hb : b.length ≤ 100000) (a : Int) : M_signpostref09_Unwire_v b a = some (unwS b a) := by
  have hk1 : M_signpostref09_Unwire_v_k1 a b true = some ([], 0, 30) := rfl
  unfold M_signpostref09_Unwire_v unwS
  by_cases h1 : a < 0
  · rw [if_pos h1, hk1, if_pos (.inl h1)]
  · rw [if_neg h1]
    by_cases h2 : (b.length : Int) ≤ a
    · rw [decide_eq_true h2, hk1, if_pos (.inr h2)]
    · rw [decide_eq_false h2, if_neg (by omega)]
      obtain ⟨k, rfl⟩ : ∃ n : Nat, a = n := ⟨a.toNat, by omega⟩
      have hloop := ref09_unwire_loop (b := b) (by omega) (b.length - k) k [] (by omega) (by simp)
      unfold M_signpostref09_Unwire_v_k1
      rw [if_neg (by decide), hloop, Option.bind_some, show ((k : Int)).toNat = k from rfl]
      cases hu : unwF (b.length - k) (b.drop k) with
      | none => rfl
      | some x =>
        obtain ⟨l, r⟩ := x
        obtain ⟨e, hp, hr⟩ := unwF_ok _ _ _ _ hu
        have hlen := congrArg List.length e
        rw [List.length_append, List.length_drop] at hlen
        have hj := join_len l
        simp only [joinA_join l hp]
        by_cases h0 : r = []
        · subst h0
          rw [if_pos (by simp), if_pos rfl]
        · have hr1 : 0 < r.length := List.length_pos_iff.2 h0
          rw [if_neg (by omega), if_neg h0, ref09_good (by omega), Option.bind_some]
          split
          · rw [if_pos (ok_small (by omega))]; rfl
          · rfl
/-! ### the statement -/
theorem pure_LabelBytes (s : List UInt8) (b : List UInt8) (at_ : Int) (wf_s : s.length ≤ 140737488351232) (hl_b : b.length ≤ 140737488351232) (wf_at_ : ok64 at_) : M_signpostlaw09_LabelBytes_v s b at_ = some true := by
  have hk1 : M_signpostlaw09_LabelBytes_v_k1 at_ b s true = some true := by
    unfold M_signpostlaw09_LabelBytes_v_k1
    rw [if_pos rfl, lives09]; rfl
  unfold M_signpostlaw09_LabelBytes_v
  by_cases h1 : (600 : Int) < s.length
  · rw [if_pos h1, hk1]
  · rw [if_neg h1]
    by_cases h2 : (2000 : Int) < b.length
    · rw [decide_eq_true h2, hk1]
    · rw [decide_eq_false h2]
      unfold M_signpostlaw09_LabelBytes_v_k1
      rw [if_neg (by decide), label_wire (by omega), ref09_wire (by omega), label_unwire (by omega), ref09_unwire (by omega), lives09]
      generalize (if goodN s = true then (wireS s, (0 : Int)) else ([], 40)) = x
      generalize unwS b at_ = y
      obtain ⟨x1, x2⟩ := x
      obtain ⟨y1, y2, y3⟩ := y
      simp
end Go.Proofs.Ytaaahjcldomnbaa
