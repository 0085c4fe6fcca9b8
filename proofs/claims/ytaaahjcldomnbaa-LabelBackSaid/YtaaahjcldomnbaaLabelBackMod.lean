/-
  What the functions that the statement LabelBack reaches compute, each as a Lean function. No condition.
-/
import Derived.Test.YtaaahjcldomnbaaBRange
import Derived.Test.YtaaahjcldomnbaaBShelf
namespace Go.Proofs.Ytaaahjcldomnbaa
open Go Go.RowKit
set_option linter.unusedVariables false
set_option linter.unusedSimpArgs false
set_option linter.unnecessarySimpa false


noncomputable def M_label_parts (s : List UInt8) : Option Unit :=
  some ()
noncomputable def M_stringslite_IndexByte (s : List UInt8) (c : UInt8) : Option Unit :=
  some ()
noncomputable def M_stringslite_Index (s : List UInt8) : Option Int :=
  if ([46] : List UInt8) = s then
    some 0
  else
  Option.bind (at? ([46] : List UInt8) 0) fun c =>
  Option.bind (M_stringslite_IndexByte s c) fun () =>
  some (Lib.indexByte s c)
noncomputable def M_stringslite_Cut (s : List UInt8) : Option (List UInt8 × List UInt8 × Bool) :=
  Option.bind (M_stringslite_Index s) fun r1_2 =>
  if (0 : Int) ≤ r1_2 then
    if ((0 : Int) ≤ 0 ∧ (0 : Int) ≤ r1_2) ∧ r1_2 ≤ (s.length : Int) then
      if ok64 (r1_2 + 1) then
        if ((0 : Int) ≤ (r1_2 + 1) ∧ (r1_2 + 1) ≤ (s.length : Int)) ∧ (s.length : Int) ≤ (s.length : Int) then
          some (s.take r1_2.toNat, s.drop ((r1_2 + 1).toNat), true)
        else none
      else none
    else none
  else
    some (s, ([] : List UInt8), false)
noncomputable def M_strings_Cut (s : List UInt8) : Option (List UInt8 × List UInt8 × Bool) :=
  Option.bind (M_stringslite_Cut s) fun (r1_2, r2_2, r3_2) =>
  some (r1_2, r2_2, r3_2)
noncomputable def M_label_parts_1_p_b1 {σ_ ρ_ : Type} (f_ : σ_ → (List UInt8) → Option (σ_ ⊕ ρ_)) (z : σ_) (t1 : List UInt8) : Option ((σ_ × List UInt8) ⊕ (σ_ ⊕ ρ_)) :=
  Option.bind (M_strings_Cut t1) fun (r1, r2, r3) =>
  Option.bind (f_ z r1) fun y__2 =>
  match y__2 with
  | .inl z_2 =>
    if r3 = true then
      some (.inl (z_2, r2))
    else
      some (.inr (.inl z_2))
  | .inr x_2 =>
    some (.inr (.inr x_2))
noncomputable def M_label_parts_1_p {σ_ ρ_ : Type} (f_ : σ_ → (List UInt8) → Option (σ_ ⊕ ρ_)) (x : List UInt8) (z_ : σ_) : Option (σ_ ⊕ ρ_) :=
  Option.bind (loopO (fun z_ => M_label_parts_1_p_b1 f_ z_.1 z_.2) (z_, x)) fun o =>
  match o with
  | r =>
    some r
noncomputable def M_label_plain_k2 (c : UInt8) : Option (Bool) :=
  if (48 : UInt8) ≤ c then
    if c ≤ 57 then
      some true
    else
    if c = 45 then
      some true
    else
      some (decide (c = 95))
  else
  if c = 45 then
    some true
  else
    some (decide (c = 95))
noncomputable def M_label_plain_k1 (c : UInt8) : Option (Bool) :=
  if (65 : UInt8) ≤ c then
    if c ≤ 90 then
      some true
    else
      M_label_plain_k2 c
  else
    M_label_plain_k2 c
noncomputable def M_label_plain (c : UInt8) : Option Bool :=
  if (97 : UInt8) ≤ c then
    if c ≤ 122 then
      some true
    else
      M_label_plain_k1 c
  else
    M_label_plain_k1 c
noncomputable def M_label_Part_b2 (s : List UInt8) (t29 : Int) : Option (Int ⊕ (Unit ⊕ (Bool))) :=
  if t29 < (s.length : Int) then
    Option.bind (at? s t29) fun x =>
    Option.bind (M_label_plain x) fun r1_2 =>
    if r1_2 = true then
      if ok64 (t29 + 1) then
        some (.inl (t29 + 1))
      else none
    else
      some (.inr (.inr false))
  else
    some (.inr (.inl ()))
noncomputable def M_label_Part_k1 (s : List UInt8) (t25 : Bool) : Option (Bool) :=
  if t25 = true then
    some false
  else
  if s.length ≤ 140737488355328 then
    Option.bind (loopO (fun z_ => M_label_Part_b2 s z_) 0) fun o =>
    match o with
    | .inl () =>
      some true
    | .inr r =>
      some r
  else none
noncomputable def M_label_Part (s : List UInt8) : Option Bool :=
  if (s.length : Int) < 1 then
    M_label_Part_k1 s true
  else
  if (63 : Int) < (s.length : Int) then
    M_label_Part_k1 s true
  else
  Option.bind (at? s 0) fun c =>
  if c = 45 then
    M_label_Part_k1 s true
  else
  if ok64 ((s.length : Int) - 1) then
    Option.bind (at? s ((s.length : Int) - 1)) fun c_2 =>
    M_label_Part_k1 s (decide (c_2 = 45))
  else none
noncomputable def M_label_Good_r1 (x : List UInt8) : Option (Unit ⊕ Unit) :=
  Option.bind (M_label_Part x) fun r1_2 =>
  if r1_2 = true then
    some (.inl ())
  else
    some (.inr ())
noncomputable def M_label_Good (s : List UInt8) : Option Bool :=
  if (253 : Int) < (s.length : Int) then
    some false
  else
  Option.bind (M_label_parts s) fun () =>
  Option.bind (M_label_parts_1_p (fun (_ : Unit) x => M_label_Good_r1 x) s ()) fun o =>
  match o with
  | .inl () =>
    some true
  | .inr () =>
    some false
noncomputable def M_label_Wire_1_pn (p : List UInt8) : Option Unit :=
  if (0 + 1) * 1 ≤ 140737488355328 then
    if ((([] : List UInt8) ++ [UInt8.ofInt (p.length : Int)]).length + p.length) * 1 ≤ 140737488355328 then
      some ()
    else none
  else none
noncomputable def M_label_Wire_1_po (p : List UInt8) (x : List UInt8) : Option Unit :=
  if (x.length + 1) * 1 ≤ 140737488355328 then
    if ((x ++ [UInt8.ofInt (p.length : Int)]).length + p.length) * 1 ≤ 140737488355328 then
      some ()
    else none
  else none
noncomputable def M_label_Wire_r1 (out : List UInt8) (x : List UInt8) : Option ((List UInt8) ⊕ Empty) :=
  Option.bind (M_label_Wire_1_po x out) fun () =>
  some (.inl ((out ++ [UInt8.ofInt (x.length : Int)]) ++ x))
noncomputable def M_label_Wire (s : List UInt8) : Option (List UInt8 × Int) :=
  Option.bind (M_label_Good s) fun r1_2 =>
  if r1_2 = true then
    Option.bind (M_label_parts s) fun () =>
    Option.bind (M_label_parts_1_p (fun (y_ : List UInt8) x => M_label_Wire_r1 y_ x) s ([] : List UInt8)) fun o =>
    match o with
    | .inl out =>
      Option.bind (M_label_Wire_1_po ([] : List UInt8) out) fun () =>
      some ((out ++ [UInt8.ofInt 0]) ++ ([] : List UInt8), 0)
  else
    some (([] : List UInt8), 40)
noncomputable def M_label_Fold_k2 (b : List UInt8) (t10 : Int) (x : UInt8) (t20 : Bool) : Option ((List UInt8 × Int) ⊕ (List UInt8)) :=
  if t20 = true then
    Option.bind (at? b t10) fun x_2 =>
    if ok64 (t10 + 1) then
      some (.inl (b.set t10.toNat (x ||| 32), t10 + 1))
    else none
  else
  if ok64 (t10 + 1) then
    some (.inl (b, t10 + 1))
  else none
noncomputable def M_label_Fold_b1 (s : List UInt8) (b : List UInt8) (t10 : Int) : Option ((List UInt8 × Int) ⊕ (List UInt8)) :=
  if t10 < (s.length : Int) then
    Option.bind (at? b t10) fun x =>
    if (65 : UInt8) ≤ x then
      M_label_Fold_k2 b t10 x (decide (x ≤ 90))
    else
      M_label_Fold_k2 b t10 x false
  else
    some (.inr b)
noncomputable def M_label_Fold (s : List UInt8) : Option (List UInt8) :=
  if s.length ≤ 140737488355328 then
    Option.bind (loopO (fun z_ => M_label_Fold_b1 s z_.1 z_.2) (s, 0)) fun o =>
    match o with
    | b_2 =>
      some b_2
  else none
noncomputable def M_label_Same (a : List UInt8) (b : List UInt8) : Option Bool :=
  Option.bind (M_label_Fold a) fun r1_2 =>
  Option.bind (M_label_Fold b) fun r1_3 =>
  some (decide (r1_2 = r1_3))
noncomputable def M_stringslite_HasSuffix (s : List UInt8) (suffix : List UInt8) : Option Bool :=
  if (suffix.length : Int) ≤ (s.length : Int) then
    if ok64 ((s.length : Int) - (suffix.length : Int)) then
      if ((0 : Int) ≤ ((s.length : Int) - (suffix.length : Int)) ∧ ((s.length : Int) - (suffix.length : Int)) ≤ (s.length : Int)) ∧ (s.length : Int) ≤ (s.length : Int) then
        some (decide ((s.drop (((s.length : Int) - (suffix.length : Int)).toNat)) = suffix))
      else none
    else none
  else
    some false
noncomputable def M_strings_HasSuffix (s : List UInt8) (suffix : List UInt8) : Option Bool :=
  Option.bind (M_stringslite_HasSuffix s suffix) fun r1_2 =>
  some r1_2
noncomputable def M_label_Under_k1 (s : List UInt8) (zone : List UInt8) (t12 : Bool) : Option (Bool) :=
  if t12 = true then
    some false
  else
  Option.bind (M_label_Same s zone) fun r1_4 =>
  if r1_4 = true then
    some true
  else
  Option.bind (M_label_Fold s) fun r1_5 =>
  Option.bind (M_label_Fold zone) fun r1_6 =>
  if 1 + r1_6.length ≤ 9223372036854775807 then
    Option.bind (M_strings_HasSuffix r1_5 (([46] : List UInt8) ++ r1_6)) fun r1_7 =>
    some r1_7
  else none
noncomputable def M_label_Under (s : List UInt8) (zone : List UInt8) : Option Bool :=
  Option.bind (M_label_Good s) fun r1_2 =>
  if r1_2 = true then
    Option.bind (M_label_Good zone) fun r1_3 =>
    M_label_Under_k1 s zone (!r1_3)
  else
    M_label_Under_k1 s zone true
noncomputable def M_signpostlaw09_lives  : Option Bool :=
  Option.bind (M_label_Wire ([97, 46, 98, 99] : List UInt8)) fun (r3_2, r4_2) =>
  if r3_2 = ([1, 97, 2, 98, 99, 0] : List UInt8) then
    if r4_2 = 0 then
      Option.bind (M_label_Under ([120, 46, 97, 46, 66, 67] : List UInt8) ([65, 46, 98, 99] : List UInt8)) fun r1_2 =>
      if r1_2 = true then
        Option.bind (M_label_Under ([120, 97, 46, 98, 99] : List UInt8) ([97, 46, 98, 99] : List UInt8)) fun r1_3 =>
        some (!r1_3)
      else
        some false
    else
      some false
  else
    some false
noncomputable def M_label_part_v_k1 (at_ : Int) (b : List UInt8) (t21 : Bool) : Option (List UInt8) :=
  if t21 = true then
    some ([] : List UInt8)
  else
  if ok64 (at_ + 1) then
    if ok64 (at_ + 1) then
      Option.bind (at? b at_) fun x_2 =>
      if ok64 ((at_ + 1) + (x_2.toNat : Int)) then
        if ((0 : Int) ≤ (at_ + 1) ∧ (at_ + 1) ≤ ((at_ + 1) + (x_2.toNat : Int))) ∧ ((at_ + 1) + (x_2.toNat : Int)) ≤ (b.length : Int) then
          some ((b.take (((at_ + 1) + (x_2.toNat : Int)).toNat)).drop ((at_ + 1).toNat))
        else none
      else none
    else none
  else none
noncomputable def M_label_part_v (b : List UInt8) (at_ : Int) : Option (List UInt8) :=
  if (b.length : Int) ≤ at_ then
    M_label_part_v_k1 at_ b true
  else
  Option.bind (at? b at_) fun x =>
  if ok64 ((b.length : Int) - at_) then
    if ok64 (((b.length : Int) - at_) - 1) then
      M_label_part_v_k1 at_ b (decide ((((b.length : Int) - at_) - 1) < (x.toNat : Int)))
    else none
  else none
noncomputable def M_label_Unwire_v_k3 (at__2 : Int) (b : List UInt8) (l : List (List UInt8)) (t28 : Bool) : Option ((Int × List (List UInt8)) ⊕ ((Int × List (List UInt8)) ⊕ (List UInt8 × Int × Int))) :=
  if t28 = true then
    Option.bind (M_label_part_v b at__2) fun r1_2 =>
    Option.bind (M_label_Part r1_2) fun r1_3 =>
    if r1_3 = true then
      if (l.length + 1) * 16 ≤ 140737488355328 then
        if ok64 (1 + (r1_2.length : Int)) then
          if ok64 (at__2 + (1 + (r1_2.length : Int))) then
            some (.inl (at__2 + (1 + (r1_2.length : Int)), l ++ [r1_2]))
          else none
        else none
      else none
    else
      some (.inr (.inr (([] : List UInt8), 0, 10)))
  else
    some (.inr (.inl (at__2, l)))
noncomputable def M_label_Unwire_v_b2 (b : List UInt8) (at__2 : Int) (l : List (List UInt8)) : Option ((Int × List (List UInt8)) ⊕ ((Int × List (List UInt8)) ⊕ (List UInt8 × Int × Int))) :=
  if at__2 < (b.length : Int) then
    Option.bind (at? b at__2) fun x =>
    M_label_Unwire_v_k3 at__2 b l (!(decide (x = 0)))
  else
    M_label_Unwire_v_k3 at__2 b l false
noncomputable def M_label_Unwire_v_k1 (at_ : Int) (b : List UInt8) (t17 : Bool) : Option (List UInt8 × Int × Int) :=
  if t17 = true then
    some (([] : List UInt8), 0, 30)
  else
  Option.bind (loopO (fun z_ => M_label_Unwire_v_b2 b z_.1 z_.2) (at_, ([] : List (List UInt8)))) fun o =>
  match o with
  | .inl (at__3, l_2) =>
    if l_2.length ≤ 140737488355328 then
      if (Lib.join l_2 ([46] : List UInt8)).length ≤ 140737488355328 then
        if (b.length : Int) ≤ at__3 then
          some (([] : List UInt8), 0, 10)
        else
        Option.bind (M_label_Good (Lib.join l_2 ([46] : List UInt8))) fun r1_4 =>
        if r1_4 = true then
          if ok64 (at__3 + 1) then
            some (Lib.join l_2 ([46] : List UInt8), at__3 + 1, 0)
          else none
        else
          some (([] : List UInt8), 0, 10)
      else none
    else none
  | .inr r =>
    some r
noncomputable def M_label_Unwire_v (b : List UInt8) (at_ : Int) : Option (List UInt8 × Int × Int) :=
  if at_ < 0 then
    M_label_Unwire_v_k1 at_ b true
  else
    M_label_Unwire_v_k1 at_ b (decide ((b.length : Int) ≤ at_))
noncomputable def M_signpostlaw09_LabelBack_vv_k3 (t6 : Bool) : Option (Bool) :=
  some t6
noncomputable def M_signpostlaw09_LabelBack_vv_k2 (behind : List UInt8) : Option (Bool) :=
  Option.bind (M_label_Unwire_v behind 0) fun (r1_4, r2_3, r3_4) =>
  if r3_4 = 0 then
    Option.bind (M_label_Wire r1_4) fun (r3_5, r4_3) =>
    if r4_3 = 0 then
      if r2_3 = (r3_5.length : Int) then
        if r2_3 ≤ (behind.length : Int) then
          if (0 : Int) ≤ r2_3 ∧ r2_3 ≤ (behind.length : Int) then
            if r3_5 = (behind.take r2_3.toNat) then
              Option.bind (M_signpostlaw09_lives) fun r1_5 =>
              some r1_5
            else
              some false
          else none
        else
          some false
      else
        some false
    else
      some false
  else
  if r1_4 = ([] : List UInt8) then
    if r2_3 = 0 then
      Option.bind (M_signpostlaw09_lives) fun r1_6 =>
      M_signpostlaw09_LabelBack_vv_k3 r1_6
    else
      M_signpostlaw09_LabelBack_vv_k3 false
  else
    M_signpostlaw09_LabelBack_vv_k3 false
noncomputable def M_signpostlaw09_LabelBack_vv_k1 (ahead : List UInt8) (behind : List UInt8) (s : List UInt8) (t27 : Bool) : Option (Bool) :=
  if t27 = true then
    Option.bind (M_signpostlaw09_lives) fun r1_2 =>
    some r1_2
  else
  Option.bind (M_label_Wire s) fun (r3_2, r4_2) =>
  if r4_2 = 0 then
    if (0 + ahead.length) * 1 ≤ 140737488355328 then
      if ((([] : List UInt8) ++ ahead).length + r3_2.length) * 1 ≤ 140737488355328 then
        if (((([] : List UInt8) ++ ahead) ++ r3_2).length + behind.length) * 1 ≤ 140737488355328 then
          Option.bind (M_label_Unwire_v (((([] : List UInt8) ++ ahead) ++ r3_2) ++ behind) (ahead.length : Int)) fun (r1_3, r2_2, r3_3) =>
          if r1_3 = s then
            if ok64 ((ahead.length : Int) + (r3_2.length : Int)) then
              if r2_2 = ((ahead.length : Int) + (r3_2.length : Int)) then
                if r3_3 = 0 then
                  if (255 : Int) < (r3_2.length : Int) then
                    some false
                  else
                    M_signpostlaw09_LabelBack_vv_k2 behind
                else
                  some false
              else
                some false
            else none
          else
            some false
        else none
      else none
    else none
  else
    M_signpostlaw09_LabelBack_vv_k2 behind
noncomputable def M_signpostlaw09_LabelBack_vv (s : List UInt8) (ahead : List UInt8) (behind : List UInt8) : Option Bool :=
  if (600 : Int) < (s.length : Int) then
    M_signpostlaw09_LabelBack_vv_k1 ahead behind s true
  else
  if ok64 ((ahead.length : Int) + (behind.length : Int)) then
    M_signpostlaw09_LabelBack_vv_k1 ahead behind s (decide ((2000 : Int) < ((ahead.length : Int) + (behind.length : Int))))
  else none
end Go.Proofs.Ytaaahjcldomnbaa
