/-
  What the functions that the statement ServiceJoins reaches compute, each as a Lean function. No condition.
-/
import Derived.Test.YtlkilokdbkjbmaaDoorBRange
import Derived.Test.YtlkilokdbkjbmaaDoorBShelf
namespace Go.Proofs.YtlkilokdbkjbmaaDoor
open Go Go.RowKit
set_option linter.unusedVariables false
set_option linter.unusedSimpArgs false
set_option linter.unnecessarySimpa false
structure G_anon_7 where
  x : Int
  y_ : Int
  signed : Bool
  code : UInt8
  deriving DecidableEq
def el_G_anon_7 : El G_anon_7 := ⟨fun x => [(vI x.x), (vI x.y_), (.bool x.signed), (v8 x.code)], 4, fun x => by simp [bytesV_length], fun x => (List.forall_mem_cons.2 ⟨rfl, (List.forall_mem_cons.2 ⟨rfl, (List.forall_mem_cons.2 ⟨rfl, (List.forall_mem_cons.2 ⟨rfl, (fun _ hh => by cases hh)⟩)⟩)⟩)⟩)⟩
structure G_runtime_boundsError where
  x : Int
  y_ : Int
  signed : Bool
  code : UInt8
  deriving DecidableEq
def el_G_runtime_boundsError : El G_runtime_boundsError := ⟨fun x => [(vI x.x), (vI x.y_), (.bool x.signed), (v8 x.code)], 4, fun x => by simp [bytesV_length], fun x => (List.forall_mem_cons.2 ⟨rfl, (List.forall_mem_cons.2 ⟨rfl, (List.forall_mem_cons.2 ⟨rfl, (List.forall_mem_cons.2 ⟨rfl, (fun _ hh => by cases hh)⟩)⟩)⟩)⟩)⟩
def G_anon_7_wf (x : G_anon_7) : Prop := ok64 x.x ∧ ok64 x.y_
def G_runtime_boundsError_wf (x : G_runtime_boundsError) : Prop := ok64 x.x ∧ ok64 x.y_
noncomputable def M_label_parts (s : List UInt8) : Option Unit :=
  some ()
noncomputable def M_stringslite_IndexByte (s : List UInt8) (c : UInt8) : Option Unit :=
  some ()
noncomputable def M_stringslite_Index (s : List UInt8) : Option Int :=
  if ([46] : List UInt8) = s then
    some 0
  else
  Option.bind (at? ([46] : List UInt8) 0) fun c =>
  Option.bind (M_stringslite_IndexByte s c) fun () =>
  some (Lib.indexByte s c)
noncomputable def M_stringslite_Cut (s : List UInt8) : Option (List UInt8 × List UInt8 × Bool) :=
  Option.bind (M_stringslite_Index s) fun r1_2 =>
  if (0 : Int) ≤ r1_2 then
    if ((0 : Int) ≤ 0 ∧ (0 : Int) ≤ r1_2) ∧ r1_2 ≤ (s.length : Int) then
      if ok64 (r1_2 + 1) then
        if ((0 : Int) ≤ (r1_2 + 1) ∧ (r1_2 + 1) ≤ (s.length : Int)) ∧ (s.length : Int) ≤ (s.length : Int) then
          some (s.take r1_2.toNat, s.drop ((r1_2 + 1).toNat), true)
        else none
      else none
    else none
  else
    some (s, ([] : List UInt8), false)
noncomputable def M_strings_Cut (s : List UInt8) : Option (List UInt8 × List UInt8 × Bool) :=
  Option.bind (M_stringslite_Cut s) fun (r1_2, r2_2, r3_2) =>
  some (r1_2, r2_2, r3_2)
noncomputable def M_label_parts_1_p_b1 {σ_ ρ_ : Type} (f_ : σ_ → (List UInt8) → Option (σ_ ⊕ ρ_)) (z : σ_) (t1 : List UInt8) : Option ((σ_ × List UInt8) ⊕ (σ_ ⊕ ρ_)) :=
  Option.bind (M_strings_Cut t1) fun (r1, r2, r3) =>
  Option.bind (f_ z r1) fun y__2 =>
  match y__2 with
  | .inl z_2 =>
    if r3 = true then
      some (.inl (z_2, r2))
    else
      some (.inr (.inl z_2))
  | .inr x_2 =>
    some (.inr (.inr x_2))
noncomputable def M_label_parts_1_p {σ_ ρ_ : Type} (f_ : σ_ → (List UInt8) → Option (σ_ ⊕ ρ_)) (x : List UInt8) (z_ : σ_) : Option (σ_ ⊕ ρ_) :=
  Option.bind (loopO (fun z_ => M_label_parts_1_p_b1 f_ z_.1 z_.2) (z_, x)) fun o =>
  match o with
  | r =>
    some r
noncomputable def M_label_plain_k2 (c : UInt8) : Option (Bool) :=
  if (48 : UInt8) ≤ c then
    if c ≤ 57 then
      some true
    else
    if c = 45 then
      some true
    else
      some (decide (c = 95))
  else
  if c = 45 then
    some true
  else
    some (decide (c = 95))
noncomputable def M_label_plain_k1 (c : UInt8) : Option (Bool) :=
  if (65 : UInt8) ≤ c then
    if c ≤ 90 then
      some true
    else
      M_label_plain_k2 c
  else
    M_label_plain_k2 c
noncomputable def M_label_plain (c : UInt8) : Option Bool :=
  if (97 : UInt8) ≤ c then
    if c ≤ 122 then
      some true
    else
      M_label_plain_k1 c
  else
    M_label_plain_k1 c
noncomputable def M_label_Part_b2 (s : List UInt8) (t29 : Int) : Option (Int ⊕ (Unit ⊕ (Bool))) :=
  if t29 < (s.length : Int) then
    Option.bind (at? s t29) fun x =>
    Option.bind (M_label_plain x) fun r1_2 =>
    if r1_2 = true then
      if ok64 (t29 + 1) then
        some (.inl (t29 + 1))
      else none
    else
      some (.inr (.inr false))
  else
    some (.inr (.inl ()))
noncomputable def M_label_Part_k1 (s : List UInt8) (t25 : Bool) : Option (Bool) :=
  if t25 = true then
    some false
  else
  if s.length ≤ 140737488355328 then
    Option.bind (loopO (fun z_ => M_label_Part_b2 s z_) 0) fun o =>
    match o with
    | .inl () =>
      some true
    | .inr r =>
      some r
  else none
noncomputable def M_label_Part (s : List UInt8) : Option Bool :=
  if (s.length : Int) < 1 then
    M_label_Part_k1 s true
  else
  if (63 : Int) < (s.length : Int) then
    M_label_Part_k1 s true
  else
  Option.bind (at? s 0) fun c =>
  if c = 45 then
    M_label_Part_k1 s true
  else
  if ok64 ((s.length : Int) - 1) then
    Option.bind (at? s ((s.length : Int) - 1)) fun c_2 =>
    M_label_Part_k1 s (decide (c_2 = 45))
  else none
noncomputable def M_label_Good_r1 (x : List UInt8) : Option (Unit ⊕ Unit) :=
  Option.bind (M_label_Part x) fun r1_2 =>
  if r1_2 = true then
    some (.inl ())
  else
    some (.inr ())
noncomputable def M_label_Good (s : List UInt8) : Option Bool :=
  if (253 : Int) < (s.length : Int) then
    some false
  else
  Option.bind (M_label_parts s) fun () =>
  Option.bind (M_label_parts_1_p (fun (_ : Unit) x => M_label_Good_r1 x) s ()) fun o =>
  match o with
  | .inl () =>
    some true
  | .inr () =>
    some false
noncomputable def M_label_Fold_k2 (b : List UInt8) (t10 : Int) (x : UInt8) (t20 : Bool) : Option ((List UInt8 × Int) ⊕ (List UInt8)) :=
  if t20 = true then
    Option.bind (at? b t10) fun x_2 =>
    if ok64 (t10 + 1) then
      some (.inl (b.set t10.toNat (x ||| 32), t10 + 1))
    else none
  else
  if ok64 (t10 + 1) then
    some (.inl (b, t10 + 1))
  else none
noncomputable def M_label_Fold_b1 (s : List UInt8) (b : List UInt8) (t10 : Int) : Option ((List UInt8 × Int) ⊕ (List UInt8)) :=
  if t10 < (s.length : Int) then
    Option.bind (at? b t10) fun x =>
    if (65 : UInt8) ≤ x then
      M_label_Fold_k2 b t10 x (decide (x ≤ 90))
    else
      M_label_Fold_k2 b t10 x false
  else
    some (.inr b)
noncomputable def M_label_Fold (s : List UInt8) : Option (List UInt8) :=
  if s.length ≤ 140737488355328 then
    Option.bind (loopO (fun z_ => M_label_Fold_b1 s z_.1 z_.2) (s, 0)) fun o =>
    match o with
    | b_2 =>
      some b_2
  else none
noncomputable def M_label_Parts_r1 (out : List (List UInt8)) (x : List UInt8) : Option ((List (List UInt8)) ⊕ Empty) :=
  if (out.length + 1) * 16 ≤ 140737488355328 then
    some (.inl (out ++ [x]))
  else none
noncomputable def M_label_Parts (s : List UInt8) : Option (List (List UInt8)) :=
  Option.bind (M_label_parts s) fun () =>
  Option.bind (M_label_parts_1_p (fun (y_ : List (List UInt8)) x => M_label_Parts_r1 y_ x) s ([] : List (List UInt8))) fun o =>
  match o with
  | .inl out =>
    some out
noncomputable def M_service_Good_1 (p : List UInt8) : Option Bool :=
  if p = ([95, 116, 99, 112] : List UInt8) then
    some true
  else
    some (decide (p = ([95, 117, 100, 112] : List UInt8)))
noncomputable def M_service_Good (s : List UInt8) : Option Bool :=
  Option.bind (M_label_Good s) fun r1_2 =>
  if r1_2 = true then
    Option.bind (M_label_Fold s) fun r1_3 =>
    Option.bind (M_label_Parts r1_3) fun r3_2 =>
    if (3 : Int) ≤ (r3_2.length : Int) then
      Option.bind (at? r3_2 0) fun x =>
      if (1 : Int) < (x.length : Int) then
        Option.bind (at? x 0) fun c =>
        if c = 95 then
          Option.bind (at? r3_2 1) fun x_2 =>
          Option.bind (M_service_Good_1 x_2) fun r1_4 =>
          some r1_4
        else
          some false
      else
        some false
    else
      some false
  else
    some false
noncomputable def M_strings_Index (s : List UInt8) : Option Int :=
  Option.bind (M_stringslite_Index s) fun r1_2 =>
  some r1_2
noncomputable def M_strings_genSplit_b1 (s : List UInt8) (s_2 : List UInt8) (a : List (List UInt8)) (i : Int) : Option ((List UInt8 × List (List UInt8) × Int) ⊕ (List UInt8 × List (List UInt8) × Int)) :=
  if i < ((min 3 ((s.length : Int) + 1)) - 1) then
    Option.bind (M_strings_Index s_2) fun r1_2 =>
    if r1_2 < 0 then
      some (.inr (s_2, a, i))
    else
    if ok64 (r1_2 + 0) then
      if ((0 : Int) ≤ 0 ∧ (0 : Int) ≤ (r1_2 + 0)) ∧ (r1_2 + 0) ≤ (s_2.length : Int) then
        Option.bind (at? a i) fun x =>
        if ok64 (r1_2 + 1) then
          if ((0 : Int) ≤ (r1_2 + 1) ∧ (r1_2 + 1) ≤ (s_2.length : Int)) ∧ (s_2.length : Int) ≤ (s_2.length : Int) then
            if ok64 (i + 1) then
              some (.inl (s_2.drop ((r1_2 + 1).toNat), a.set i.toNat (s_2.take ((r1_2 + 0).toNat)), i + 1))
            else none
          else none
        else none
      else none
    else none
  else
    some (.inr (s_2, a, i))
noncomputable def M_strings_genSplit (s : List UInt8) : Option (List (List UInt8)) :=
  if ok64 ((s.length : Int) + 1) then
    if ((0 : Int) ≤ (min 3 ((s.length : Int) + 1)) ∧ (min 3 ((s.length : Int) + 1)) ≤ (min 3 ((s.length : Int) + 1))) ∧ (min 3 ((s.length : Int) + 1)) * 16 ≤ 140737488355328 then
      if ok64 ((min 3 ((s.length : Int) + 1)) - 1) then
        Option.bind (loopO (fun z_ => M_strings_genSplit_b1 s z_.1 z_.2.1 z_.2.2) (s, List.replicate ((min 3 ((s.length : Int) + 1)).toNat) ([] : List UInt8), 0)) fun o =>
        match o with
        | (s_3, a_2, i_2) =>
          Option.bind (at? a_2 i_2) fun x_2 =>
          if ok64 (i_2 + 1) then
            if (0 : Int) ≤ (i_2 + 1) ∧ (i_2 + 1) ≤ ((List.replicate ((min 3 ((s.length : Int) + 1)).toNat) ([] : List UInt8)).length : Int) then
              some ((a_2.set i_2.toNat s_3).take ((i_2 + 1).toNat))
            else none
          else none
      else none
    else none
  else none
noncomputable def M_strings_SplitN (s : List UInt8) : Option (List (List UInt8)) :=
  Option.bind (M_strings_genSplit s) fun r3_2 =>
  some r3_2
noncomputable def M_service_Split (s : List UInt8) : Option (List UInt8 × List UInt8 × List UInt8 × Int) :=
  Option.bind (M_service_Good s) fun r1_2 =>
  if r1_2 = true then
    Option.bind (M_strings_SplitN s) fun r3_2 =>
    Option.bind (at? r3_2 0) fun x =>
    if ((0 : Int) ≤ 1 ∧ (1 : Int) ≤ (x.length : Int)) ∧ (x.length : Int) ≤ (x.length : Int) then
      Option.bind (at? r3_2 1) fun x_2 =>
      if ((0 : Int) ≤ 1 ∧ (1 : Int) ≤ (x_2.length : Int)) ∧ (x_2.length : Int) ≤ (x_2.length : Int) then
        Option.bind (at? r3_2 2) fun x_3 =>
        some (x.drop 1, x_2.drop 1, x_3, 0)
      else none
    else none
  else
    some (([] : List UInt8), ([] : List UInt8), ([] : List UInt8), 40)
noncomputable def M_signpostlaw10_lives  : Option Bool :=
  Option.bind (M_service_Split ([95, 104, 116, 116, 112, 46, 95, 116, 99, 112, 46, 97, 46, 98] : List UInt8)) fun (r1_2, r2_2, r3_2, r4_2) =>
  if r1_2 = ([104, 116, 116, 112] : List UInt8) then
    if r2_2 = ([116, 99, 112] : List UInt8) then
      if r3_2 = ([97, 46, 98] : List UInt8) then
        if r4_2 = 0 then
          Option.bind (M_service_Good ([95, 104, 116, 116, 112, 46, 95, 105, 112, 46, 97] : List UInt8)) fun r1_3 =>
          if r1_3 = true then
            some false
          else
          Option.bind (M_service_Good ([95, 46, 95, 116, 99, 112, 46, 97] : List UInt8)) fun r1_4 =>
          some (!r1_4)
        else
          some false
      else
        some false
    else
      some false
  else
    some false
noncomputable def M_service_joined_v (l : List (List UInt8)) : Option Unit :=
  if l.length ≤ 140737488355328 then
    if (Lib.join l ([46] : List UInt8)).length ≤ 140737488355328 then
      some ()
    else none
  else none
noncomputable def M_service_Join (service : List UInt8) (proto : List UInt8) (domain : List UInt8) : Option (List UInt8 × Int) :=
  if 1 + service.length ≤ 9223372036854775807 then
    if 1 + proto.length ≤ 9223372036854775807 then
      Option.bind (M_service_joined_v [([95] : List UInt8) ++ service, ([95] : List UInt8) ++ proto, domain]) fun () =>
      Option.bind (M_service_Split (Lib.join [([95] : List UInt8) ++ service, ([95] : List UInt8) ++ proto, domain] ([46] : List UInt8))) fun (r1_2, r2_2, r3_2, r4_2) =>
      if r4_2 = 0 then
        if r1_2 = service then
          if r2_2 = proto then
            if r3_2 = domain then
              some (Lib.join [([95] : List UInt8) ++ service, ([95] : List UInt8) ++ proto, domain] ([46] : List UInt8), 0)
            else
              some (([] : List UInt8), 40)
          else
            some (([] : List UInt8), 40)
        else
          some (([] : List UInt8), 40)
      else
        some (([] : List UInt8), 40)
    else none
  else none
noncomputable def M_signpostref09_Fold_k2 (b : List UInt8) (i : Int) (t24 : Bool) : Option ((List UInt8 × Int) ⊕ (List UInt8)) :=
  if t24 = true then
    Option.bind (at? b i) fun x_2 =>
    if ok64 (i + 1) then
      some (.inl (b.set i.toNat ((x_2 + 97) - 65), i + 1))
    else none
  else
  if ok64 (i + 1) then
    some (.inl (b, i + 1))
  else none
noncomputable def M_signpostref09_Fold_b1 (s : List UInt8) (b : List UInt8) (i : Int) : Option ((List UInt8 × Int) ⊕ (List UInt8)) :=
  if i < (s.length : Int) then
    Option.bind (at? b i) fun x =>
    if (65 : UInt8) ≤ x then
      M_signpostref09_Fold_k2 b i (decide (x ≤ 90))
    else
      M_signpostref09_Fold_k2 b i false
  else
    some (.inr b)
noncomputable def M_signpostref09_Fold (s : List UInt8) : Option (List UInt8) :=
  if s.length ≤ 140737488355328 then
    Option.bind (loopO (fun z_ => M_signpostref09_Fold_b1 s z_.1 z_.2) (s, 0)) fun o =>
    match o with
    | b_2 =>
      some b_2
  else none
noncomputable def M_signpostref09_Parts_k2 (from_ : Int) (i : Int) (out : List (List UInt8)) (s : List UInt8) (t21 : Bool) : Option ((List (List UInt8) × Int × Int) ⊕ (List (List UInt8))) :=
  if t21 = true then
    if ((0 : Int) ≤ from_ ∧ from_ ≤ i) ∧ i ≤ (s.length : Int) then
      if (out.length + 1) * 16 ≤ 140737488355328 then
        if ok64 (i + 1) then
          if ok64 (i + 1) then
            some (.inl (out ++ [(s.take i.toNat).drop from_.toNat], i + 1, i + 1))
          else none
        else none
      else none
    else none
  else
  if ok64 (i + 1) then
    some (.inl (out, from_, i + 1))
  else none
noncomputable def M_signpostref09_Parts_b1 (s : List UInt8) (out : List (List UInt8)) (from_ : Int) (i : Int) : Option ((List (List UInt8) × Int × Int) ⊕ (List (List UInt8))) :=
  if i ≤ (s.length : Int) then
    if i = (s.length : Int) then
      M_signpostref09_Parts_k2 from_ i out s true
    else
    Option.bind (at? s i) fun c_3 =>
    M_signpostref09_Parts_k2 from_ i out s (decide (c_3 = 46))
  else
    some (.inr out)
noncomputable def M_signpostref09_Parts (s : List UInt8) : Option (List (List UInt8)) :=
  Option.bind (loopO (fun z_ => M_signpostref09_Parts_b1 s z_.1 z_.2.1 z_.2.2) (([] : List (List UInt8)), 0, 0)) fun o =>
  match o with
  | out_2 =>
    some out_2
noncomputable def M_signpostref09_letter (b : UInt8) : Option Bool :=
  if (97 : UInt8) ≤ b then
    if b ≤ 122 then
      some true
    else
    if (65 : UInt8) ≤ b then
      some (decide (b ≤ 90))
    else
      some false
  else
  if (65 : UInt8) ≤ b then
    some (decide (b ≤ 90))
  else
    some false
noncomputable def M_signpostref09_Part_k2 (i : Int) : Option (Int ⊕ (Unit ⊕ (Bool))) :=
  if ok64 (i + 1) then
    some (.inl (i + 1))
  else none
noncomputable def M_signpostref09_Part_k3 (i : Int) (t39 : Bool) : Option (Int ⊕ (Unit ⊕ (Bool))) :=
  if t39 = true then
    some (.inr (.inr false))
  else
    M_signpostref09_Part_k2 i
noncomputable def M_signpostref09_Part_b1 (s : List UInt8) (i : Int) : Option (Int ⊕ (Unit ⊕ (Bool))) :=
  if i < (s.length : Int) then
    Option.bind (at? s i) fun c =>
    Option.bind (M_signpostref09_letter c) fun r1_2 =>
    if r1_2 = true then
      M_signpostref09_Part_k3 i false
    else
    Option.bind (at? s i) fun c_2 =>
    if (48 : UInt8) ≤ c_2 then
      Option.bind (at? s i) fun c_3 =>
      if c_3 ≤ 57 then
        M_signpostref09_Part_k3 i false
      else
      Option.bind (at? s i) fun c_4 =>
      if c_4 = 45 then
        M_signpostref09_Part_k3 i false
      else
      Option.bind (at? s i) fun c_5 =>
      M_signpostref09_Part_k3 i (!(decide (c_5 = 95)))
    else
    Option.bind (at? s i) fun c_6 =>
    if c_6 = 45 then
      M_signpostref09_Part_k3 i false
    else
    Option.bind (at? s i) fun c_7 =>
    M_signpostref09_Part_k3 i (!(decide (c_7 = 95)))
  else
    some (.inr (.inl ()))
noncomputable def M_signpostref09_Part (s : List UInt8) : Option Bool :=
  Option.bind (loopO (fun z_ => M_signpostref09_Part_b1 s z_) 0) fun o =>
  match o with
  | .inl () =>
    if (1 : Int) ≤ (s.length : Int) then
      if (s.length : Int) ≤ 63 then
        Option.bind (at? s 0) fun c_8 =>
        if c_8 = 45 then
          some false
        else
        if ok64 ((s.length : Int) - 1) then
          Option.bind (at? s ((s.length : Int) - 1)) fun c_9 =>
          some (!(decide (c_9 = 45)))
        else none
      else
        some false
    else
      some false
  | .inr r =>
    some r
noncomputable def M_signpostref09_Good_b1 (r3_2 : List (List UInt8)) (i : Int) : Option (Int ⊕ (Unit ⊕ (Bool))) :=
  if i < (r3_2.length : Int) then
    Option.bind (at? r3_2 i) fun x =>
    Option.bind (M_signpostref09_Part x) fun r1_2 =>
    if r1_2 = true then
      if ok64 (i + 1) then
        some (.inl (i + 1))
      else none
    else
      some (.inr (.inr false))
  else
    some (.inr (.inl ()))
noncomputable def M_signpostref09_Good (s : List UInt8) : Option Bool :=
  Option.bind (M_signpostref09_Parts s) fun r3_2 =>
  Option.bind (loopO (fun z_ => M_signpostref09_Good_b1 r3_2 z_) 0) fun o =>
  match o with
  | .inl () =>
    if ok64 ((s.length : Int) + 2) then
      some (decide (((s.length : Int) + 2) ≤ 255))
    else none
  | .inr r =>
    some r
noncomputable def M_signpostref10_Good (s : List UInt8) : Option Bool :=
  Option.bind (M_signpostref09_Fold s) fun r1_2 =>
  Option.bind (M_signpostref09_Parts r1_2) fun r3_2 =>
  Option.bind (M_signpostref09_Good s) fun r1_3 =>
  if r1_3 = true then
    if (3 : Int) ≤ (r3_2.length : Int) then
      Option.bind (at? r3_2 0) fun x =>
      if (2 : Int) ≤ (x.length : Int) then
        Option.bind (at? x 0) fun c =>
        if c = 95 then
          Option.bind (at? r3_2 1) fun x_2 =>
          if x_2 = ([95, 116, 99, 112] : List UInt8) then
            some true
          else
            some (decide (x_2 = ([95, 117, 100, 112] : List UInt8)))
        else
          some false
      else
        some false
    else
      some false
  else
    some false
noncomputable def M_signpostref10_Split (s : List UInt8) : Option (List UInt8 × List UInt8 × List UInt8 × Int) :=
  Option.bind (M_signpostref10_Good s) fun r1_2 =>
  if r1_2 = true then
    Option.bind (M_signpostref09_Parts s) fun r3_2 =>
    Option.bind (at? r3_2 0) fun x =>
    if ((0 : Int) ≤ 1 ∧ (1 : Int) ≤ (x.length : Int)) ∧ (x.length : Int) ≤ (x.length : Int) then
      Option.bind (at? r3_2 1) fun x_2 =>
      if ((0 : Int) ≤ 1 ∧ (1 : Int) ≤ (x_2.length : Int)) ∧ (x_2.length : Int) ≤ (x_2.length : Int) then
        if ok64 ((x.length : Int) + (x_2.length : Int)) then
          if ok64 (((x.length : Int) + (x_2.length : Int)) + 2) then
            if ((0 : Int) ≤ (((x.length : Int) + (x_2.length : Int)) + 2) ∧ (((x.length : Int) + (x_2.length : Int)) + 2) ≤ (s.length : Int)) ∧ (s.length : Int) ≤ (s.length : Int) then
              some (x.drop 1, x_2.drop 1, s.drop ((((x.length : Int) + (x_2.length : Int)) + 2).toNat), 0)
            else none
          else none
        else none
      else none
    else none
  else
    some (([] : List UInt8), ([] : List UInt8), ([] : List UInt8), 40)
noncomputable def M_signpostref10_Join (service : List UInt8) (proto : List UInt8) (domain : List UInt8) : Option (List UInt8 × Int) :=
  if 1 + service.length ≤ 9223372036854775807 then
    if (([95] : List UInt8) ++ service).length + 2 ≤ 9223372036854775807 then
      if ((([95] : List UInt8) ++ service) ++ ([46, 95] : List UInt8)).length + proto.length ≤ 9223372036854775807 then
        if (((([95] : List UInt8) ++ service) ++ ([46, 95] : List UInt8)) ++ proto).length + 1 ≤ 9223372036854775807 then
          if ((((([95] : List UInt8) ++ service) ++ ([46, 95] : List UInt8)) ++ proto) ++ ([46] : List UInt8)).length + domain.length ≤ 9223372036854775807 then
            Option.bind (M_signpostref10_Split (((((([95] : List UInt8) ++ service) ++ ([46, 95] : List UInt8)) ++ proto) ++ ([46] : List UInt8)) ++ domain)) fun (r1_2, r2_2, r3_2, r4_2) =>
            if r4_2 = 0 then
              if r1_2 = service then
                if r2_2 = proto then
                  if r3_2 = domain then
                    some (((((([95] : List UInt8) ++ service) ++ ([46, 95] : List UInt8)) ++ proto) ++ ([46] : List UInt8)) ++ domain, 0)
                  else
                    some (([] : List UInt8), 40)
                else
                  some (([] : List UInt8), 40)
              else
                some (([] : List UInt8), 40)
            else
              some (([] : List UInt8), 40)
          else none
        else none
      else none
    else none
  else none
noncomputable def M_signpostlaw10_ServiceJoins_k2 (s : List UInt8) : Option (Bool) :=
  Option.bind (M_service_Split s) fun (r1_6, r2_5, r3_3, r4_3) =>
  if r4_3 = 0 then
    Option.bind (M_service_Join r1_6 r2_5 r3_3) fun (r1_7, r2_6) =>
    if r1_7 = s then
      if r2_6 = 0 then
        Option.bind (M_signpostlaw10_lives) fun r1_8 =>
        some r1_8
      else
        some false
    else
      some false
  else
  Option.bind (M_signpostlaw10_lives) fun r1_9 =>
  some r1_9
noncomputable def M_signpostlaw10_ServiceJoins_k1 (a : List UInt8) (b : List UInt8) (c : List UInt8) (r1_3 : List UInt8) (r2_2 : Int) (s : List UInt8) (t57 : Bool) : Option (Bool) :=
  if t57 = true then
    some false
  else
  Option.bind (M_service_Split r1_3) fun (r1_5, r2_4, r3_2, r4_2) =>
  if r2_2 = 0 then
    if r1_5 = a then
      if r2_4 = b then
        if r3_2 = c then
          if r4_2 = 0 then
            M_signpostlaw10_ServiceJoins_k2 s
          else
            some false
        else
          some false
      else
        some false
    else
      some false
  else
    M_signpostlaw10_ServiceJoins_k2 s
noncomputable def M_signpostlaw10_ServiceJoins (a : List UInt8) (b : List UInt8) (c : List UInt8) (s : List UInt8) : Option Bool :=
  if ok64 ((a.length : Int) + (b.length : Int)) then
    if ok64 (((a.length : Int) + (b.length : Int)) + (c.length : Int)) then
      if ok64 ((((a.length : Int) + (b.length : Int)) + (c.length : Int)) + (s.length : Int)) then
        if (1500 : Int) < ((((a.length : Int) + (b.length : Int)) + (c.length : Int)) + (s.length : Int)) then
          Option.bind (M_signpostlaw10_lives) fun r1_2 =>
          some r1_2
        else
        Option.bind (M_service_Join a b c) fun (r1_3, r2_2) =>
        Option.bind (M_signpostref10_Join a b c) fun (r1_4, r2_3) =>
        if r1_3 = r1_4 then
          M_signpostlaw10_ServiceJoins_k1 a b c r1_3 r2_2 s (!(decide (r2_2 = r2_3)))
        else
          M_signpostlaw10_ServiceJoins_k1 a b c r1_3 r2_2 s true
      else none
    else none
  else none
end Go.Proofs.YtlkilokdbkjbmaaDoor
