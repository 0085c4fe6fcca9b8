/-
  What the functions that the statement ServiceTells reaches compute, each as a Lean function. No condition.
-/
import Derived.Test.YtpheilpcklfknaaDoorBRange
import Derived.Test.YtpheilpcklfknaaDoorBIns
namespace Go.Proofs.YtpheilpcklfknaaDoor
open Go Go.RowKit
set_option linter.unusedVariables false
set_option linter.unusedSimpArgs false
set_option linter.unnecessarySimpa false
structure G_anon_7 where
  x : Int
  y_ : Int
  signed : Bool
  code : UInt8
  deriving DecidableEq
def el_G_anon_7 : El G_anon_7 := ⟨fun x => [(vI x.x), (vI x.y_), (.bool x.signed), (v8 x.code)], 4, fun x => by simp [bytesV_length], fun x => (List.forall_mem_cons.2 ⟨rfl, (List.forall_mem_cons.2 ⟨rfl, (List.forall_mem_cons.2 ⟨rfl, (List.forall_mem_cons.2 ⟨rfl, (fun _ hh => by cases hh)⟩)⟩)⟩)⟩)⟩
structure G_runtime_boundsError where
  x : Int
  y_ : Int
  signed : Bool
  code : UInt8
  deriving DecidableEq
def el_G_runtime_boundsError : El G_runtime_boundsError := ⟨fun x => [(vI x.x), (vI x.y_), (.bool x.signed), (v8 x.code)], 4, fun x => by simp [bytesV_length], fun x => (List.forall_mem_cons.2 ⟨rfl, (List.forall_mem_cons.2 ⟨rfl, (List.forall_mem_cons.2 ⟨rfl, (List.forall_mem_cons.2 ⟨rfl, (fun _ hh => by cases hh)⟩)⟩)⟩)⟩)⟩
structure G_anon_13 where
  msg : List UInt8
  addr : UInt64
  deriving DecidableEq
def el_G_anon_13 : El G_anon_13 := ⟨fun x => [(.string (str x.msg)), (v64 x.addr)], 2, fun x => by simp [bytesV_length], fun x => (List.forall_mem_cons.2 ⟨rfl, (List.forall_mem_cons.2 ⟨rfl, (fun _ hh => by cases hh)⟩)⟩)⟩
structure G_runtime_errorAddressString where
  msg : List UInt8
  addr : UInt64
  deriving DecidableEq
def el_G_runtime_errorAddressString : El G_runtime_errorAddressString := ⟨fun x => [(.string (str x.msg)), (v64 x.addr)], 2, fun x => by simp [bytesV_length], fun x => (List.forall_mem_cons.2 ⟨rfl, (List.forall_mem_cons.2 ⟨rfl, (fun _ hh => by cases hh)⟩)⟩)⟩
def G_anon_7_wf (x : G_anon_7) : Prop := ok64 x.x ∧ ok64 x.y_
def G_runtime_boundsError_wf (x : G_runtime_boundsError) : Prop := ok64 x.x ∧ ok64 x.y_
def G_anon_13_wf (x : G_anon_13) : Prop := x.msg.length ≤ 140737488351232
def G_runtime_errorAddressString_wf (x : G_runtime_errorAddressString) : Prop := x.msg.length ≤ 140737488351232
noncomputable def M_label_parts (s : List UInt8) : Option Unit :=
  some ()
noncomputable def M_stringslite_IndexByte (s : List UInt8) (c : UInt8) : Option Unit :=
  some ()
noncomputable def M_stringslite_Index (s : List UInt8) : Option Int :=
  if ([46] : List UInt8) = s then
    some 0
  else
  Option.bind (at? ([46] : List UInt8) 0) fun c =>
  Option.bind (M_stringslite_IndexByte s c) fun () =>
  some (Lib.indexByte s c)
noncomputable def M_stringslite_Cut (s : List UInt8) : Option (List UInt8 × List UInt8 × Bool) :=
  Option.bind (M_stringslite_Index s) fun r1_2 =>
  if (0 : Int) ≤ r1_2 then
    if ((0 : Int) ≤ 0 ∧ (0 : Int) ≤ r1_2) ∧ r1_2 ≤ (s.length : Int) then
      if ok64 (r1_2 + 1) then
        if ((0 : Int) ≤ (r1_2 + 1) ∧ (r1_2 + 1) ≤ (s.length : Int)) ∧ (s.length : Int) ≤ (s.length : Int) then
          some (s.take r1_2.toNat, s.drop ((r1_2 + 1).toNat), true)
        else none
      else none
    else none
  else
    some (s, ([] : List UInt8), false)
noncomputable def M_strings_Cut (s : List UInt8) : Option (List UInt8 × List UInt8 × Bool) :=
  Option.bind (M_stringslite_Cut s) fun (r1_2, r2_2, r3_2) =>
  some (r1_2, r2_2, r3_2)
noncomputable def M_label_parts_1_p_b1 {σ_ ρ_ : Type} (f_ : σ_ → (List UInt8) → Option (σ_ ⊕ ρ_)) (z : σ_) (t1 : List UInt8) : Option ((σ_ × List UInt8) ⊕ (σ_ ⊕ ρ_)) :=
  Option.bind (M_strings_Cut t1) fun (r1, r2, r3) =>
  Option.bind (f_ z r1) fun y__2 =>
  match y__2 with
  | .inl z_2 =>
    if r3 = true then
      some (.inl (z_2, r2))
    else
      some (.inr (.inl z_2))
  | .inr x_2 =>
    some (.inr (.inr x_2))
noncomputable def M_label_parts_1_p {σ_ ρ_ : Type} (f_ : σ_ → (List UInt8) → Option (σ_ ⊕ ρ_)) (x : List UInt8) (z_ : σ_) : Option (σ_ ⊕ ρ_) :=
  Option.bind (loopO (fun z_ => M_label_parts_1_p_b1 f_ z_.1 z_.2) (z_, x)) fun o =>
  match o with
  | r =>
    some r
noncomputable def M_label_plain_k2 (c : UInt8) : Option (Bool) :=
  if (48 : UInt8) ≤ c then
    if c ≤ 57 then
      some true
    else
    if c = 45 then
      some true
    else
      some (decide (c = 95))
  else
  if c = 45 then
    some true
  else
    some (decide (c = 95))
noncomputable def M_label_plain_k1 (c : UInt8) : Option (Bool) :=
  if (65 : UInt8) ≤ c then
    if c ≤ 90 then
      some true
    else
      M_label_plain_k2 c
  else
    M_label_plain_k2 c
noncomputable def M_label_plain (c : UInt8) : Option Bool :=
  if (97 : UInt8) ≤ c then
    if c ≤ 122 then
      some true
    else
      M_label_plain_k1 c
  else
    M_label_plain_k1 c
noncomputable def M_label_Part_b2 (s : List UInt8) (t29 : Int) : Option (Int ⊕ (Unit ⊕ (Bool))) :=
  if t29 < (s.length : Int) then
    Option.bind (at? s t29) fun x =>
    Option.bind (M_label_plain x) fun r1_2 =>
    if r1_2 = true then
      if ok64 (t29 + 1) then
        some (.inl (t29 + 1))
      else none
    else
      some (.inr (.inr false))
  else
    some (.inr (.inl ()))
noncomputable def M_label_Part_k1 (s : List UInt8) (t25 : Bool) : Option (Bool) :=
  if t25 = true then
    some false
  else
  if s.length ≤ 140737488355328 then
    Option.bind (loopO (fun z_ => M_label_Part_b2 s z_) 0) fun o =>
    match o with
    | .inl () =>
      some true
    | .inr r =>
      some r
  else none
noncomputable def M_label_Part (s : List UInt8) : Option Bool :=
  if (s.length : Int) < 1 then
    M_label_Part_k1 s true
  else
  if (63 : Int) < (s.length : Int) then
    M_label_Part_k1 s true
  else
  Option.bind (at? s 0) fun c =>
  if c = 45 then
    M_label_Part_k1 s true
  else
  if ok64 ((s.length : Int) - 1) then
    Option.bind (at? s ((s.length : Int) - 1)) fun c_2 =>
    M_label_Part_k1 s (decide (c_2 = 45))
  else none
noncomputable def M_label_Good_r1 (x : List UInt8) : Option (Unit ⊕ Unit) :=
  Option.bind (M_label_Part x) fun r1_2 =>
  if r1_2 = true then
    some (.inl ())
  else
    some (.inr ())
noncomputable def M_label_Good (s : List UInt8) : Option Bool :=
  if (253 : Int) < (s.length : Int) then
    some false
  else
  Option.bind (M_label_parts s) fun () =>
  Option.bind (M_label_parts_1_p (fun (_ : Unit) x => M_label_Good_r1 x) s ()) fun o =>
  match o with
  | .inl () =>
    some true
  | .inr () =>
    some false
noncomputable def M_label_Fold_k2 (b : List UInt8) (t10 : Int) (x : UInt8) (t20 : Bool) : Option ((List UInt8 × Int) ⊕ (List UInt8)) :=
  if t20 = true then
    Option.bind (at? b t10) fun x_2 =>
    if ok64 (t10 + 1) then
      some (.inl (b.set t10.toNat (x ||| 32), t10 + 1))
    else none
  else
  if ok64 (t10 + 1) then
    some (.inl (b, t10 + 1))
  else none
noncomputable def M_label_Fold_b1 (s : List UInt8) (b : List UInt8) (t10 : Int) : Option ((List UInt8 × Int) ⊕ (List UInt8)) :=
  if t10 < (s.length : Int) then
    Option.bind (at? b t10) fun x =>
    if (65 : UInt8) ≤ x then
      M_label_Fold_k2 b t10 x (decide (x ≤ 90))
    else
      M_label_Fold_k2 b t10 x false
  else
    some (.inr b)
noncomputable def M_label_Fold (s : List UInt8) : Option (List UInt8) :=
  if s.length ≤ 140737488355328 then
    Option.bind (loopO (fun z_ => M_label_Fold_b1 s z_.1 z_.2) (s, 0)) fun o =>
    match o with
    | b_2 =>
      some b_2
  else none
noncomputable def M_label_Parts_r1 (out : List (List UInt8)) (x : List UInt8) : Option ((List (List UInt8)) ⊕ Empty) :=
  if (out.length + 1) * 16 ≤ 140737488355328 then
    some (.inl (out ++ [x]))
  else none
noncomputable def M_label_Parts (s : List UInt8) : Option (List (List UInt8)) :=
  Option.bind (M_label_parts s) fun () =>
  Option.bind (M_label_parts_1_p (fun (y_ : List (List UInt8)) x => M_label_Parts_r1 y_ x) s ([] : List (List UInt8))) fun o =>
  match o with
  | .inl out =>
    some out
noncomputable def M_service_Good_1 (p : List UInt8) : Option Bool :=
  if p = ([95, 116, 99, 112] : List UInt8) then
    some true
  else
    some (decide (p = ([95, 117, 100, 112] : List UInt8)))
noncomputable def M_service_Good (s : List UInt8) : Option Bool :=
  Option.bind (M_label_Good s) fun r1_2 =>
  if r1_2 = true then
    Option.bind (M_label_Fold s) fun r1_3 =>
    Option.bind (M_label_Parts r1_3) fun r3_2 =>
    if (3 : Int) ≤ (r3_2.length : Int) then
      Option.bind (at? r3_2 0) fun x =>
      if (1 : Int) < (x.length : Int) then
        Option.bind (at? x 0) fun c =>
        if c = 95 then
          Option.bind (at? r3_2 1) fun x_2 =>
          Option.bind (M_service_Good_1 x_2) fun r1_4 =>
          some r1_4
        else
          some false
      else
        some false
    else
      some false
  else
    some false
noncomputable def M_strings_Index (s : List UInt8) : Option Int :=
  Option.bind (M_stringslite_Index s) fun r1_2 =>
  some r1_2
noncomputable def M_strings_genSplit_b1 (s : List UInt8) (s_2 : List UInt8) (a : List (List UInt8)) (i : Int) : Option ((List UInt8 × List (List UInt8) × Int) ⊕ (List UInt8 × List (List UInt8) × Int)) :=
  if i < ((min 3 ((s.length : Int) + 1)) - 1) then
    Option.bind (M_strings_Index s_2) fun r1_2 =>
    if r1_2 < 0 then
      some (.inr (s_2, a, i))
    else
    if ok64 (r1_2 + 0) then
      if ((0 : Int) ≤ 0 ∧ (0 : Int) ≤ (r1_2 + 0)) ∧ (r1_2 + 0) ≤ (s_2.length : Int) then
        Option.bind (at? a i) fun x =>
        if ok64 (r1_2 + 1) then
          if ((0 : Int) ≤ (r1_2 + 1) ∧ (r1_2 + 1) ≤ (s_2.length : Int)) ∧ (s_2.length : Int) ≤ (s_2.length : Int) then
            if ok64 (i + 1) then
              some (.inl (s_2.drop ((r1_2 + 1).toNat), a.set i.toNat (s_2.take ((r1_2 + 0).toNat)), i + 1))
            else none
          else none
        else none
      else none
    else none
  else
    some (.inr (s_2, a, i))
noncomputable def M_strings_genSplit (s : List UInt8) : Option (List (List UInt8)) :=
  if ok64 ((s.length : Int) + 1) then
    if ((0 : Int) ≤ (min 3 ((s.length : Int) + 1)) ∧ (min 3 ((s.length : Int) + 1)) ≤ (min 3 ((s.length : Int) + 1))) ∧ (min 3 ((s.length : Int) + 1)) * 16 ≤ 140737488355328 then
      if ok64 ((min 3 ((s.length : Int) + 1)) - 1) then
        Option.bind (loopO (fun z_ => M_strings_genSplit_b1 s z_.1 z_.2.1 z_.2.2) (s, List.replicate ((min 3 ((s.length : Int) + 1)).toNat) ([] : List UInt8), 0)) fun o =>
        match o with
        | (s_3, a_2, i_2) =>
          Option.bind (at? a_2 i_2) fun x_2 =>
          if ok64 (i_2 + 1) then
            if (0 : Int) ≤ (i_2 + 1) ∧ (i_2 + 1) ≤ ((List.replicate ((min 3 ((s.length : Int) + 1)).toNat) ([] : List UInt8)).length : Int) then
              some ((a_2.set i_2.toNat s_3).take ((i_2 + 1).toNat))
            else none
          else none
      else none
    else none
  else none
noncomputable def M_strings_SplitN (s : List UInt8) : Option (List (List UInt8)) :=
  Option.bind (M_strings_genSplit s) fun r3_2 =>
  some r3_2
noncomputable def M_service_Split (s : List UInt8) : Option (List UInt8 × List UInt8 × List UInt8 × Int) :=
  Option.bind (M_service_Good s) fun r1_2 =>
  if r1_2 = true then
    Option.bind (M_strings_SplitN s) fun r3_2 =>
    Option.bind (at? r3_2 0) fun x =>
    if ((0 : Int) ≤ 1 ∧ (1 : Int) ≤ (x.length : Int)) ∧ (x.length : Int) ≤ (x.length : Int) then
      Option.bind (at? r3_2 1) fun x_2 =>
      if ((0 : Int) ≤ 1 ∧ (1 : Int) ≤ (x_2.length : Int)) ∧ (x_2.length : Int) ≤ (x_2.length : Int) then
        Option.bind (at? r3_2 2) fun x_3 =>
        some (x.drop 1, x_2.drop 1, x_3, 0)
      else none
    else none
  else
    some (([] : List UInt8), ([] : List UInt8), ([] : List UInt8), 40)
noncomputable def M_signpostlaw10_lives  : Option Bool :=
  Option.bind (M_service_Split ([95, 104, 116, 116, 112, 46, 95, 116, 99, 112, 46, 97, 46, 98] : List UInt8)) fun (r1_2, r2_2, r3_2, r4_2) =>
  if r1_2 = ([104, 116, 116, 112] : List UInt8) then
    if r2_2 = ([116, 99, 112] : List UInt8) then
      if r3_2 = ([97, 46, 98] : List UInt8) then
        if r4_2 = 0 then
          Option.bind (M_service_Good ([95, 104, 116, 116, 112, 46, 95, 105, 112, 46, 97] : List UInt8)) fun r1_3 =>
          if r1_3 = true then
            some false
          else
          Option.bind (M_service_Good ([95, 46, 95, 116, 99, 112, 46, 97] : List UInt8)) fun r1_4 =>
          some (!r1_4)
        else
          some false
      else
        some false
    else
      some false
  else
    some false
noncomputable def M_signpostref09_Fold_k2 (b : List UInt8) (i : Int) (t24 : Bool) : Option ((List UInt8 × Int) ⊕ (List UInt8)) :=
  if t24 = true then
    Option.bind (at? b i) fun x_2 =>
    if ok64 (i + 1) then
      some (.inl (b.set i.toNat ((x_2 + 97) - 65), i + 1))
    else none
  else
  if ok64 (i + 1) then
    some (.inl (b, i + 1))
  else none
noncomputable def M_signpostref09_Fold_b1 (s : List UInt8) (b : List UInt8) (i : Int) : Option ((List UInt8 × Int) ⊕ (List UInt8)) :=
  if i < (s.length : Int) then
    Option.bind (at? b i) fun x =>
    if (65 : UInt8) ≤ x then
      M_signpostref09_Fold_k2 b i (decide (x ≤ 90))
    else
      M_signpostref09_Fold_k2 b i false
  else
    some (.inr b)
noncomputable def M_signpostref09_Fold (s : List UInt8) : Option (List UInt8) :=
  if s.length ≤ 140737488355328 then
    Option.bind (loopO (fun z_ => M_signpostref09_Fold_b1 s z_.1 z_.2) (s, 0)) fun o =>
    match o with
    | b_2 =>
      some b_2
  else none
noncomputable def M_signpostref09_Parts_k2 (from_ : Int) (i : Int) (out : List (List UInt8)) (s : List UInt8) (t21 : Bool) : Option ((List (List UInt8) × Int × Int) ⊕ (List (List UInt8))) :=
  if t21 = true then
    if ((0 : Int) ≤ from_ ∧ from_ ≤ i) ∧ i ≤ (s.length : Int) then
      if (out.length + 1) * 16 ≤ 140737488355328 then
        if ok64 (i + 1) then
          if ok64 (i + 1) then
            some (.inl (out ++ [(s.take i.toNat).drop from_.toNat], i + 1, i + 1))
          else none
        else none
      else none
    else none
  else
  if ok64 (i + 1) then
    some (.inl (out, from_, i + 1))
  else none
noncomputable def M_signpostref09_Parts_b1 (s : List UInt8) (out : List (List UInt8)) (from_ : Int) (i : Int) : Option ((List (List UInt8) × Int × Int) ⊕ (List (List UInt8))) :=
  if i ≤ (s.length : Int) then
    if i = (s.length : Int) then
      M_signpostref09_Parts_k2 from_ i out s true
    else
    Option.bind (at? s i) fun c_3 =>
    M_signpostref09_Parts_k2 from_ i out s (decide (c_3 = 46))
  else
    some (.inr out)
noncomputable def M_signpostref09_Parts (s : List UInt8) : Option (List (List UInt8)) :=
  Option.bind (loopO (fun z_ => M_signpostref09_Parts_b1 s z_.1 z_.2.1 z_.2.2) (([] : List (List UInt8)), 0, 0)) fun o =>
  match o with
  | out_2 =>
    some out_2
noncomputable def M_signpostref09_letter (b : UInt8) : Option Bool :=
  if (97 : UInt8) ≤ b then
    if b ≤ 122 then
      some true
    else
    if (65 : UInt8) ≤ b then
      some (decide (b ≤ 90))
    else
      some false
  else
  if (65 : UInt8) ≤ b then
    some (decide (b ≤ 90))
  else
    some false
noncomputable def M_signpostref09_Part_k2 (i : Int) : Option (Int ⊕ (Unit ⊕ (Bool))) :=
  if ok64 (i + 1) then
    some (.inl (i + 1))
  else none
noncomputable def M_signpostref09_Part_k3 (i : Int) (t39 : Bool) : Option (Int ⊕ (Unit ⊕ (Bool))) :=
  if t39 = true then
    some (.inr (.inr false))
  else
    M_signpostref09_Part_k2 i
noncomputable def M_signpostref09_Part_b1 (s : List UInt8) (i : Int) : Option (Int ⊕ (Unit ⊕ (Bool))) :=
  if i < (s.length : Int) then
    Option.bind (at? s i) fun c =>
    Option.bind (M_signpostref09_letter c) fun r1_2 =>
    if r1_2 = true then
      M_signpostref09_Part_k3 i false
    else
    Option.bind (at? s i) fun c_2 =>
    if (48 : UInt8) ≤ c_2 then
      Option.bind (at? s i) fun c_3 =>
      if c_3 ≤ 57 then
        M_signpostref09_Part_k3 i false
      else
      Option.bind (at? s i) fun c_4 =>
      if c_4 = 45 then
        M_signpostref09_Part_k3 i false
      else
      Option.bind (at? s i) fun c_5 =>
      M_signpostref09_Part_k3 i (!(decide (c_5 = 95)))
    else
    Option.bind (at? s i) fun c_6 =>
    if c_6 = 45 then
      M_signpostref09_Part_k3 i false
    else
    Option.bind (at? s i) fun c_7 =>
    M_signpostref09_Part_k3 i (!(decide (c_7 = 95)))
  else
    some (.inr (.inl ()))
noncomputable def M_signpostref09_Part (s : List UInt8) : Option Bool :=
  Option.bind (loopO (fun z_ => M_signpostref09_Part_b1 s z_) 0) fun o =>
  match o with
  | .inl () =>
    if (1 : Int) ≤ (s.length : Int) then
      if (s.length : Int) ≤ 63 then
        Option.bind (at? s 0) fun c_8 =>
        if c_8 = 45 then
          some false
        else
        if ok64 ((s.length : Int) - 1) then
          Option.bind (at? s ((s.length : Int) - 1)) fun c_9 =>
          some (!(decide (c_9 = 45)))
        else none
      else
        some false
    else
      some false
  | .inr r =>
    some r
noncomputable def M_signpostref09_Good_b1 (r3_2 : List (List UInt8)) (i : Int) : Option (Int ⊕ (Unit ⊕ (Bool))) :=
  if i < (r3_2.length : Int) then
    Option.bind (at? r3_2 i) fun x =>
    Option.bind (M_signpostref09_Part x) fun r1_2 =>
    if r1_2 = true then
      if ok64 (i + 1) then
        some (.inl (i + 1))
      else none
    else
      some (.inr (.inr false))
  else
    some (.inr (.inl ()))
noncomputable def M_signpostref09_Good (s : List UInt8) : Option Bool :=
  Option.bind (M_signpostref09_Parts s) fun r3_2 =>
  Option.bind (loopO (fun z_ => M_signpostref09_Good_b1 r3_2 z_) 0) fun o =>
  match o with
  | .inl () =>
    if ok64 ((s.length : Int) + 2) then
      some (decide (((s.length : Int) + 2) ≤ 255))
    else none
  | .inr r =>
    some r
noncomputable def M_signpostref10_Good (s : List UInt8) : Option Bool :=
  Option.bind (M_signpostref09_Fold s) fun r1_2 =>
  Option.bind (M_signpostref09_Parts r1_2) fun r3_2 =>
  Option.bind (M_signpostref09_Good s) fun r1_3 =>
  if r1_3 = true then
    if (3 : Int) ≤ (r3_2.length : Int) then
      Option.bind (at? r3_2 0) fun x =>
      if (2 : Int) ≤ (x.length : Int) then
        Option.bind (at? x 0) fun c =>
        if c = 95 then
          Option.bind (at? r3_2 1) fun x_2 =>
          if x_2 = ([95, 116, 99, 112] : List UInt8) then
            some true
          else
            some (decide (x_2 = ([95, 117, 100, 112] : List UInt8)))
        else
          some false
      else
        some false
    else
      some false
  else
    some false
noncomputable def M_signpostref10_Split (s : List UInt8) : Option (List UInt8 × List UInt8 × List UInt8 × Int) :=
  Option.bind (M_signpostref10_Good s) fun r1_2 =>
  if r1_2 = true then
    Option.bind (M_signpostref09_Parts s) fun r3_2 =>
    Option.bind (at? r3_2 0) fun x =>
    if ((0 : Int) ≤ 1 ∧ (1 : Int) ≤ (x.length : Int)) ∧ (x.length : Int) ≤ (x.length : Int) then
      Option.bind (at? r3_2 1) fun x_2 =>
      if ((0 : Int) ≤ 1 ∧ (1 : Int) ≤ (x_2.length : Int)) ∧ (x_2.length : Int) ≤ (x_2.length : Int) then
        if ok64 ((x.length : Int) + (x_2.length : Int)) then
          if ok64 (((x.length : Int) + (x_2.length : Int)) + 2) then
            if ((0 : Int) ≤ (((x.length : Int) + (x_2.length : Int)) + 2) ∧ (((x.length : Int) + (x_2.length : Int)) + 2) ≤ (s.length : Int)) ∧ (s.length : Int) ≤ (s.length : Int) then
              some (x.drop 1, x_2.drop 1, s.drop ((((x.length : Int) + (x_2.length : Int)) + 2).toNat), 0)
            else none
          else none
        else none
      else none
    else none
  else
    some (([] : List UInt8), ([] : List UInt8), ([] : List UInt8), 40)
noncomputable def M_service_Canon (s : List UInt8) : Option (List UInt8 × Int) :=
  Option.bind (M_service_Good s) fun r1_2 =>
  if r1_2 = true then
    Option.bind (M_label_Fold s) fun r1_3 =>
    some (r1_3, 0)
  else
    some (([] : List UInt8), 40)
noncomputable def M_signpostref10_Canon (s : List UInt8) : Option (List UInt8 × Int) :=
  Option.bind (M_signpostref10_Good s) fun r1_2 =>
  if r1_2 = true then
    Option.bind (M_signpostref09_Fold s) fun r1_3 =>
    some (r1_3, 0)
  else
    some (([] : List UInt8), 40)
noncomputable def M_sha_begin  : Option Unit :=
  some ()
noncomputable def M_sha_New  : Option Unit :=
  Option.bind (M_sha_begin) fun () =>
  some ()
noncomputable def M_sha_Hash_none_pn (made : Bool) (h_ : UInt32) (h_2 : UInt32) (h_3 : UInt32) (h_4 : UInt32) (h_5 : UInt32) (n : UInt64) : Option Unit :=
  some ()
noncomputable def M_octet_may (width : Int) : Option Bool :=
  if (1 : Int) ≤ width then
    some (decide (width ≤ 8))
  else
    some false
noncomputable def M_octet_Get_v_b2 (at_ : Int) (b : List UInt8) (width : Int) (n : UInt64) (t39 : Int) : Option ((UInt64 × Int) ⊕ UInt64) :=
  if t39 < (((b.take ((at_ + width).toNat)).drop at_.toNat).length : Int) then
    Option.bind (at? ((b.take ((at_ + width).toNat)).drop at_.toNat) t39) fun x =>
    if ok64 (t39 + 1) then
      some (.inl ((shl64 n 8) ||| x.toUInt64, t39 + 1))
    else none
  else
    some (.inr n)
noncomputable def M_octet_Get_v_k1 (at_ : Int) (b : List UInt8) (width : Int) (t31 : Bool) : Option (UInt64 × Bool) :=
  if t31 = true then
    some (0, false)
  else
  if ok64 (at_ + width) then
    if ((0 : Int) ≤ at_ ∧ at_ ≤ (at_ + width)) ∧ (at_ + width) ≤ (b.length : Int) then
      Option.bind (loopO (fun z_ => M_octet_Get_v_b2 at_ b width z_.1 z_.2) (0, 0)) fun o =>
      match o with
      | n_2 =>
        some (n_2, true)
    else none
  else none
noncomputable def M_octet_Get_v (b : List UInt8) (at_ : Int) (width : Int) : Option (UInt64 × Bool) :=
  Option.bind (M_octet_may width) fun r1_2 =>
  if r1_2 = true then
    if at_ < 0 then
      M_octet_Get_v_k1 at_ b width true
    else
    if (b.length : Int) < at_ then
      M_octet_Get_v_k1 at_ b width true
    else
    if ok64 ((b.length : Int) - at_) then
      M_octet_Get_v_k1 at_ b width (decide (((b.length : Int) - at_) < width))
    else none
  else
    M_octet_Get_v_k1 at_ b width true
noncomputable def M_sha_load_v_b1 (b : List UInt8) (w_ : UInt32) (w__2 : UInt32) (w__3 : UInt32) (w__4 : UInt32) (w__5 : UInt32) (w__6 : UInt32) (w__7 : UInt32) (w__8 : UInt32) (w__9 : UInt32) (w__10 : UInt32) (w__11 : UInt32) (w__12 : UInt32) (w__13 : UInt32) (w__14 : UInt32) (w__15 : UInt32) (w__16 : UInt32) (t6 : Int) : Option ((UInt32 × UInt32 × UInt32 × UInt32 × UInt32 × UInt32 × UInt32 × UInt32 × UInt32 × UInt32 × UInt32 × UInt32 × UInt32 × UInt32 × UInt32 × UInt32 × Int) ⊕ (UInt32 × UInt32 × UInt32 × UInt32 × UInt32 × UInt32 × UInt32 × UInt32 × UInt32 × UInt32 × UInt32 × UInt32 × UInt32 × UInt32 × UInt32 × UInt32)) :=
  if t6 < 16 then
    if ok64 (4 * t6) then
      Option.bind (M_octet_Get_v b (4 * t6) 4) fun (r1_2, r2_2) =>
      Option.bind (at? [w_, w__2, w__3, w__4, w__5, w__6, w__7, w__8, w__9, w__10, w__11, w__12, w__13, w__14, w__15, w__16] t6) fun x =>
      if ok64 (t6 + 1) then
        some (.inl (selW t6 0 r1_2.toUInt32 w_, selW t6 1 r1_2.toUInt32 w__2, selW t6 2 r1_2.toUInt32 w__3, selW t6 3 r1_2.toUInt32 w__4, selW t6 4 r1_2.toUInt32 w__5, selW t6 5 r1_2.toUInt32 w__6, selW t6 6 r1_2.toUInt32 w__7, selW t6 7 r1_2.toUInt32 w__8, selW t6 8 r1_2.toUInt32 w__9, selW t6 9 r1_2.toUInt32 w__10, selW t6 10 r1_2.toUInt32 w__11, selW t6 11 r1_2.toUInt32 w__12, selW t6 12 r1_2.toUInt32 w__13, selW t6 13 r1_2.toUInt32 w__14, selW t6 14 r1_2.toUInt32 w__15, selW t6 15 r1_2.toUInt32 w__16, t6 + 1))
      else none
    else none
  else
    some (.inr (w_, w__2, w__3, w__4, w__5, w__6, w__7, w__8, w__9, w__10, w__11, w__12, w__13, w__14, w__15, w__16))
noncomputable def M_sha_load_v (b : List UInt8) : Option (UInt32 × UInt32 × UInt32 × UInt32 × UInt32 × UInt32 × UInt32 × UInt32 × UInt32 × UInt32 × UInt32 × UInt32 × UInt32 × UInt32 × UInt32 × UInt32) :=
  Option.bind (loopO (fun z_ => M_sha_load_v_b1 b z_.1 z_.2.1 z_.2.2.1 z_.2.2.2.1 z_.2.2.2.2.1 z_.2.2.2.2.2.1 z_.2.2.2.2.2.2.1 z_.2.2.2.2.2.2.2.1 z_.2.2.2.2.2.2.2.2.1 z_.2.2.2.2.2.2.2.2.2.1 z_.2.2.2.2.2.2.2.2.2.2.1 z_.2.2.2.2.2.2.2.2.2.2.2.1 z_.2.2.2.2.2.2.2.2.2.2.2.2.1 z_.2.2.2.2.2.2.2.2.2.2.2.2.2.1 z_.2.2.2.2.2.2.2.2.2.2.2.2.2.2.1 z_.2.2.2.2.2.2.2.2.2.2.2.2.2.2.2.1 z_.2.2.2.2.2.2.2.2.2.2.2.2.2.2.2.2) (0, 0, 0, 0, 0, 0, 0, 0, 0, 0, 0, 0, 0, 0, 0, 0, 0)) fun o =>
  match o with
  | (w__17, w__18, w__19, w__20, w__21, w__22, w__23, w__24, w__25, w__26, w__27, w__28, w__29, w__30, w__31, w__32) =>
    some (w__17, w__18, w__19, w__20, w__21, w__22, w__23, w__24, w__25, w__26, w__27, w__28, w__29, w__30, w__31, w__32)
noncomputable def M_sha_mix (i : Int) (b : UInt32) (c : UInt32) (d : UInt32) : Option (UInt32 × UInt32) :=
  if i < 20 then
    some (d ^^^ (b &&& (c ^^^ d)), 1518500249)
  else
  if i < 40 then
    some ((b ^^^ c) ^^^ d, 1859775393)
  else
  if i < 60 then
    some ((b &&& c) ||| (d &&& (b ||| c)), 2400959708)
  else
    some ((b ^^^ c) ^^^ d, 3395469782)
noncomputable def M_math_bits_RotateLeft32 (x : UInt32) (k : Int) : Option Unit :=
  some ()
noncomputable def M_sha_words_next_p (w_ : UInt32) (w_2 : UInt32) (w_3 : UInt32) (w_4 : UInt32) (w_5 : UInt32) (w_6 : UInt32) (w_7 : UInt32) (w_8 : UInt32) (w_9 : UInt32) (w_10 : UInt32) (w_11 : UInt32) (w_12 : UInt32) (w_13 : UInt32) (w_14 : UInt32) (w_15 : UInt32) (w_16 : UInt32) (i : Int) : Option (UInt32 × UInt32 × UInt32 × UInt32 × UInt32 × UInt32 × UInt32 × UInt32 × UInt32 × UInt32 × UInt32 × UInt32 × UInt32 × UInt32 × UInt32 × UInt32 × UInt32) :=
  if (16 : Int) ≠ 0 then
    if (16 : Int) ≤ i then
      if ok64 (i + 13) then
        if (16 : Int) ≠ 0 then
          Option.bind (at? [w_, w_2, w_3, w_4, w_5, w_6, w_7, w_8, w_9, w_10, w_11, w_12, w_13, w_14, w_15, w_16] ((i + 13).tmod 16)) fun x =>
          if ok64 (i + 8) then
            if (16 : Int) ≠ 0 then
              Option.bind (at? [w_, w_2, w_3, w_4, w_5, w_6, w_7, w_8, w_9, w_10, w_11, w_12, w_13, w_14, w_15, w_16] ((i + 8).tmod 16)) fun x_2 =>
              if ok64 (i + 2) then
                if (16 : Int) ≠ 0 then
                  Option.bind (at? [w_, w_2, w_3, w_4, w_5, w_6, w_7, w_8, w_9, w_10, w_11, w_12, w_13, w_14, w_15, w_16] ((i + 2).tmod 16)) fun x_3 =>
                  Option.bind (at? [w_, w_2, w_3, w_4, w_5, w_6, w_7, w_8, w_9, w_10, w_11, w_12, w_13, w_14, w_15, w_16] (i.tmod 16)) fun x_4 =>
                  Option.bind (M_math_bits_RotateLeft32 (((x ^^^ x_2) ^^^ x_3) ^^^ x_4) 1) fun () =>
                  Option.bind (at? [w_, w_2, w_3, w_4, w_5, w_6, w_7, w_8, w_9, w_10, w_11, w_12, w_13, w_14, w_15, w_16] (i.tmod 16)) fun x_5 =>
                  Option.bind (at? [selW (i.tmod 16) 0 ((shl32 (((x ^^^ x_2) ^^^ x_3) ^^^ x_4) (((UInt64.ofInt 1) &&& 31).toNat)) ||| (shr32 (((x ^^^ x_2) ^^^ x_3) ^^^ x_4) ((32 - ((UInt64.ofInt 1) &&& 31)).toNat))) w_, selW (i.tmod 16) 1 ((shl32 (((x ^^^ x_2) ^^^ x_3) ^^^ x_4) (((UInt64.ofInt 1) &&& 31).toNat)) ||| (shr32 (((x ^^^ x_2) ^^^ x_3) ^^^ x_4) ((32 - ((UInt64.ofInt 1) &&& 31)).toNat))) w_2, selW (i.tmod 16) 2 ((shl32 (((x ^^^ x_2) ^^^ x_3) ^^^ x_4) (((UInt64.ofInt 1) &&& 31).toNat)) ||| (shr32 (((x ^^^ x_2) ^^^ x_3) ^^^ x_4) ((32 - ((UInt64.ofInt 1) &&& 31)).toNat))) w_3, selW (i.tmod 16) 3 ((shl32 (((x ^^^ x_2) ^^^ x_3) ^^^ x_4) (((UInt64.ofInt 1) &&& 31).toNat)) ||| (shr32 (((x ^^^ x_2) ^^^ x_3) ^^^ x_4) ((32 - ((UInt64.ofInt 1) &&& 31)).toNat))) w_4, selW (i.tmod 16) 4 ((shl32 (((x ^^^ x_2) ^^^ x_3) ^^^ x_4) (((UInt64.ofInt 1) &&& 31).toNat)) ||| (shr32 (((x ^^^ x_2) ^^^ x_3) ^^^ x_4) ((32 - ((UInt64.ofInt 1) &&& 31)).toNat))) w_5, selW (i.tmod 16) 5 ((shl32 (((x ^^^ x_2) ^^^ x_3) ^^^ x_4) (((UInt64.ofInt 1) &&& 31).toNat)) ||| (shr32 (((x ^^^ x_2) ^^^ x_3) ^^^ x_4) ((32 - ((UInt64.ofInt 1) &&& 31)).toNat))) w_6, selW (i.tmod 16) 6 ((shl32 (((x ^^^ x_2) ^^^ x_3) ^^^ x_4) (((UInt64.ofInt 1) &&& 31).toNat)) ||| (shr32 (((x ^^^ x_2) ^^^ x_3) ^^^ x_4) ((32 - ((UInt64.ofInt 1) &&& 31)).toNat))) w_7, selW (i.tmod 16) 7 ((shl32 (((x ^^^ x_2) ^^^ x_3) ^^^ x_4) (((UInt64.ofInt 1) &&& 31).toNat)) ||| (shr32 (((x ^^^ x_2) ^^^ x_3) ^^^ x_4) ((32 - ((UInt64.ofInt 1) &&& 31)).toNat))) w_8, selW (i.tmod 16) 8 ((shl32 (((x ^^^ x_2) ^^^ x_3) ^^^ x_4) (((UInt64.ofInt 1) &&& 31).toNat)) ||| (shr32 (((x ^^^ x_2) ^^^ x_3) ^^^ x_4) ((32 - ((UInt64.ofInt 1) &&& 31)).toNat))) w_9, selW (i.tmod 16) 9 ((shl32 (((x ^^^ x_2) ^^^ x_3) ^^^ x_4) (((UInt64.ofInt 1) &&& 31).toNat)) ||| (shr32 (((x ^^^ x_2) ^^^ x_3) ^^^ x_4) ((32 - ((UInt64.ofInt 1) &&& 31)).toNat))) w_10, selW (i.tmod 16) 10 ((shl32 (((x ^^^ x_2) ^^^ x_3) ^^^ x_4) (((UInt64.ofInt 1) &&& 31).toNat)) ||| (shr32 (((x ^^^ x_2) ^^^ x_3) ^^^ x_4) ((32 - ((UInt64.ofInt 1) &&& 31)).toNat))) w_11, selW (i.tmod 16) 11 ((shl32 (((x ^^^ x_2) ^^^ x_3) ^^^ x_4) (((UInt64.ofInt 1) &&& 31).toNat)) ||| (shr32 (((x ^^^ x_2) ^^^ x_3) ^^^ x_4) ((32 - ((UInt64.ofInt 1) &&& 31)).toNat))) w_12, selW (i.tmod 16) 12 ((shl32 (((x ^^^ x_2) ^^^ x_3) ^^^ x_4) (((UInt64.ofInt 1) &&& 31).toNat)) ||| (shr32 (((x ^^^ x_2) ^^^ x_3) ^^^ x_4) ((32 - ((UInt64.ofInt 1) &&& 31)).toNat))) w_13, selW (i.tmod 16) 13 ((shl32 (((x ^^^ x_2) ^^^ x_3) ^^^ x_4) (((UInt64.ofInt 1) &&& 31).toNat)) ||| (shr32 (((x ^^^ x_2) ^^^ x_3) ^^^ x_4) ((32 - ((UInt64.ofInt 1) &&& 31)).toNat))) w_14, selW (i.tmod 16) 14 ((shl32 (((x ^^^ x_2) ^^^ x_3) ^^^ x_4) (((UInt64.ofInt 1) &&& 31).toNat)) ||| (shr32 (((x ^^^ x_2) ^^^ x_3) ^^^ x_4) ((32 - ((UInt64.ofInt 1) &&& 31)).toNat))) w_15, selW (i.tmod 16) 15 ((shl32 (((x ^^^ x_2) ^^^ x_3) ^^^ x_4) (((UInt64.ofInt 1) &&& 31).toNat)) ||| (shr32 (((x ^^^ x_2) ^^^ x_3) ^^^ x_4) ((32 - ((UInt64.ofInt 1) &&& 31)).toNat))) w_16] (i.tmod 16)) fun x_6 =>
                  some (x_6, selW (i.tmod 16) 0 ((shl32 (((x ^^^ x_2) ^^^ x_3) ^^^ x_4) (((UInt64.ofInt 1) &&& 31).toNat)) ||| (shr32 (((x ^^^ x_2) ^^^ x_3) ^^^ x_4) ((32 - ((UInt64.ofInt 1) &&& 31)).toNat))) w_, selW (i.tmod 16) 1 ((shl32 (((x ^^^ x_2) ^^^ x_3) ^^^ x_4) (((UInt64.ofInt 1) &&& 31).toNat)) ||| (shr32 (((x ^^^ x_2) ^^^ x_3) ^^^ x_4) ((32 - ((UInt64.ofInt 1) &&& 31)).toNat))) w_2, selW (i.tmod 16) 2 ((shl32 (((x ^^^ x_2) ^^^ x_3) ^^^ x_4) (((UInt64.ofInt 1) &&& 31).toNat)) ||| (shr32 (((x ^^^ x_2) ^^^ x_3) ^^^ x_4) ((32 - ((UInt64.ofInt 1) &&& 31)).toNat))) w_3, selW (i.tmod 16) 3 ((shl32 (((x ^^^ x_2) ^^^ x_3) ^^^ x_4) (((UInt64.ofInt 1) &&& 31).toNat)) ||| (shr32 (((x ^^^ x_2) ^^^ x_3) ^^^ x_4) ((32 - ((UInt64.ofInt 1) &&& 31)).toNat))) w_4, selW (i.tmod 16) 4 ((shl32 (((x ^^^ x_2) ^^^ x_3) ^^^ x_4) (((UInt64.ofInt 1) &&& 31).toNat)) ||| (shr32 (((x ^^^ x_2) ^^^ x_3) ^^^ x_4) ((32 - ((UInt64.ofInt 1) &&& 31)).toNat))) w_5, selW (i.tmod 16) 5 ((shl32 (((x ^^^ x_2) ^^^ x_3) ^^^ x_4) (((UInt64.ofInt 1) &&& 31).toNat)) ||| (shr32 (((x ^^^ x_2) ^^^ x_3) ^^^ x_4) ((32 - ((UInt64.ofInt 1) &&& 31)).toNat))) w_6, selW (i.tmod 16) 6 ((shl32 (((x ^^^ x_2) ^^^ x_3) ^^^ x_4) (((UInt64.ofInt 1) &&& 31).toNat)) ||| (shr32 (((x ^^^ x_2) ^^^ x_3) ^^^ x_4) ((32 - ((UInt64.ofInt 1) &&& 31)).toNat))) w_7, selW (i.tmod 16) 7 ((shl32 (((x ^^^ x_2) ^^^ x_3) ^^^ x_4) (((UInt64.ofInt 1) &&& 31).toNat)) ||| (shr32 (((x ^^^ x_2) ^^^ x_3) ^^^ x_4) ((32 - ((UInt64.ofInt 1) &&& 31)).toNat))) w_8, selW (i.tmod 16) 8 ((shl32 (((x ^^^ x_2) ^^^ x_3) ^^^ x_4) (((UInt64.ofInt 1) &&& 31).toNat)) ||| (shr32 (((x ^^^ x_2) ^^^ x_3) ^^^ x_4) ((32 - ((UInt64.ofInt 1) &&& 31)).toNat))) w_9, selW (i.tmod 16) 9 ((shl32 (((x ^^^ x_2) ^^^ x_3) ^^^ x_4) (((UInt64.ofInt 1) &&& 31).toNat)) ||| (shr32 (((x ^^^ x_2) ^^^ x_3) ^^^ x_4) ((32 - ((UInt64.ofInt 1) &&& 31)).toNat))) w_10, selW (i.tmod 16) 10 ((shl32 (((x ^^^ x_2) ^^^ x_3) ^^^ x_4) (((UInt64.ofInt 1) &&& 31).toNat)) ||| (shr32 (((x ^^^ x_2) ^^^ x_3) ^^^ x_4) ((32 - ((UInt64.ofInt 1) &&& 31)).toNat))) w_11, selW (i.tmod 16) 11 ((shl32 (((x ^^^ x_2) ^^^ x_3) ^^^ x_4) (((UInt64.ofInt 1) &&& 31).toNat)) ||| (shr32 (((x ^^^ x_2) ^^^ x_3) ^^^ x_4) ((32 - ((UInt64.ofInt 1) &&& 31)).toNat))) w_12, selW (i.tmod 16) 12 ((shl32 (((x ^^^ x_2) ^^^ x_3) ^^^ x_4) (((UInt64.ofInt 1) &&& 31).toNat)) ||| (shr32 (((x ^^^ x_2) ^^^ x_3) ^^^ x_4) ((32 - ((UInt64.ofInt 1) &&& 31)).toNat))) w_13, selW (i.tmod 16) 13 ((shl32 (((x ^^^ x_2) ^^^ x_3) ^^^ x_4) (((UInt64.ofInt 1) &&& 31).toNat)) ||| (shr32 (((x ^^^ x_2) ^^^ x_3) ^^^ x_4) ((32 - ((UInt64.ofInt 1) &&& 31)).toNat))) w_14, selW (i.tmod 16) 14 ((shl32 (((x ^^^ x_2) ^^^ x_3) ^^^ x_4) (((UInt64.ofInt 1) &&& 31).toNat)) ||| (shr32 (((x ^^^ x_2) ^^^ x_3) ^^^ x_4) ((32 - ((UInt64.ofInt 1) &&& 31)).toNat))) w_15, selW (i.tmod 16) 15 ((shl32 (((x ^^^ x_2) ^^^ x_3) ^^^ x_4) (((UInt64.ofInt 1) &&& 31).toNat)) ||| (shr32 (((x ^^^ x_2) ^^^ x_3) ^^^ x_4) ((32 - ((UInt64.ofInt 1) &&& 31)).toNat))) w_16)
                else none
              else none
            else none
          else none
        else none
      else none
    else
    Option.bind (at? [w_, w_2, w_3, w_4, w_5, w_6, w_7, w_8, w_9, w_10, w_11, w_12, w_13, w_14, w_15, w_16] (i.tmod 16)) fun x_7 =>
    some (x_7, w_, w_2, w_3, w_4, w_5, w_6, w_7, w_8, w_9, w_10, w_11, w_12, w_13, w_14, w_15, w_16)
  else none
noncomputable def M_sha_eat_1_pp (i : Int) (x : UInt32) (x2 : UInt32) (x3 : UInt32) (x4 : UInt32) (x5 : UInt32) (x6 : UInt32) (x7 : UInt32) (x8 : UInt32) (x9 : UInt32) (x10 : UInt32) (x11 : UInt32) (x12 : UInt32) (x13 : UInt32) (x14 : UInt32) (x15 : UInt32) (x16 : UInt32) (x17 : UInt32) (x18 : UInt32) (x19 : UInt32) (x20 : UInt32) (x21 : UInt32) : Option (UInt32 × UInt32 × UInt32 × UInt32 × UInt32 × UInt32 × UInt32 × UInt32 × UInt32 × UInt32 × UInt32 × UInt32 × UInt32 × UInt32 × UInt32 × UInt32 × UInt32) :=
  Option.bind (M_sha_mix i x2 x3 x4) fun (r1_2, r2_2) =>
  Option.bind (M_math_bits_RotateLeft32 x 5) fun () =>
  Option.bind (M_sha_words_next_p x6 x7 x8 x9 x10 x11 x12 x13 x14 x15 x16 x17 x18 x19 x20 x21 i) fun (r1_3, r2_3, r3_2, r4_2, r5_2, r6_2, r7_2, r8_2, r9_2, r10_2, r11_2, r12_2, r13_2, r14_2, r15_2, r16_2, r17_2) =>
  Option.bind (M_math_bits_RotateLeft32 x2 30) fun () =>
  some ((((((shl32 x (((UInt64.ofInt 5) &&& 31).toNat)) ||| (shr32 x ((32 - ((UInt64.ofInt 5) &&& 31)).toNat))) + r1_2) + x5) + r1_3) + r2_2, r2_3, r3_2, r4_2, r5_2, r6_2, r7_2, r8_2, r9_2, r10_2, r11_2, r12_2, r13_2, r14_2, r15_2, r16_2, r17_2)
noncomputable def M_sha_eat_v_b2 (v_10 : UInt32) (v_6 : UInt32) (v_7 : UInt32) (v_8 : UInt32) (v_9 : UInt32) (h__2 : UInt32) (h__3 : UInt32) (h__4 : UInt32) (h__5 : UInt32) (h__6 : UInt32) (t21 : Int) : Option ((UInt32 × UInt32 × UInt32 × UInt32 × UInt32 × Int) ⊕ (UInt32 × UInt32 × UInt32 × UInt32 × UInt32)) :=
  if t21 < 5 then
    Option.bind (at? [h__2, h__3, h__4, h__5, h__6] t21) fun x =>
    Option.bind (at? [v_6, v_7, v_8, v_9, v_10] t21) fun x_2 =>
    Option.bind (at? [h__2, h__3, h__4, h__5, h__6] t21) fun x_3 =>
    if ok64 (t21 + 1) then
      some (.inl (selW t21 0 (x + x_2) h__2, selW t21 1 (x + x_2) h__3, selW t21 2 (x + x_2) h__4, selW t21 3 (x + x_2) h__5, selW t21 4 (x + x_2) h__6, t21 + 1))
    else none
  else
    some (.inr (h__2, h__3, h__4, h__5, h__6))
noncomputable def M_sha_eat_v_b1 (v : UInt32) (v_2 : UInt32) (v_3 : UInt32) (v_4 : UInt32) (v_5 : UInt32) (round : UInt32) (round_2 : UInt32) (round_3 : UInt32) (round_4 : UInt32) (round_5 : UInt32) (round_6 : UInt32) (round_7 : UInt32) (round_8 : UInt32) (round_9 : UInt32) (round_10 : UInt32) (round_11 : UInt32) (round_12 : UInt32) (round_13 : UInt32) (round_14 : UInt32) (round_15 : UInt32) (round_16 : UInt32) (t14 : Int) : Option ((UInt32 × UInt32 × UInt32 × UInt32 × UInt32 × UInt32 × UInt32 × UInt32 × UInt32 × UInt32 × UInt32 × UInt32 × UInt32 × UInt32 × UInt32 × UInt32 × UInt32 × UInt32 × UInt32 × UInt32 × UInt32 × Int) ⊕ (UInt32 × UInt32 × UInt32 × UInt32 × UInt32)) :=
  if t14 < 80 then
    Option.bind (M_sha_eat_1_pp t14 v v_2 v_3 v_4 v_5 round round_2 round_3 round_4 round_5 round_6 round_7 round_8 round_9 round_10 round_11 round_12 round_13 round_14 round_15 round_16) fun (r1_3, r2_3, r3_3, r4_3, r5_3, r6_3, r7_3, r8_3, r9_3, r10_3, r11_3, r12_3, r13_3, r14_3, r15_3, r16_3, r17_2) =>
    if ok64 (t14 + 1) then
      some (.inl (r1_3, v, (shl32 v_2 (((UInt64.ofInt 30) &&& 31).toNat)) ||| (shr32 v_2 ((32 - ((UInt64.ofInt 30) &&& 31)).toNat)), v_3, v_4, r2_3, r3_3, r4_3, r5_3, r6_3, r7_3, r8_3, r9_3, r10_3, r11_3, r12_3, r13_3, r14_3, r15_3, r16_3, r17_2, t14 + 1))
    else none
  else
    some (.inr (v, v_2, v_3, v_4, v_5))
noncomputable def M_sha_eat_v (h_ : UInt32) (h_2 : UInt32) (h_3 : UInt32) (h_4 : UInt32) (h_5 : UInt32) (b : List UInt8) : Option (UInt32 × UInt32 × UInt32 × UInt32 × UInt32) :=
  Option.bind (M_sha_load_v b) fun (r1_2, r2_2, r3_2, r4_2, r5_2, r6_2, r7_2, r8_2, r9_2, r10_2, r11_2, r12_2, r13_2, r14_2, r15_2, r16_2) =>
  Option.bind (loopO (fun z_ => M_sha_eat_v_b1 z_.1 z_.2.1 z_.2.2.1 z_.2.2.2.1 z_.2.2.2.2.1 z_.2.2.2.2.2.1 z_.2.2.2.2.2.2.1 z_.2.2.2.2.2.2.2.1 z_.2.2.2.2.2.2.2.2.1 z_.2.2.2.2.2.2.2.2.2.1 z_.2.2.2.2.2.2.2.2.2.2.1 z_.2.2.2.2.2.2.2.2.2.2.2.1 z_.2.2.2.2.2.2.2.2.2.2.2.2.1 z_.2.2.2.2.2.2.2.2.2.2.2.2.2.1 z_.2.2.2.2.2.2.2.2.2.2.2.2.2.2.1 z_.2.2.2.2.2.2.2.2.2.2.2.2.2.2.2.1 z_.2.2.2.2.2.2.2.2.2.2.2.2.2.2.2.2.1 z_.2.2.2.2.2.2.2.2.2.2.2.2.2.2.2.2.2.1 z_.2.2.2.2.2.2.2.2.2.2.2.2.2.2.2.2.2.2.1 z_.2.2.2.2.2.2.2.2.2.2.2.2.2.2.2.2.2.2.2.1 z_.2.2.2.2.2.2.2.2.2.2.2.2.2.2.2.2.2.2.2.2.1 z_.2.2.2.2.2.2.2.2.2.2.2.2.2.2.2.2.2.2.2.2.2) (h_, h_2, h_3, h_4, h_5, r1_2, r2_2, r3_2, r4_2, r5_2, r6_2, r7_2, r8_2, r9_2, r10_2, r11_2, r12_2, r13_2, r14_2, r15_2, r16_2, 0)) fun o =>
  match o with
  | (v_6, v_7, v_8, v_9, v_10) =>
    Option.bind (loopO (fun z_ => M_sha_eat_v_b2 v_10 v_6 v_7 v_8 v_9 z_.1 z_.2.1 z_.2.2.1 z_.2.2.2.1 z_.2.2.2.2.1 z_.2.2.2.2.2) (h_, h_2, h_3, h_4, h_5, 0)) fun o_2 =>
    match o_2 with
    | (h__7, h__8, h__9, h__10, h__11) =>
      some (h__7, h__8, h__9, h__10, h__11)
noncomputable def M_sha_Hash_Write_pnv_b1 (h__2 : UInt32) (h__3 : UInt32) (h__4 : UInt32) (h__5 : UInt32) (h__6 : UInt32) (all : List UInt8) : Option ((UInt32 × UInt32 × UInt32 × UInt32 × UInt32 × List UInt8) ⊕ (UInt32 × UInt32 × UInt32 × UInt32 × UInt32 × List UInt8)) :=
  if (64 : Int) ≤ (all.length : Int) then
    if (0 : Int) ≤ 64 ∧ (64 : Int) ≤ (all.length : Int) then
      Option.bind (M_sha_eat_v h__2 h__3 h__4 h__5 h__6 (all.take 64)) fun (r1_2, r2_2, r3_2, r4_2, r5_2) =>
      if (0 : Int) ≤ 64 ∧ (64 : Int) ≤ (all.length : Int) then
        some (.inl (r1_2, r2_2, r3_2, r4_2, r5_2, all.drop 64))
      else none
    else none
  else
    some (.inr (h__2, h__3, h__4, h__5, h__6, all))
noncomputable def M_sha_Hash_Write_pnv (made : Bool) (h_ : UInt32) (h_2 : UInt32) (h_3 : UInt32) (h_4 : UInt32) (h_5 : UInt32) (n : UInt64) (b2 : List UInt8) : Option (Int × UInt32 × UInt32 × UInt32 × UInt32 × UInt32 × List UInt8 × UInt64) :=
  Option.bind (M_sha_Hash_none_pn made h_ h_2 h_3 h_4 h_5 n) fun () =>
  if made = true then
    if (0 + 0) * 1 ≤ 140737488355328 then
      if ((([] : List UInt8) ++ ([] : List UInt8)).length + b2.length) * 1 ≤ 140737488355328 then
        Option.bind (loopO (fun z_ => M_sha_Hash_Write_pnv_b1 z_.1 z_.2.1 z_.2.2.1 z_.2.2.2.1 z_.2.2.2.2.1 z_.2.2.2.2.2) (h_, h_2, h_3, h_4, h_5, (([] : List UInt8) ++ ([] : List UInt8)) ++ b2)) fun o =>
        match o with
        | (h__7, h__8, h__9, h__10, h__11, all_2) =>
          some (0, h__7, h__8, h__9, h__10, h__11, all_2, n + (UInt64.ofInt (b2.length : Int)))
      else none
    else none
  else
    some (1, h_, h_2, h_3, h_4, h_5, ([] : List UInt8), n)
noncomputable def M_sha_Hash_none_po (made : Bool) (h_ : UInt32) (h_2 : UInt32) (h_3 : UInt32) (h_4 : UInt32) (h_5 : UInt32) (rest : List UInt8) (n : UInt64) : Option Unit :=
  some ()
noncomputable def M_sha_Hash_Clone_po (made : Bool) (h_ : UInt32) (h_2 : UInt32) (h_3 : UInt32) (h_4 : UInt32) (h_5 : UInt32) (rest : List UInt8) (n : UInt64) : Option Unit :=
  if (0 + rest.length) * 1 ≤ 140737488355328 then
    some ()
  else none
noncomputable def M_octet_Put_v_b1 (n : UInt64) (width : Int) (out : List UInt8) (t17 : Int) : Option ((List UInt8 × Int) ⊕ (List UInt8)) :=
  if t17 < width then
    if ok64 (width - 1) then
      if ok64 ((width - 1) - t17) then
        if ok64 (8 * ((width - 1) - t17)) then
          if (out.length + 1) * 1 ≤ 140737488355328 then
            if ok64 (t17 + 1) then
              some (.inl (out ++ [(shr64 n ((UInt64.ofInt (8 * ((width - 1) - t17))).toNat)).toUInt8], t17 + 1))
            else none
          else none
        else none
      else none
    else none
  else
    some (.inr out)
noncomputable def M_octet_Put_v (b : List UInt8) (n : UInt64) (width : Int) : Option (List UInt8) :=
  if (0 + b.length) * 1 ≤ 140737488355328 then
    Option.bind (M_octet_may width) fun r1_2 =>
    if r1_2 = true then
      Option.bind (loopO (fun z_ => M_octet_Put_v_b1 n width z_.1 z_.2) (([] : List UInt8) ++ b, 0)) fun o =>
      match o with
      | out_2 =>
        some out_2
    else
      some (([] : List UInt8) ++ b)
  else none
noncomputable def M_sha_Pad (n : UInt64) : Option (List UInt8) :=
  if (n % 64).toNat < 9223372036854775808 then
    if ok64 (119 - ((n % 64).toNat : Int)) then
      if (64 : Int) ≠ 0 then
        if ok64 (1 + ((119 - ((n % 64).toNat : Int)).tmod 64)) then
          if ((0 : Int) ≤ (1 + ((119 - ((n % 64).toNat : Int)).tmod 64)) ∧ (1 + ((119 - ((n % 64).toNat : Int)).tmod 64)) ≤ (1 + ((119 - ((n % 64).toNat : Int)).tmod 64))) ∧ (1 + ((119 - ((n % 64).toNat : Int)).tmod 64)) * 1 ≤ 140737488355328 then
            Option.bind (at? (List.replicate ((1 + ((119 - ((n % 64).toNat : Int)).tmod 64)).toNat) (0 : UInt8)) 0) fun x =>
            Option.bind (M_octet_Put_v ((List.replicate ((1 + ((119 - ((n % 64).toNat : Int)).tmod 64)).toNat) (0 : UInt8)).set 0 128) (shl64 n 3) 8) fun r3_2 =>
            some r3_2
          else none
        else none
      else none
    else none
  else none
noncomputable def M_sha_Hash_Write_pov_b1 (h__2 : UInt32) (h__3 : UInt32) (h__4 : UInt32) (h__5 : UInt32) (h__6 : UInt32) (all : List UInt8) : Option ((UInt32 × UInt32 × UInt32 × UInt32 × UInt32 × List UInt8) ⊕ (UInt32 × UInt32 × UInt32 × UInt32 × UInt32 × List UInt8)) :=
  if (64 : Int) ≤ (all.length : Int) then
    if (0 : Int) ≤ 64 ∧ (64 : Int) ≤ (all.length : Int) then
      Option.bind (M_sha_eat_v h__2 h__3 h__4 h__5 h__6 (all.take 64)) fun (r1_2, r2_2, r3_2, r4_2, r5_2) =>
      if (0 : Int) ≤ 64 ∧ (64 : Int) ≤ (all.length : Int) then
        some (.inl (r1_2, r2_2, r3_2, r4_2, r5_2, all.drop 64))
      else none
    else none
  else
    some (.inr (h__2, h__3, h__4, h__5, h__6, all))
noncomputable def M_sha_Hash_Write_pov (made : Bool) (h_ : UInt32) (h_2 : UInt32) (h_3 : UInt32) (h_4 : UInt32) (h_5 : UInt32) (rest : List UInt8) (n : UInt64) (b2 : List UInt8) : Option (Int × UInt32 × UInt32 × UInt32 × UInt32 × UInt32 × List UInt8 × UInt64) :=
  Option.bind (M_sha_Hash_none_po made h_ h_2 h_3 h_4 h_5 rest n) fun () =>
  if made = true then
    if (0 + rest.length) * 1 ≤ 140737488355328 then
      if ((([] : List UInt8) ++ rest).length + b2.length) * 1 ≤ 140737488355328 then
        Option.bind (loopO (fun z_ => M_sha_Hash_Write_pov_b1 z_.1 z_.2.1 z_.2.2.1 z_.2.2.2.1 z_.2.2.2.2.1 z_.2.2.2.2.2) (h_, h_2, h_3, h_4, h_5, (([] : List UInt8) ++ rest) ++ b2)) fun o =>
        match o with
        | (h__7, h__8, h__9, h__10, h__11, all_2) =>
          some (0, h__7, h__8, h__9, h__10, h__11, all_2, n + (UInt64.ofInt (b2.length : Int)))
      else none
    else none
  else
    some (1, h_, h_2, h_3, h_4, h_5, rest, n)
noncomputable def M_sha_Hash_Sum_po_b1 (r2_2 : UInt32) (r3_3 : UInt32) (r4_2 : UInt32) (r5_2 : UInt32) (r6_2 : UInt32) (out : List UInt8) (t23 : Int) : Option ((List UInt8 × Int) ⊕ (List UInt8)) :=
  if t23 < 5 then
    Option.bind (at? [r2_2, r3_3, r4_2, r5_2, r6_2] t23) fun x =>
    Option.bind (M_octet_Put_v out x.toUInt64 4) fun r3_4 =>
    if ok64 (t23 + 1) then
      some (.inl (r3_4, t23 + 1))
    else none
  else
    some (.inr out)
noncomputable def M_sha_Hash_Sum_po (made : Bool) (h_ : UInt32) (h_2 : UInt32) (h_3 : UInt32) (h_4 : UInt32) (h_5 : UInt32) (rest : List UInt8) (n : UInt64) : Option (Fin 20 → UInt8) :=
  Option.bind (M_sha_Hash_none_po made h_ h_2 h_3 h_4 h_5 rest n) fun () =>
  if made = true then
    Option.bind (M_sha_Hash_Clone_po made h_ h_2 h_3 h_4 h_5 rest n) fun () =>
    Option.bind (M_sha_Pad n) fun r3_2 =>
    Option.bind (M_sha_Hash_Write_pov made h_ h_2 h_3 h_4 h_5 (([] : List UInt8) ++ rest) n r3_2) fun (r1_2, r2_2, r3_3, r4_2, r5_2, r6_2, r9_2, r10_2) =>
    Option.bind (loopO (fun z_ => M_sha_Hash_Sum_po_b1 r2_2 r3_3 r4_2 r5_2 r6_2 z_.1 z_.2) (([] : List UInt8), 0)) fun o =>
    match o with
    | out_2 =>
      some (copyA (fun _ => 0) out_2)
  else
    some (fun _ => 0)
noncomputable def M_sha_Sum_v (b : List UInt8) : Option (Fin 20 → UInt8) :=
  Option.bind (M_sha_New) fun () =>
  Option.bind (M_sha_Hash_Write_pnv true 1732584193 4023233417 2562383102 271733878 3285377520 0 b) fun (r1_2, r2_2, r3_2, r4_2, r5_2, r6_2, r9_2, r10_2) =>
  Option.bind (M_sha_Hash_Sum_po true r2_2 r3_2 r4_2 r5_2 r6_2 r9_2 r10_2) fun r1_3 =>
  some r1_3
noncomputable def M_ident_Of (s : List UInt8) : Option (Fin 20 → UInt8) :=
  if s.length ≤ 140737488355328 then
    Option.bind (M_sha_Sum_v s) fun r1_2 =>
    some r1_2
  else none
noncomputable def M_service_Key (s : List UInt8) : Option ((Fin 20 → UInt8) × Int) :=
  Option.bind (M_service_Canon s) fun (r1_2, r2_2) =>
  if r2_2 = 0 then
    Option.bind (M_ident_Of r1_2) fun r1_3 =>
    some (r1_3, 0)
  else
    some ((fun _ => 0), r2_2)
noncomputable def M_signpostref01_Put_v_b2 (n : UInt64) (out : List UInt8) (i : Int) : Option ((List UInt8 × Int) ⊕ (List UInt8)) :=
  if (0 : Int) ≤ i then
    if ok64 (8 * i) then
      if (out.length + 1) * 1 ≤ 140737488355328 then
        if ok64 (i - 1) then
          some (.inl (out ++ [(shr64 n ((UInt64.ofInt (8 * i)).toNat)).toUInt8], i - 1))
        else none
      else none
    else none
  else
    some (.inr out)
noncomputable def M_signpostref01_Put_v_k1 (b : List UInt8) (n : UInt64) (width : Int) (t17 : Bool) : Option (List UInt8) :=
  if t17 = true then
    some (([] : List UInt8) ++ b)
  else
  if ok64 (width - 1) then
    Option.bind (loopO (fun z_ => M_signpostref01_Put_v_b2 n z_.1 z_.2) (([] : List UInt8) ++ b, width - 1)) fun o =>
    match o with
    | out_2 =>
      some out_2
  else none
noncomputable def M_signpostref01_Put_v (b : List UInt8) (n : UInt64) (width : Int) : Option (List UInt8) :=
  if (0 + b.length) * 1 ≤ 140737488355328 then
    if width < 1 then
      M_signpostref01_Put_v_k1 b n width true
    else
      M_signpostref01_Put_v_k1 b n width (decide ((8 : Int) < width))
  else none
noncomputable def M_signpostref02_Pad_b1 (n : UInt64) (out : List UInt8) : Option ((List UInt8) ⊕ (List UInt8)) :=
  if ((n + (UInt64.ofInt (out.length : Int))) % 64) = 56 then
    some (.inr out)
  else
  if (out.length + 1) * 1 ≤ 140737488355328 then
    some (.inl (out ++ ([0] : List UInt8)))
  else none
noncomputable def M_signpostref02_Pad (n : UInt64) : Option (List UInt8) :=
  Option.bind (loopO (fun z_ => M_signpostref02_Pad_b1 n z_) ([128] : List UInt8)) fun o =>
  match o with
  | out_2 =>
    Option.bind (M_signpostref01_Put_v out_2 (n * 8) 8) fun r3_2 =>
    some r3_2
noncomputable def M_signpostref01_Get_v_b2 (at_ : Int) (b : List UInt8) (width : Int) (n : UInt64) (i : Int) : Option ((UInt64 × Int) ⊕ UInt64) :=
  if i < width then
    if ok64 (at_ + i) then
      Option.bind (at? b (at_ + i)) fun x =>
      if ok64 (i + 1) then
        some (.inl ((n * 256) + x.toUInt64, i + 1))
      else none
    else none
  else
    some (.inr n)
noncomputable def M_signpostref01_Get_v_k1 (at_ : Int) (b : List UInt8) (width : Int) (t33 : Bool) : Option (UInt64 × Bool) :=
  if t33 = true then
    some (0, false)
  else
  Option.bind (loopO (fun z_ => M_signpostref01_Get_v_b2 at_ b width z_.1 z_.2) (0, 0)) fun o =>
  match o with
  | n_2 =>
    some (n_2, true)
noncomputable def M_signpostref01_Get_v (b : List UInt8) (at_ : Int) (width : Int) : Option (UInt64 × Bool) :=
  if width < 1 then
    M_signpostref01_Get_v_k1 at_ b width true
  else
  if (8 : Int) < width then
    M_signpostref01_Get_v_k1 at_ b width true
  else
  if at_ < 0 then
    M_signpostref01_Get_v_k1 at_ b width true
  else
  if (b.length : Int) < at_ then
    M_signpostref01_Get_v_k1 at_ b width true
  else
  if ok64 ((b.length : Int) - at_) then
    M_signpostref01_Get_v_k1 at_ b width (decide (((b.length : Int) - at_) < width))
  else none
noncomputable def M_signpostref02_turned (x : UInt32) (n : Int) : Option Unit :=
  if ok64 (32 - n) then
    some ()
  else none
noncomputable def M_signpostref02_words_v_b2 (w__3 : List UInt32) (i_2 : Int) : Option ((List UInt32 × Int) ⊕ (List UInt32)) :=
  if i_2 < 80 then
    if ok64 (i_2 - 3) then
      Option.bind (at? w__3 (i_2 - 3)) fun x =>
      if ok64 (i_2 - 8) then
        Option.bind (at? w__3 (i_2 - 8)) fun x_2 =>
        if ok64 (i_2 - 14) then
          Option.bind (at? w__3 (i_2 - 14)) fun x_3 =>
          if ok64 (i_2 - 16) then
            Option.bind (at? w__3 (i_2 - 16)) fun x_4 =>
            Option.bind (M_signpostref02_turned (((x ^^^ x_2) ^^^ x_3) ^^^ x_4) 1) fun () =>
            if (w__3.length + 1) * 4 ≤ 140737488355328 then
              if ok64 (i_2 + 1) then
                some (.inl (w__3 ++ [(shl32 (((x ^^^ x_2) ^^^ x_3) ^^^ x_4) ((UInt64.ofInt 1).toNat)) ||| (shr32 (((x ^^^ x_2) ^^^ x_3) ^^^ x_4) ((UInt64.ofInt ((32 : Int) - 1)).toNat))], i_2 + 1))
              else none
            else none
          else none
        else none
      else none
    else none
  else
    some (.inr w__3)
noncomputable def M_signpostref02_words_v_b1 (b : List UInt8) (w_ : List UInt32) (i : Int) : Option ((List UInt32 × Int) ⊕ (List UInt32)) :=
  if i < 16 then
    if ok64 (4 * i) then
      Option.bind (M_signpostref01_Get_v b (4 * i) 4) fun (r1_2, r2_2) =>
      if (w_.length + 1) * 4 ≤ 140737488355328 then
        if ok64 (i + 1) then
          some (.inl (w_ ++ [r1_2.toUInt32], i + 1))
        else none
      else none
    else none
  else
    some (.inr w_)
noncomputable def M_signpostref02_words_v (b : List UInt8) : Option (List UInt32) :=
  Option.bind (loopO (fun z_ => M_signpostref02_words_v_b1 b z_.1 z_.2) (([] : List UInt32), 0)) fun o =>
  match o with
  | w__2 =>
    Option.bind (loopO (fun z_ => M_signpostref02_words_v_b2 z_.1 z_.2) (w__2, 16)) fun o_2 =>
    match o_2 with
    | w__4 =>
      some w__4
noncomputable def M_signpostref02_part (i : Int) (b : UInt32) (c : UInt32) (d : UInt32) : Option (UInt32 × UInt32) :=
  if (20 : Int) ≠ 0 ∧ ok64 (i.tdiv 20) then
    if (i.tdiv 20) = 0 then
      some ((b &&& c) ||| ((4294967295 ^^^ b) &&& d), 1518500249)
    else
    if (i.tdiv 20) = 1 then
      some ((b ^^^ c) ^^^ d, 1859775393)
    else
    if (i.tdiv 20) = 2 then
      some (((b &&& c) ||| (b &&& d)) ||| (c &&& d), 2400959708)
    else
      some ((b ^^^ c) ^^^ d, 3395469782)
  else none
noncomputable def M_signpostref02_block_v_b2 (h_ : UInt32) (h_2 : UInt32) (h_3 : UInt32) (h_4 : UInt32) (h_5 : UInt32) (v_11 : UInt32) (v_12 : UInt32) (v_13 : UInt32) (v_14 : UInt32) (v_15 : UInt32) (i_2 : Int) : Option ((UInt32 × UInt32 × UInt32 × UInt32 × UInt32 × Int) ⊕ (UInt32 × UInt32 × UInt32 × UInt32 × UInt32)) :=
  if i_2 < 5 then
    Option.bind (at? [v_11, v_12, v_13, v_14, v_15] i_2) fun x_2 =>
    Option.bind (at? [h_, h_2, h_3, h_4, h_5] i_2) fun x_3 =>
    Option.bind (at? [v_11, v_12, v_13, v_14, v_15] i_2) fun x_4 =>
    if ok64 (i_2 + 1) then
      some (.inl (selW i_2 0 (x_2 + x_3) v_11, selW i_2 1 (x_2 + x_3) v_12, selW i_2 2 (x_2 + x_3) v_13, selW i_2 3 (x_2 + x_3) v_14, selW i_2 4 (x_2 + x_3) v_15, i_2 + 1))
    else none
  else
    some (.inr (v_11, v_12, v_13, v_14, v_15))
noncomputable def M_signpostref02_block_v_b1 (r3_2 : List UInt32) (v : UInt32) (v_2 : UInt32) (v_3 : UInt32) (v_4 : UInt32) (v_5 : UInt32) (i : Int) : Option ((UInt32 × UInt32 × UInt32 × UInt32 × UInt32 × Int) ⊕ (UInt32 × UInt32 × UInt32 × UInt32 × UInt32)) :=
  if i < 80 then
    Option.bind (M_signpostref02_part i v_2 v_3 v_4) fun (r1_2, r2_2) =>
    Option.bind (at? r3_2 i) fun x =>
    Option.bind (M_signpostref02_turned v 5) fun () =>
    Option.bind (M_signpostref02_turned v_2 30) fun () =>
    if ok64 (i + 1) then
      some (.inl ((((((shl32 v ((UInt64.ofInt 5).toNat)) ||| (shr32 v ((UInt64.ofInt ((32 : Int) - 5)).toNat))) + r1_2) + v_5) + x) + r2_2, v, (shl32 v_2 ((UInt64.ofInt 30).toNat)) ||| (shr32 v_2 ((UInt64.ofInt ((32 : Int) - 30)).toNat)), v_3, v_4, i + 1))
    else none
  else
    some (.inr (v, v_2, v_3, v_4, v_5))
noncomputable def M_signpostref02_block_v (h_ : UInt32) (h_2 : UInt32) (h_3 : UInt32) (h_4 : UInt32) (h_5 : UInt32) (b : List UInt8) : Option (UInt32 × UInt32 × UInt32 × UInt32 × UInt32) :=
  Option.bind (M_signpostref02_words_v b) fun r3_2 =>
  Option.bind (loopO (fun z_ => M_signpostref02_block_v_b1 r3_2 z_.1 z_.2.1 z_.2.2.1 z_.2.2.2.1 z_.2.2.2.2.1 z_.2.2.2.2.2) (h_, h_2, h_3, h_4, h_5, 0)) fun o =>
  match o with
  | (v_6, v_7, v_8, v_9, v_10) =>
    Option.bind (loopO (fun z_ => M_signpostref02_block_v_b2 h_ h_2 h_3 h_4 h_5 z_.1 z_.2.1 z_.2.2.1 z_.2.2.2.1 z_.2.2.2.2.1 z_.2.2.2.2.2) (v_6, v_7, v_8, v_9, v_10, 0)) fun o_2 =>
    match o_2 with
    | (v_16, v_17, v_18, v_19, v_20) =>
      some (v_16, v_17, v_18, v_19, v_20)
noncomputable def M_signpostref02_Sum_v_b2 (h__10 : UInt32) (h__6 : UInt32) (h__7 : UInt32) (h__8 : UInt32) (h__9 : UInt32) (out : List UInt8) (i : Int) : Option ((List UInt8 × Int) ⊕ (List UInt8)) :=
  if i < 5 then
    Option.bind (at? [h__6, h__7, h__8, h__9, h__10] i) fun x =>
    Option.bind (M_signpostref01_Put_v out x.toUInt64 4) fun r3_4 =>
    if ok64 (i + 1) then
      some (.inl (r3_4, i + 1))
    else none
  else
    some (.inr out)
noncomputable def M_signpostref02_Sum_v_b1 (b : List UInt8) (r3_2 : List UInt8) (h_ : UInt32) (h__2 : UInt32) (h__3 : UInt32) (h__4 : UInt32) (h__5 : UInt32) (at_ : Int) : Option ((UInt32 × UInt32 × UInt32 × UInt32 × UInt32 × Int) ⊕ (UInt32 × UInt32 × UInt32 × UInt32 × UInt32)) :=
  if at_ < (((([] : List UInt8) ++ b) ++ r3_2).length : Int) then
    if ok64 (at_ + 64) then
      if ((0 : Int) ≤ at_ ∧ at_ ≤ (at_ + 64)) ∧ (at_ + 64) ≤ (((([] : List UInt8) ++ b) ++ r3_2).length : Int) then
        Option.bind (M_signpostref02_block_v h_ h__2 h__3 h__4 h__5 ((((([] : List UInt8) ++ b) ++ r3_2).take ((at_ + 64).toNat)).drop at_.toNat)) fun (r1_2, r2_2, r3_3, r4_2, r5_2) =>
        if ok64 (at_ + 64) then
          some (.inl (r1_2, r2_2, r3_3, r4_2, r5_2, at_ + 64))
        else none
      else none
    else none
  else
    some (.inr (h_, h__2, h__3, h__4, h__5))
noncomputable def M_signpostref02_Sum_v (b : List UInt8) : Option (Fin 20 → UInt8) :=
  if (0 + b.length) * 1 ≤ 140737488355328 then
    Option.bind (M_signpostref02_Pad (UInt64.ofInt (b.length : Int))) fun r3_2 =>
    if ((([] : List UInt8) ++ b).length + r3_2.length) * 1 ≤ 140737488355328 then
      Option.bind (loopO (fun z_ => M_signpostref02_Sum_v_b1 b r3_2 z_.1 z_.2.1 z_.2.2.1 z_.2.2.2.1 z_.2.2.2.2.1 z_.2.2.2.2.2) (1732584193, 4023233417, 2562383102, 271733878, 3285377520, 0)) fun o =>
      match o with
      | (h__6, h__7, h__8, h__9, h__10) =>
        Option.bind (loopO (fun z_ => M_signpostref02_Sum_v_b2 h__10 h__6 h__7 h__8 h__9 z_.1 z_.2) (([] : List UInt8), 0)) fun o_2 =>
        match o_2 with
        | out_2 =>
          some (copyA (fun _ => 0) out_2)
    else none
  else none
noncomputable def M_signpostref10_Key (s : List UInt8) : Option ((Fin 20 → UInt8) × Int) :=
  Option.bind (M_signpostref10_Canon s) fun (r1_2, r2_2) =>
  if r2_2 = 0 then
    if r1_2.length ≤ 140737488355328 then
      Option.bind (M_signpostref02_Sum_v r1_2) fun r1_3 =>
      some (r1_3, 0)
    else none
  else
    some ((fun _ => 0), r2_2)
noncomputable def M_signpostlaw10_ServiceTells (s : List UInt8) : Option Bool :=
  if (600 : Int) < (s.length : Int) then
    Option.bind (M_signpostlaw10_lives) fun r1_2 =>
    some r1_2
  else
  Option.bind (M_service_Split s) fun (r1_3, r2_2, r3_2, r4_2) =>
  Option.bind (M_signpostref10_Split s) fun (r1_4, r2_3, r3_3, r4_3) =>
  Option.bind (M_service_Canon s) fun (r1_5, r2_4) =>
  Option.bind (M_signpostref10_Canon s) fun (r1_6, r2_5) =>
  Option.bind (M_service_Key s) fun (r1_7, r2_6) =>
  Option.bind (M_signpostref10_Key s) fun (r1_8, r2_7) =>
  if r1_3 = r1_4 then
    if r2_2 = r2_3 then
      if r3_2 = r3_3 then
        if r4_2 = r4_3 then
          if r1_5 = r1_6 then
            if r2_4 = r2_5 then
              if r1_7 = r1_8 then
                if r2_6 = r2_7 then
                  Option.bind (M_service_Good s) fun r1_9 =>
                  Option.bind (M_signpostref10_Good s) fun r1_10 =>
                  if r1_9 = r1_10 then
                    Option.bind (M_signpostlaw10_lives) fun r1_11 =>
                    some r1_11
                  else
                    some false
                else
                  some false
              else
                some false
            else
              some false
          else
            some false
        else
          some false
      else
        some false
    else
      some false
  else
    some false
end Go.Proofs.YtpheilpcklfknaaDoor
