/-
  What the functions that the statement InstLife reaches compute, each as a Lean function. No condition.
-/
import Derived.Test.YtgabplankmljfaaBRange
namespace Go.Proofs.Ytgabplankmljfaa
open Go Go.RowKit
set_option linter.unusedVariables false
set_option linter.unusedSimpArgs false
set_option linter.unnecessarySimpa false
structure G_api_Instance where
  Publisher : Fin 20 → UInt8
  Seq : UInt64
  Born : UInt64
  Life : UInt32
  Gone : Bool
  Priority : UInt16
  Weight : UInt16
  Port : UInt16
  Target : List UInt8
  deriving DecidableEq
def el_G_api_Instance : El G_api_Instance := ⟨fun x => (bytesV (List.ofFn (n := 20) x.Publisher) ++ ([(v64 x.Seq), (v64 x.Born), (v32 x.Life), (.bool x.Gone), (v16 x.Priority), (v16 x.Weight), (v16 x.Port), (.string (str x.Target))] : List Value)), 28, fun x => by simp [bytesV_length], fun x => (List.forall_mem_append.2 ⟨(bytesV_one _), (List.forall_mem_cons.2 ⟨rfl, (List.forall_mem_cons.2 ⟨rfl, (List.forall_mem_cons.2 ⟨rfl, (List.forall_mem_cons.2 ⟨rfl, (List.forall_mem_cons.2 ⟨rfl, (List.forall_mem_cons.2 ⟨rfl, (List.forall_mem_cons.2 ⟨rfl, (List.forall_mem_cons.2 ⟨rfl, (fun _ hh => by cases hh)⟩)⟩)⟩)⟩)⟩)⟩)⟩)⟩)⟩)⟩
def G_api_Instance_wf (x : G_api_Instance) : Prop := x.Target.length ≤ 140737488351232
noncomputable def M_label_parts (s : List UInt8) : Option Unit :=
  some ()
noncomputable def M_stringslite_IndexByte (s : List UInt8) (c : UInt8) : Option Unit :=
  some ()
noncomputable def M_stringslite_Index (s : List UInt8) : Option Int :=
  if ([46] : List UInt8) = s then
    some 0
  else
  Option.bind (at? ([46] : List UInt8) 0) fun c =>
  Option.bind (M_stringslite_IndexByte s c) fun () =>
  some (Lib.indexByte s c)
noncomputable def M_stringslite_Cut (s : List UInt8) : Option (List UInt8 × List UInt8 × Bool) :=
  Option.bind (M_stringslite_Index s) fun r1_2 =>
  if (0 : Int) ≤ r1_2 then
    if ((0 : Int) ≤ 0 ∧ (0 : Int) ≤ r1_2) ∧ r1_2 ≤ (s.length : Int) then
      if ok64 (r1_2 + 1) then
        if ((0 : Int) ≤ (r1_2 + 1) ∧ (r1_2 + 1) ≤ (s.length : Int)) ∧ (s.length : Int) ≤ (s.length : Int) then
          some (s.take r1_2.toNat, s.drop ((r1_2 + 1).toNat), true)
        else none
      else none
    else none
  else
    some (s, ([] : List UInt8), false)
noncomputable def M_strings_Cut (s : List UInt8) : Option (List UInt8 × List UInt8 × Bool) :=
  Option.bind (M_stringslite_Cut s) fun (r1_2, r2_2, r3_2) =>
  some (r1_2, r2_2, r3_2)
noncomputable def M_label_parts_1_p_b1 {σ_ ρ_ : Type} (f_ : σ_ → (List UInt8) → Option (σ_ ⊕ ρ_)) (z : σ_) (t1 : List UInt8) : Option ((σ_ × List UInt8) ⊕ (σ_ ⊕ ρ_)) :=
  Option.bind (M_strings_Cut t1) fun (r1, r2, r3) =>
  Option.bind (f_ z r1) fun y__2 =>
  match y__2 with
  | .inl z_2 =>
    if r3 = true then
      some (.inl (z_2, r2))
    else
      some (.inr (.inl z_2))
  | .inr x_2 =>
    some (.inr (.inr x_2))
noncomputable def M_label_parts_1_p {σ_ ρ_ : Type} (f_ : σ_ → (List UInt8) → Option (σ_ ⊕ ρ_)) (x : List UInt8) (z_ : σ_) : Option (σ_ ⊕ ρ_) :=
  Option.bind (loopO (fun z_ => M_label_parts_1_p_b1 f_ z_.1 z_.2) (z_, x)) fun o =>
  match o with
  | r =>
    some r
noncomputable def M_label_plain_k2 (c : UInt8) : Option (Bool) :=
  if (48 : UInt8) ≤ c then
    if c ≤ 57 then
      some true
    else
    if c = 45 then
      some true
    else
      some (decide (c = 95))
  else
  if c = 45 then
    some true
  else
    some (decide (c = 95))
noncomputable def M_label_plain_k1 (c : UInt8) : Option (Bool) :=
  if (65 : UInt8) ≤ c then
    if c ≤ 90 then
      some true
    else
      M_label_plain_k2 c
  else
    M_label_plain_k2 c
noncomputable def M_label_plain (c : UInt8) : Option Bool :=
  if (97 : UInt8) ≤ c then
    if c ≤ 122 then
      some true
    else
      M_label_plain_k1 c
  else
    M_label_plain_k1 c
noncomputable def M_label_Part_b2 (s : List UInt8) (t29 : Int) : Option (Int ⊕ (Unit ⊕ (Bool))) :=
  if t29 < (s.length : Int) then
    Option.bind (at? s t29) fun x =>
    Option.bind (M_label_plain x) fun r1_2 =>
    if r1_2 = true then
      if ok64 (t29 + 1) then
        some (.inl (t29 + 1))
      else none
    else
      some (.inr (.inr false))
  else
    some (.inr (.inl ()))
noncomputable def M_label_Part_k1 (s : List UInt8) (t25 : Bool) : Option (Bool) :=
  if t25 = true then
    some false
  else
  if s.length ≤ 140737488355328 then
    Option.bind (loopO (fun z_ => M_label_Part_b2 s z_) 0) fun o =>
    match o with
    | .inl () =>
      some true
    | .inr r =>
      some r
  else none
noncomputable def M_label_Part (s : List UInt8) : Option Bool :=
  if (s.length : Int) < 1 then
    M_label_Part_k1 s true
  else
  if (63 : Int) < (s.length : Int) then
    M_label_Part_k1 s true
  else
  Option.bind (at? s 0) fun c =>
  if c = 45 then
    M_label_Part_k1 s true
  else
  if ok64 ((s.length : Int) - 1) then
    Option.bind (at? s ((s.length : Int) - 1)) fun c_2 =>
    M_label_Part_k1 s (decide (c_2 = 45))
  else none
noncomputable def M_label_Good_r1 (x : List UInt8) : Option (Unit ⊕ Unit) :=
  Option.bind (M_label_Part x) fun r1_2 =>
  if r1_2 = true then
    some (.inl ())
  else
    some (.inr ())
noncomputable def M_label_Good (s : List UInt8) : Option Bool :=
  if (253 : Int) < (s.length : Int) then
    some false
  else
  Option.bind (M_label_parts s) fun () =>
  Option.bind (M_label_parts_1_p (fun (_ : Unit) x => M_label_Good_r1 x) s ()) fun o =>
  match o with
  | .inl () =>
    some true
  | .inr () =>
    some false
noncomputable def M_label_Fold_k2 (b : List UInt8) (t10 : Int) (x : UInt8) (t20 : Bool) : Option ((List UInt8 × Int) ⊕ (List UInt8)) :=
  if t20 = true then
    Option.bind (at? b t10) fun x_2 =>
    if ok64 (t10 + 1) then
      some (.inl (b.set t10.toNat (x ||| 32), t10 + 1))
    else none
  else
  if ok64 (t10 + 1) then
    some (.inl (b, t10 + 1))
  else none
noncomputable def M_label_Fold_b1 (s : List UInt8) (b : List UInt8) (t10 : Int) : Option ((List UInt8 × Int) ⊕ (List UInt8)) :=
  if t10 < (s.length : Int) then
    Option.bind (at? b t10) fun x =>
    if (65 : UInt8) ≤ x then
      M_label_Fold_k2 b t10 x (decide (x ≤ 90))
    else
      M_label_Fold_k2 b t10 x false
  else
    some (.inr b)
noncomputable def M_label_Fold (s : List UInt8) : Option (List UInt8) :=
  if s.length ≤ 140737488355328 then
    Option.bind (loopO (fun z_ => M_label_Fold_b1 s z_.1 z_.2) (s, 0)) fun o =>
    match o with
    | b_2 =>
      some b_2
  else none
noncomputable def M_inst_Good_k1 (i : G_api_Instance) (t11 : Bool) : Option (Bool) :=
  if t11 = true then
    some false
  else
  if i.Gone = true then
    if i.Target.length ≤ maxLen then
      some (decide ((G_api_Instance.mk i.Publisher i.Seq i.Born i.Life i.Gone 0 0 0 ([] : List UInt8)) = i))
    else none
  else
  if i.Port = 0 then
    some false
  else
  Option.bind (M_label_Good i.Target) fun r1_2 =>
  if r1_2 = true then
    Option.bind (M_label_Fold i.Target) fun r1_3 =>
    some (decide (r1_3 = i.Target))
  else
    some false
noncomputable def M_inst_Good (i : G_api_Instance) : Option Bool :=
  if i.Life < 1 then
    M_inst_Good_k1 i true
  else
    M_inst_Good_k1 i (decide ((2147483647 : UInt32) < i.Life))
noncomputable def M_bytes_Clone_v (b : List UInt8) : Option (List UInt8) :=
  if (0 + b.length) * 1 ≤ 140737488355328 then
    some (([] : List UInt8) ++ b)
  else none
noncomputable def M_octet_may (width : Int) : Option Bool :=
  if (1 : Int) ≤ width then
    some (decide (width ≤ 8))
  else
    some false
noncomputable def M_octet_Put_v_b1 (n : UInt64) (width : Int) (out : List UInt8) (t17 : Int) : Option ((List UInt8 × Int) ⊕ (List UInt8)) :=
  if t17 < width then
    if ok64 (width - 1) then
      if ok64 ((width - 1) - t17) then
        if ok64 (8 * ((width - 1) - t17)) then
          if (out.length + 1) * 1 ≤ 140737488355328 then
            if ok64 (t17 + 1) then
              some (.inl (out ++ [(shr64 n ((UInt64.ofInt (8 * ((width - 1) - t17))).toNat)).toUInt8], t17 + 1))
            else none
          else none
        else none
      else none
    else none
  else
    some (.inr out)
noncomputable def M_octet_Put_v (b : List UInt8) (n : UInt64) (width : Int) : Option (List UInt8) :=
  if (0 + b.length) * 1 ≤ 140737488355328 then
    Option.bind (M_octet_may width) fun r1_2 =>
    if r1_2 = true then
      Option.bind (loopO (fun z_ => M_octet_Put_v_b1 n width z_.1 z_.2) (([] : List UInt8) ++ b, 0)) fun o =>
      match o with
      | out_2 =>
        some out_2
    else
      some (([] : List UInt8) ++ b)
  else none
noncomputable def M_inst_Bytes_1_po (n : UInt64) (width : Int) (x : List UInt8) : Option (List UInt8) :=
  Option.bind (M_octet_Put_v x n width) fun r3_2 =>
  some r3_2
noncomputable def M_octet_Text_v (b : List UInt8) (s : List UInt8) : Option (List UInt8 × Int) :=
  if (1024 : Int) < (s.length : Int) then
    some (([] : List UInt8), 11)
  else
  Option.bind (M_octet_Put_v b (UInt64.ofInt (s.length : Int)) 2) fun r3_2 =>
  if (r3_2.length + s.length) * 1 ≤ 140737488355328 then
    some (r3_2 ++ s, 0)
  else none
noncomputable def M_inst_Bytes (i : G_api_Instance) : Option (List UInt8 × Int) :=
  Option.bind (M_inst_Good i) fun r1_2 =>
  if r1_2 = true then
    Option.bind (M_bytes_Clone_v (List.ofFn i.Publisher)) fun r3_2 =>
    Option.bind (M_inst_Bytes_1_po i.Seq 8 r3_2) fun r3_3 =>
    Option.bind (M_inst_Bytes_1_po i.Born 8 r3_3) fun r3_4 =>
    Option.bind (M_inst_Bytes_1_po i.Life.toUInt64 4 r3_4) fun r3_5 =>
    if i.Gone = true then
      Option.bind (M_inst_Bytes_1_po 1 1 r3_5) fun r3_6 =>
      some (r3_6, 0)
    else
    Option.bind (M_inst_Bytes_1_po 0 1 r3_5) fun r3_7 =>
    Option.bind (M_inst_Bytes_1_po i.Priority.toUInt64 2 r3_7) fun r3_8 =>
    Option.bind (M_inst_Bytes_1_po i.Weight.toUInt64 2 r3_8) fun r3_9 =>
    Option.bind (M_inst_Bytes_1_po i.Port.toUInt64 2 r3_9) fun r3_10 =>
    Option.bind (M_octet_Text_v r3_10 i.Target) fun (r3_11, r4_2) =>
    some (r3_11, r4_2)
  else
    some (([] : List UInt8), 2)
noncomputable def M_inst_End (i : G_api_Instance) : Option UInt64 :=
  if (18446744073709551615 - i.Life.toUInt64) < i.Born then
    some 18446744073709551615
  else
    some (i.Born + i.Life.toUInt64)
noncomputable def M_inst_Over (i : G_api_Instance) (now : UInt64) : Option Bool :=
  Option.bind (M_inst_End i) fun r1_2 =>
  some (decide (r1_2 ≤ now))
noncomputable def M_inst_Alive (i : G_api_Instance) (now : UInt64) : Option Bool :=
  if i.Born ≤ now then
    Option.bind (M_inst_Over i now) fun r1_2 =>
    some (!r1_2)
  else
    some false
noncomputable def M_inst_Left (i : G_api_Instance) (now : UInt64) : Option UInt32 :=
  Option.bind (M_inst_Alive i now) fun r1_2 =>
  if r1_2 = true then
    Option.bind (M_inst_End i) fun r1_3 =>
    some ((r1_3 - now).toUInt32)
  else
    some 0
noncomputable def M_signpostlaw11_lives  : Option Bool :=
  Option.bind (M_inst_Bytes (G_api_Instance.mk (fun _ => 0) 0 5 3 false 0 0 80 ([97] : List UInt8))) fun (r3_2, r4_2) =>
  Option.bind (M_inst_Good (G_api_Instance.mk (fun _ => 0) 0 5 3 false 0 0 80 ([97] : List UInt8))) fun r1_2 =>
  if r1_2 = true then
    Option.bind (M_inst_Alive (G_api_Instance.mk (fun _ => 0) 0 5 3 false 0 0 80 ([97] : List UInt8)) 4) fun r1_3 =>
    if r1_3 = true then
      some false
    else
    Option.bind (M_inst_Alive (G_api_Instance.mk (fun _ => 0) 0 5 3 false 0 0 80 ([97] : List UInt8)) 5) fun r1_4 =>
    if r1_4 = true then
      Option.bind (M_inst_Alive (G_api_Instance.mk (fun _ => 0) 0 5 3 false 0 0 80 ([97] : List UInt8)) 8) fun r1_5 =>
      if r1_5 = true then
        some false
      else
      Option.bind (M_inst_Left (G_api_Instance.mk (fun _ => 0) 0 5 3 false 0 0 80 ([97] : List UInt8)) 6) fun r1_6 =>
      if r1_6 = 2 then
        if r4_2 = 0 then
          some (decide ((r3_2.length : Int) = 50))
        else
          some false
      else
        some false
    else
      some false
  else
    some false
noncomputable def M_cmp_isNaN_uint64 (x : UInt64) : Option Unit :=
  some ()
noncomputable def M_cmp_Compare_uint64 (x : UInt64) (y_ : UInt64) : Option Int :=
  Option.bind (M_cmp_isNaN_uint64 x) fun () =>
  Option.bind (M_cmp_isNaN_uint64 y_) fun () =>
  if x < y_ then
    some (-1)
  else
  if y_ < x then
    some 1
  else
    some 0
noncomputable def M_inst_bit (is : Bool) : Option Int :=
  if is = true then
    some 1
  else
    some 0
noncomputable def M_cmp_isNaN_int (x : Int) : Option Unit :=
  some ()
noncomputable def M_cmp_Compare_int (x : Int) (y_ : Int) : Option Int :=
  Option.bind (M_cmp_isNaN_int x) fun () =>
  Option.bind (M_cmp_isNaN_int y_) fun () =>
  if x < y_ then
    some (-1)
  else
  if y_ < x then
    some 1
  else
    some 0
noncomputable def M_cmp_isNaN_uint32 (x : UInt32) : Option Unit :=
  some ()
noncomputable def M_cmp_Compare_uint32 (x : UInt32) (y_ : UInt32) : Option Int :=
  Option.bind (M_cmp_isNaN_uint32 x) fun () =>
  Option.bind (M_cmp_isNaN_uint32 y_) fun () =>
  if x < y_ then
    some (-1)
  else
  if y_ < x then
    some 1
  else
    some 0
noncomputable def M_bytes_Compare_vv (a2 : List UInt8) (b : List UInt8) : Option Unit :=
  some ()
noncomputable def M_cmp_isNaN_uint16 (x : UInt16) : Option Unit :=
  some ()
noncomputable def M_cmp_Compare_uint16 (x : UInt16) (y_ : UInt16) : Option Int :=
  Option.bind (M_cmp_isNaN_uint16 x) fun () =>
  Option.bind (M_cmp_isNaN_uint16 y_) fun () =>
  if x < y_ then
    some (-1)
  else
  if y_ < x then
    some 1
  else
    some 0
noncomputable def M_cmp_isNaN_string (x : List UInt8) : Option Unit :=
  some ()
noncomputable def M_cmp_Compare_string (x : List UInt8) (y_ : List UInt8) : Option Int :=
  Option.bind (M_cmp_isNaN_string x) fun () =>
  Option.bind (M_cmp_isNaN_string y_) fun () =>
  if (ltS x y_) = true then
    some (-1)
  else
  if ((ltS x y_) || (decide (x = y_))) = true then
    some 0
  else
    some 1
noncomputable def M_cmp_Or_int_v_b1 (vals : List Int) (t8 : Int) : Option (Int ⊕ (Unit ⊕ (Int))) :=
  if t8 < (vals.length : Int) then
    Option.bind (at? vals t8) fun x =>
    if x = 0 then
      if ok64 (t8 + 1) then
        some (.inl (t8 + 1))
      else none
    else
      some (.inr (.inr x))
  else
    some (.inr (.inl ()))
noncomputable def M_cmp_Or_int_v (vals : List Int) : Option Int :=
  Option.bind (loopO (fun z_ => M_cmp_Or_int_v_b1 vals z_) 0) fun o =>
  match o with
  | .inl () =>
    some 0
  | .inr r =>
    some r
noncomputable def M_inst_Cmp (a : G_api_Instance) (b : G_api_Instance) : Option Int :=
  Option.bind (M_cmp_Compare_uint64 a.Seq b.Seq) fun r1_2 =>
  Option.bind (M_inst_bit a.Gone) fun r1_3 =>
  Option.bind (M_inst_bit b.Gone) fun r1_4 =>
  Option.bind (M_cmp_Compare_int r1_3 r1_4) fun r1_5 =>
  Option.bind (M_cmp_Compare_uint64 a.Born b.Born) fun r1_6 =>
  Option.bind (M_cmp_Compare_uint32 a.Life b.Life) fun r1_7 =>
  Option.bind (M_bytes_Compare_vv (List.ofFn a.Publisher) (List.ofFn b.Publisher)) fun () =>
  Option.bind (M_cmp_Compare_uint16 a.Priority b.Priority) fun r1_8 =>
  Option.bind (M_cmp_Compare_uint16 a.Weight b.Weight) fun r1_9 =>
  Option.bind (M_cmp_Compare_uint16 a.Port b.Port) fun r1_10 =>
  Option.bind (M_cmp_Compare_string a.Target b.Target) fun r1_11 =>
  Option.bind (M_cmp_Or_int_v [r1_2, r1_5, r1_6, r1_7, Lib.compareBytes (List.ofFn a.Publisher) (List.ofFn b.Publisher), r1_8, r1_9, r1_10, r1_11]) fun r1_12 =>
  some r1_12
noncomputable def M_inst_Stone (i : G_api_Instance) : Option G_api_Instance :=
  if i.Seq = 18446744073709551615 then
    some (G_api_Instance.mk i.Publisher i.Seq i.Born i.Life true 0 0 0 ([] : List UInt8))
  else
    some (G_api_Instance.mk i.Publisher (i.Seq + 1) i.Born i.Life true 0 0 0 ([] : List UInt8))
noncomputable def M_signpostlaw11_InstLife_k2 (a : G_api_Instance) : Option (Bool) :=
  Option.bind (M_inst_Stone a) fun r1_28 =>
  Option.bind (M_inst_Good a) fun r1_29 =>
  if r1_29 = true then
    Option.bind (M_inst_Good r1_28) fun r1_30 =>
    if r1_30 = true then
      if r1_28.Gone = true then
        if a.Seq = 18446744073709551615 then
          Option.bind (M_inst_End r1_28) fun r1_31 =>
          Option.bind (M_inst_End a) fun r1_32 =>
          if r1_31 = r1_32 then
            Option.bind (M_signpostlaw11_lives) fun r1_33 =>
            some r1_33
          else
            some false
        else
        Option.bind (M_inst_Cmp r1_28 a) fun r1_34 =>
        if (0 : Int) < r1_34 then
          Option.bind (M_inst_End r1_28) fun r1_35 =>
          Option.bind (M_inst_End a) fun r1_36 =>
          if r1_35 = r1_36 then
            Option.bind (M_signpostlaw11_lives) fun r1_37 =>
            some r1_37
          else
            some false
        else
          some false
      else
        some false
    else
      some false
  else
  if a.Seq = 18446744073709551615 then
    Option.bind (M_inst_End r1_28) fun r1_38 =>
    Option.bind (M_inst_End a) fun r1_39 =>
    if r1_38 = r1_39 then
      Option.bind (M_signpostlaw11_lives) fun r1_40 =>
      some r1_40
    else
      some false
  else
  Option.bind (M_inst_Cmp r1_28 a) fun r1_41 =>
  if (0 : Int) < r1_41 then
    Option.bind (M_inst_End r1_28) fun r1_42 =>
    Option.bind (M_inst_End a) fun r1_43 =>
    if r1_42 = r1_43 then
      Option.bind (M_signpostlaw11_lives) fun r1_44 =>
      some r1_44
    else
      some false
  else
    some false
noncomputable def M_signpostlaw11_InstLife_k1 (a : G_api_Instance) (b : G_api_Instance) (c : G_api_Instance) : Option (Bool) :=
  if a.Target.length ≤ maxLen then
    if b.Target.length ≤ maxLen then
      Option.bind (M_inst_Cmp a b) fun r1_22 =>
      if (decide (r1_22 = 0)) = (decide (a = b)) then
        Option.bind (M_inst_Cmp a b) fun r1_23 =>
        Option.bind (M_inst_Cmp b a) fun r1_24 =>
        if ok64 (-r1_24) then
          if r1_23 = (-r1_24) then
            Option.bind (M_inst_Cmp a b) fun r1_25 =>
            if (0 : Int) < r1_25 then
              Option.bind (M_inst_Cmp b c) fun r1_26 =>
              if (0 : Int) < r1_26 then
                Option.bind (M_inst_Cmp a c) fun r1_27 =>
                if r1_27 ≤ 0 then
                  some false
                else
                  M_signpostlaw11_InstLife_k2 a
              else
                M_signpostlaw11_InstLife_k2 a
            else
              M_signpostlaw11_InstLife_k2 a
          else
            some false
        else none
      else
        some false
    else none
  else none
noncomputable def M_signpostlaw11_InstLife (a : G_api_Instance) (b : G_api_Instance) (c : G_api_Instance) (now : UInt64) (more : UInt64) : Option Bool :=
  if ok64 ((a.Target.length : Int) + (b.Target.length : Int)) then
    if ok64 (((a.Target.length : Int) + (b.Target.length : Int)) + (c.Target.length : Int)) then
      if (3000 : Int) < (((a.Target.length : Int) + (b.Target.length : Int)) + (c.Target.length : Int)) then
        Option.bind (M_signpostlaw11_lives) fun r1_2 =>
        some r1_2
      else
      Option.bind (M_inst_Left a now) fun r1_3 =>
      if a.Life < r1_3 then
        some false
      else
      Option.bind (M_inst_Over a now) fun r1_4 =>
      if r1_4 = true then
        Option.bind (M_inst_Alive a now) fun r1_5 =>
        if r1_5 = true then
          some false
        else
        if now < more then
          Option.bind (M_inst_Over a now) fun r1_6 =>
          if r1_6 = true then
            Option.bind (M_inst_Over a more) fun r1_7 =>
            if r1_7 = true then
              Option.bind (M_inst_Left a now) fun r1_8 =>
              Option.bind (M_inst_Alive a now) fun r1_9 =>
              if (decide ((0 : UInt32) < r1_8)) = r1_9 then
                M_signpostlaw11_InstLife_k1 a b c
              else
                some false
            else
              some false
          else
          Option.bind (M_inst_Left a now) fun r1_10 =>
          Option.bind (M_inst_Alive a now) fun r1_11 =>
          if (decide ((0 : UInt32) < r1_10)) = r1_11 then
            M_signpostlaw11_InstLife_k1 a b c
          else
            some false
        else
        Option.bind (M_inst_Left a now) fun r1_12 =>
        Option.bind (M_inst_Alive a now) fun r1_13 =>
        if (decide ((0 : UInt32) < r1_12)) = r1_13 then
          M_signpostlaw11_InstLife_k1 a b c
        else
          some false
      else
      if now < more then
        Option.bind (M_inst_Over a now) fun r1_14 =>
        if r1_14 = true then
          Option.bind (M_inst_Over a more) fun r1_15 =>
          if r1_15 = true then
            Option.bind (M_inst_Left a now) fun r1_16 =>
            Option.bind (M_inst_Alive a now) fun r1_17 =>
            if (decide ((0 : UInt32) < r1_16)) = r1_17 then
              M_signpostlaw11_InstLife_k1 a b c
            else
              some false
          else
            some false
        else
        Option.bind (M_inst_Left a now) fun r1_18 =>
        Option.bind (M_inst_Alive a now) fun r1_19 =>
        if (decide ((0 : UInt32) < r1_18)) = r1_19 then
          M_signpostlaw11_InstLife_k1 a b c
        else
          some false
      else
      Option.bind (M_inst_Left a now) fun r1_20 =>
      Option.bind (M_inst_Alive a now) fun r1_21 =>
      if (decide ((0 : UInt32) < r1_20)) = r1_21 then
        M_signpostlaw11_InstLife_k1 a b c
      else
        some false
    else none
  else none
end Go.Proofs.Ytgabplankmljfaa
