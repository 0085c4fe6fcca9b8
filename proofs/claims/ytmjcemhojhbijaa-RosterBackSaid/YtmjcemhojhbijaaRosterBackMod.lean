/-
  What the functions that the statement RosterBack reaches compute, each as a Lean function. No condition.
-/
import Derived.Test.YtmjcemhojhbijaaBRange
import Derived.Test.YtmjcemhojhbijaaBIns
namespace Go.Proofs.Ytmjcemhojhbijaa
open Go Go.RowKit
set_option linter.unusedVariables false
set_option linter.unusedSimpArgs false
set_option linter.unnecessarySimpa false
structure G_api_Instance where
  Publisher : Fin 20 → UInt8
  Seq : UInt64
  Born : UInt64
  Life : UInt32
  Gone : Bool
  Priority : UInt16
  Weight : UInt16
  Port : UInt16
  Target : List UInt8
  deriving DecidableEq
def el_G_api_Instance : El G_api_Instance := ⟨fun x => (bytesV (List.ofFn (n := 20) x.Publisher) ++ ([(v64 x.Seq), (v64 x.Born), (v32 x.Life), (.bool x.Gone), (v16 x.Priority), (v16 x.Weight), (v16 x.Port), (.string (str x.Target))] : List Value)), 28, fun x => by simp [bytesV_length], fun x => (List.forall_mem_append.2 ⟨(bytesV_one _), (List.forall_mem_cons.2 ⟨rfl, (List.forall_mem_cons.2 ⟨rfl, (List.forall_mem_cons.2 ⟨rfl, (List.forall_mem_cons.2 ⟨rfl, (List.forall_mem_cons.2 ⟨rfl, (List.forall_mem_cons.2 ⟨rfl, (List.forall_mem_cons.2 ⟨rfl, (List.forall_mem_cons.2 ⟨rfl, (fun _ hh => by cases hh)⟩)⟩)⟩)⟩)⟩)⟩)⟩)⟩)⟩)⟩
def G_api_Instance_wf (x : G_api_Instance) : Prop := x.Target.length ≤ 140737488351232
noncomputable def M_signpostlaw12_Light_v_b1 (l : List G_api_Instance) (t7 : Int) : Option (Int ⊕ (Unit ⊕ (Bool))) :=
  if t7 < (l.length : Int) then
    Option.bind (at? l t7) fun x =>
    if (300 : Int) < (x.Target.length : Int) then
      some (.inr (.inr false))
    else
    if ok64 (t7 + 1) then
      some (.inl (t7 + 1))
    else none
  else
    some (.inr (.inl ()))
noncomputable def M_signpostlaw12_Light_v (l : List G_api_Instance) : Option Bool :=
  Option.bind (loopO (fun z_ => M_signpostlaw12_Light_v_b1 l z_) 0) fun o =>
  match o with
  | .inl () =>
    some (decide ((l.length : Int) ≤ 40))
  | .inr r =>
    some r
noncomputable def M_label_parts (s : List UInt8) : Option Unit :=
  some ()
noncomputable def M_stringslite_IndexByte (s : List UInt8) (c : UInt8) : Option Unit :=
  some ()
noncomputable def M_stringslite_Index (s : List UInt8) : Option Int :=
  if ([46] : List UInt8) = s then
    some 0
  else
  Option.bind (at? ([46] : List UInt8) 0) fun c =>
  Option.bind (M_stringslite_IndexByte s c) fun () =>
  some (Lib.indexByte s c)
noncomputable def M_stringslite_Cut (s : List UInt8) : Option (List UInt8 × List UInt8 × Bool) :=
  Option.bind (M_stringslite_Index s) fun r1_2 =>
  if (0 : Int) ≤ r1_2 then
    if ((0 : Int) ≤ 0 ∧ (0 : Int) ≤ r1_2) ∧ r1_2 ≤ (s.length : Int) then
      if ok64 (r1_2 + 1) then
        if ((0 : Int) ≤ (r1_2 + 1) ∧ (r1_2 + 1) ≤ (s.length : Int)) ∧ (s.length : Int) ≤ (s.length : Int) then
          some (s.take r1_2.toNat, s.drop ((r1_2 + 1).toNat), true)
        else none
      else none
    else none
  else
    some (s, ([] : List UInt8), false)
noncomputable def M_strings_Cut (s : List UInt8) : Option (List UInt8 × List UInt8 × Bool) :=
  Option.bind (M_stringslite_Cut s) fun (r1_2, r2_2, r3_2) =>
  some (r1_2, r2_2, r3_2)
noncomputable def M_label_parts_1_p_b1 {σ_ ρ_ : Type} (f_ : σ_ → (List UInt8) → Option (σ_ ⊕ ρ_)) (z : σ_) (t1 : List UInt8) : Option ((σ_ × List UInt8) ⊕ (σ_ ⊕ ρ_)) :=
  Option.bind (M_strings_Cut t1) fun (r1, r2, r3) =>
  Option.bind (f_ z r1) fun y__2 =>
  match y__2 with
  | .inl z_2 =>
    if r3 = true then
      some (.inl (z_2, r2))
    else
      some (.inr (.inl z_2))
  | .inr x_2 =>
    some (.inr (.inr x_2))
noncomputable def M_label_parts_1_p {σ_ ρ_ : Type} (f_ : σ_ → (List UInt8) → Option (σ_ ⊕ ρ_)) (x : List UInt8) (z_ : σ_) : Option (σ_ ⊕ ρ_) :=
  Option.bind (loopO (fun z_ => M_label_parts_1_p_b1 f_ z_.1 z_.2) (z_, x)) fun o =>
  match o with
  | r =>
    some r
noncomputable def M_label_plain_k2 (c : UInt8) : Option (Bool) :=
  if (48 : UInt8) ≤ c then
    if c ≤ 57 then
      some true
    else
    if c = 45 then
      some true
    else
      some (decide (c = 95))
  else
  if c = 45 then
    some true
  else
    some (decide (c = 95))
noncomputable def M_label_plain_k1 (c : UInt8) : Option (Bool) :=
  if (65 : UInt8) ≤ c then
    if c ≤ 90 then
      some true
    else
      M_label_plain_k2 c
  else
    M_label_plain_k2 c
noncomputable def M_label_plain (c : UInt8) : Option Bool :=
  if (97 : UInt8) ≤ c then
    if c ≤ 122 then
      some true
    else
      M_label_plain_k1 c
  else
    M_label_plain_k1 c
noncomputable def M_label_Part_b2 (s : List UInt8) (t29 : Int) : Option (Int ⊕ (Unit ⊕ (Bool))) :=
  if t29 < (s.length : Int) then
    Option.bind (at? s t29) fun x =>
    Option.bind (M_label_plain x) fun r1_2 =>
    if r1_2 = true then
      if ok64 (t29 + 1) then
        some (.inl (t29 + 1))
      else none
    else
      some (.inr (.inr false))
  else
    some (.inr (.inl ()))
noncomputable def M_label_Part_k1 (s : List UInt8) (t25 : Bool) : Option (Bool) :=
  if t25 = true then
    some false
  else
  if s.length ≤ 140737488355328 then
    Option.bind (loopO (fun z_ => M_label_Part_b2 s z_) 0) fun o =>
    match o with
    | .inl () =>
      some true
    | .inr r =>
      some r
  else none
noncomputable def M_label_Part (s : List UInt8) : Option Bool :=
  if (s.length : Int) < 1 then
    M_label_Part_k1 s true
  else
  if (63 : Int) < (s.length : Int) then
    M_label_Part_k1 s true
  else
  Option.bind (at? s 0) fun c =>
  if c = 45 then
    M_label_Part_k1 s true
  else
  if ok64 ((s.length : Int) - 1) then
    Option.bind (at? s ((s.length : Int) - 1)) fun c_2 =>
    M_label_Part_k1 s (decide (c_2 = 45))
  else none
noncomputable def M_label_Good_r1 (x : List UInt8) : Option (Unit ⊕ Unit) :=
  Option.bind (M_label_Part x) fun r1_2 =>
  if r1_2 = true then
    some (.inl ())
  else
    some (.inr ())
noncomputable def M_label_Good (s : List UInt8) : Option Bool :=
  if (253 : Int) < (s.length : Int) then
    some false
  else
  Option.bind (M_label_parts s) fun () =>
  Option.bind (M_label_parts_1_p (fun (_ : Unit) x => M_label_Good_r1 x) s ()) fun o =>
  match o with
  | .inl () =>
    some true
  | .inr () =>
    some false
noncomputable def M_label_Fold_k2 (b : List UInt8) (t10 : Int) (x : UInt8) (t20 : Bool) : Option ((List UInt8 × Int) ⊕ (List UInt8)) :=
  if t20 = true then
    Option.bind (at? b t10) fun x_2 =>
    if ok64 (t10 + 1) then
      some (.inl (b.set t10.toNat (x ||| 32), t10 + 1))
    else none
  else
  if ok64 (t10 + 1) then
    some (.inl (b, t10 + 1))
  else none
noncomputable def M_label_Fold_b1 (s : List UInt8) (b : List UInt8) (t10 : Int) : Option ((List UInt8 × Int) ⊕ (List UInt8)) :=
  if t10 < (s.length : Int) then
    Option.bind (at? b t10) fun x =>
    if (65 : UInt8) ≤ x then
      M_label_Fold_k2 b t10 x (decide (x ≤ 90))
    else
      M_label_Fold_k2 b t10 x false
  else
    some (.inr b)
noncomputable def M_label_Fold (s : List UInt8) : Option (List UInt8) :=
  if s.length ≤ 140737488355328 then
    Option.bind (loopO (fun z_ => M_label_Fold_b1 s z_.1 z_.2) (s, 0)) fun o =>
    match o with
    | b_2 =>
      some b_2
  else none
noncomputable def M_inst_Good_k1 (i : G_api_Instance) (t11 : Bool) : Option (Bool) :=
  if t11 = true then
    some false
  else
  if i.Gone = true then
    if i.Target.length ≤ maxLen then
      some (decide ((G_api_Instance.mk i.Publisher i.Seq i.Born i.Life i.Gone 0 0 0 ([] : List UInt8)) = i))
    else none
  else
  if i.Port = 0 then
    some false
  else
  Option.bind (M_label_Good i.Target) fun r1_2 =>
  if r1_2 = true then
    Option.bind (M_label_Fold i.Target) fun r1_3 =>
    some (decide (r1_3 = i.Target))
  else
    some false
noncomputable def M_inst_Good (i : G_api_Instance) : Option Bool :=
  if i.Life < 1 then
    M_inst_Good_k1 i true
  else
    M_inst_Good_k1 i (decide ((2147483647 : UInt32) < i.Life))
noncomputable def M_bytes_Compare_vv (a2 : List UInt8) (b : List UInt8) : Option Unit :=
  some ()
noncomputable def M_roster_order (i : G_api_Instance) (publisher : Fin 20 → UInt8) : Option Unit :=
  Option.bind (M_bytes_Compare_vv (List.ofFn i.Publisher) (List.ofFn publisher)) fun () =>
  some ()
noncomputable def M_roster_Good_v_b1 (l : List G_api_Instance) (t7 : Int) : Option (Int ⊕ (Unit ⊕ (Bool))) :=
  if t7 < (l.length : Int) then
    Option.bind (at? l t7) fun x =>
    Option.bind (M_inst_Good x) fun r1_2 =>
    if r1_2 = true then
      if (0 : Int) < t7 then
        if ok64 (t7 - 1) then
          Option.bind (at? l (t7 - 1)) fun x_2 =>
          Option.bind (M_roster_order x_2 x.Publisher) fun () =>
          if (0 : Int) ≤ (Lib.compareBytes (List.ofFn x_2.Publisher) (List.ofFn x.Publisher)) then
            some (.inr (.inr false))
          else
          if ok64 (t7 + 1) then
            some (.inl (t7 + 1))
          else none
        else none
      else
      if ok64 (t7 + 1) then
        some (.inl (t7 + 1))
      else none
    else
      some (.inr (.inr false))
  else
    some (.inr (.inl ()))
noncomputable def M_roster_Good_v (l : List G_api_Instance) : Option Bool :=
  Option.bind (loopO (fun z_ => M_roster_Good_v_b1 l z_) 0) fun o =>
  match o with
  | .inl () =>
    some (decide ((l.length : Int) ≤ 16))
  | .inr r =>
    some r
noncomputable def M_slices_BinarySearchFunc_ID_v_roster_order_b1 (target : Fin 20 → UInt8) (x : List G_api_Instance) (i : Int) (j : Int) : Option ((Int × Int) ⊕ Int) :=
  if i < j then
    if ok64 (i + j) then
      if (shr64 (UInt64.ofInt (i + j)) 1).toNat < 9223372036854775808 then
        Option.bind (at? x ((shr64 (UInt64.ofInt (i + j)) 1).toNat : Int)) fun x_2 =>
        Option.bind (M_roster_order x_2 target) fun () =>
        if (Lib.compareBytes (List.ofFn x_2.Publisher) (List.ofFn target)) < 0 then
          if ok64 (((shr64 (UInt64.ofInt (i + j)) 1).toNat : Int) + 1) then
            some (.inl (((shr64 (UInt64.ofInt (i + j)) 1).toNat : Int) + 1, j))
          else none
        else
          some (.inl (i, ((shr64 (UInt64.ofInt (i + j)) 1).toNat : Int)))
      else none
    else none
  else
    some (.inr i)
noncomputable def M_slices_BinarySearchFunc_ID_v_roster_order (x : List G_api_Instance) (target : Fin 20 → UInt8) : Option (Int × Bool) :=
  Option.bind (loopO (fun z_ => M_slices_BinarySearchFunc_ID_v_roster_order_b1 target x z_.1 z_.2) (0, (x.length : Int))) fun o =>
  match o with
  | i_2 =>
    if i_2 < (x.length : Int) then
      Option.bind (at? x i_2) fun x_3 =>
      Option.bind (M_roster_order x_3 target) fun () =>
      some (i_2, decide ((Lib.compareBytes (List.ofFn x_3.Publisher) (List.ofFn target)) = 0))
    else
      some (i_2, false)
noncomputable def M_cmp_isNaN_uint64 (x : UInt64) : Option Unit :=
  some ()
noncomputable def M_cmp_Compare_uint64 (x : UInt64) (y_ : UInt64) : Option Int :=
  Option.bind (M_cmp_isNaN_uint64 x) fun () =>
  Option.bind (M_cmp_isNaN_uint64 y_) fun () =>
  if x < y_ then
    some (-1)
  else
  if y_ < x then
    some 1
  else
    some 0
noncomputable def M_inst_bit (is : Bool) : Option Int :=
  if is = true then
    some 1
  else
    some 0
noncomputable def M_cmp_isNaN_int (x : Int) : Option Unit :=
  some ()
noncomputable def M_cmp_Compare_int (x : Int) (y_ : Int) : Option Int :=
  Option.bind (M_cmp_isNaN_int x) fun () =>
  Option.bind (M_cmp_isNaN_int y_) fun () =>
  if x < y_ then
    some (-1)
  else
  if y_ < x then
    some 1
  else
    some 0
noncomputable def M_cmp_isNaN_uint32 (x : UInt32) : Option Unit :=
  some ()
noncomputable def M_cmp_Compare_uint32 (x : UInt32) (y_ : UInt32) : Option Int :=
  Option.bind (M_cmp_isNaN_uint32 x) fun () =>
  Option.bind (M_cmp_isNaN_uint32 y_) fun () =>
  if x < y_ then
    some (-1)
  else
  if y_ < x then
    some 1
  else
    some 0
noncomputable def M_cmp_isNaN_uint16 (x : UInt16) : Option Unit :=
  some ()
noncomputable def M_cmp_Compare_uint16 (x : UInt16) (y_ : UInt16) : Option Int :=
  Option.bind (M_cmp_isNaN_uint16 x) fun () =>
  Option.bind (M_cmp_isNaN_uint16 y_) fun () =>
  if x < y_ then
    some (-1)
  else
  if y_ < x then
    some 1
  else
    some 0
noncomputable def M_cmp_isNaN_string (x : List UInt8) : Option Unit :=
  some ()
noncomputable def M_cmp_Compare_string (x : List UInt8) (y_ : List UInt8) : Option Int :=
  Option.bind (M_cmp_isNaN_string x) fun () =>
  Option.bind (M_cmp_isNaN_string y_) fun () =>
  if (ltS x y_) = true then
    some (-1)
  else
  if ((ltS x y_) || (decide (x = y_))) = true then
    some 0
  else
    some 1
noncomputable def M_cmp_Or_int_v_b1 (vals : List Int) (t8 : Int) : Option (Int ⊕ (Unit ⊕ (Int))) :=
  if t8 < (vals.length : Int) then
    Option.bind (at? vals t8) fun x =>
    if x = 0 then
      if ok64 (t8 + 1) then
        some (.inl (t8 + 1))
      else none
    else
      some (.inr (.inr x))
  else
    some (.inr (.inl ()))
noncomputable def M_cmp_Or_int_v (vals : List Int) : Option Int :=
  Option.bind (loopO (fun z_ => M_cmp_Or_int_v_b1 vals z_) 0) fun o =>
  match o with
  | .inl () =>
    some 0
  | .inr r =>
    some r
noncomputable def M_inst_Cmp (a : G_api_Instance) (b : G_api_Instance) : Option Int :=
  Option.bind (M_cmp_Compare_uint64 a.Seq b.Seq) fun r1_2 =>
  Option.bind (M_inst_bit a.Gone) fun r1_3 =>
  Option.bind (M_inst_bit b.Gone) fun r1_4 =>
  Option.bind (M_cmp_Compare_int r1_3 r1_4) fun r1_5 =>
  Option.bind (M_cmp_Compare_uint64 a.Born b.Born) fun r1_6 =>
  Option.bind (M_cmp_Compare_uint32 a.Life b.Life) fun r1_7 =>
  Option.bind (M_bytes_Compare_vv (List.ofFn a.Publisher) (List.ofFn b.Publisher)) fun () =>
  Option.bind (M_cmp_Compare_uint16 a.Priority b.Priority) fun r1_8 =>
  Option.bind (M_cmp_Compare_uint16 a.Weight b.Weight) fun r1_9 =>
  Option.bind (M_cmp_Compare_uint16 a.Port b.Port) fun r1_10 =>
  Option.bind (M_cmp_Compare_string a.Target b.Target) fun r1_11 =>
  Option.bind (M_cmp_Or_int_v [r1_2, r1_5, r1_6, r1_7, Lib.compareBytes (List.ofFn a.Publisher) (List.ofFn b.Publisher), r1_8, r1_9, r1_10, r1_11]) fun r1_12 =>
  some r1_12
noncomputable def M_slices_Insert_Instance_ov (s : List G_api_Instance) (i : Int) (v : List G_api_Instance) : Option (List G_api_Instance) :=
  if (0 : Int) ≤ i ∧ i ≤ (s.length : Int) then
    if (v.length : Int) = 0 then
      some s
    else
    if i = (s.length : Int) then
      if (s.length + v.length) * 72 ≤ 140737488355328 then
        some (s ++ v)
      else none
    else
    if ok64 ((s.length : Int) + (v.length : Int)) then
      if (0 : Int) ≤ i ∧ i ≤ (s.length : Int) then
        if ok64 ((s.length : Int) + (v.length : Int)) then
          if ok64 (((s.length : Int) + (v.length : Int)) - i) then
            if (0 : Int) ≤ (((s.length : Int) + (v.length : Int)) - i) ∧ (((s.take i.toNat).length : Int) + (((s.length : Int) + (v.length : Int)) - i)) * 72 ≤ 140737488355328 then
              if (0 : Int) ≤ i ∧ i ≤ (((s.take i.toNat) ++ (List.replicate ((((s.length : Int) + (v.length : Int)) - i).toNat) (G_api_Instance.mk (fun _ => 0) 0 0 0 false 0 0 0 ([] : List UInt8)))).length : Int) then
                if ok64 (i + (v.length : Int)) then
                  if (0 : Int) ≤ (i + (v.length : Int)) ∧ (i + (v.length : Int)) ≤ (((s.take i.toNat) ++ (List.replicate ((((s.length : Int) + (v.length : Int)) - i).toNat) (G_api_Instance.mk (fun _ => 0) 0 0 0 false 0 0 0 ([] : List UInt8)))).length : Int) then
                    if (0 : Int) ≤ i ∧ i ≤ (s.length : Int) then
                      some (copyL (copyL ((s.take i.toNat) ++ (List.replicate ((((s.length : Int) + (v.length : Int)) - i).toNat) (G_api_Instance.mk (fun _ => 0) 0 0 0 false 0 0 0 ([] : List UInt8)))) i.toNat (v.take (min v.length ((((s.take i.toNat) ++ (List.replicate ((((s.length : Int) + (v.length : Int)) - i).toNat) (G_api_Instance.mk (fun _ => 0) 0 0 0 false 0 0 0 ([] : List UInt8)))).drop i.toNat).length)))) ((i + (v.length : Int)).toNat) ((s.drop i.toNat).take (min ((s.drop i.toNat).length) (((copyL ((s.take i.toNat) ++ (List.replicate ((((s.length : Int) + (v.length : Int)) - i).toNat) (G_api_Instance.mk (fun _ => 0) 0 0 0 false 0 0 0 ([] : List UInt8)))) i.toNat (v.take (min v.length ((((s.take i.toNat) ++ (List.replicate ((((s.length : Int) + (v.length : Int)) - i).toNat) (G_api_Instance.mk (fun _ => 0) 0 0 0 false 0 0 0 ([] : List UInt8)))).drop i.toNat).length)))).drop ((i + (v.length : Int)).toNat)).length))))
                    else none
                  else none
                else none
              else none
            else none
          else none
        else none
      else none
    else none
  else none
noncomputable def M_inst_End (i : G_api_Instance) : Option UInt64 :=
  if (18446744073709551615 - i.Life.toUInt64) < i.Born then
    some 18446744073709551615
  else
    some (i.Born + i.Life.toUInt64)
noncomputable def M_roster_first_v_b1 (l : List G_api_Instance) (at_ : Int) (t8 : Int) : Option ((Int × Int) ⊕ Int) :=
  if t8 < (l.length : Int) then
    Option.bind (at? l t8) fun x =>
    Option.bind (at? l at_) fun x_2 =>
    Option.bind (M_inst_End x) fun r1_2 =>
    Option.bind (M_inst_End x_2) fun r1_3 =>
    if r1_2 ≤ r1_3 then
      if ok64 (t8 + 1) then
        some (.inl (t8, t8 + 1))
      else none
    else
    if ok64 (t8 + 1) then
      some (.inl (at_, t8 + 1))
    else none
  else
    some (.inr at_)
noncomputable def M_roster_first_v (l : List G_api_Instance) : Option Int :=
  Option.bind (loopO (fun z_ => M_roster_first_v_b1 l z_.1 z_.2) (0, 0)) fun o =>
  match o with
  | at__2 =>
    some at__2
noncomputable def M_slices_Delete_Instance_o (s : List G_api_Instance) (i : Int) (j : Int) : Option (List G_api_Instance) :=
  if (((0 : Int) ≤ i ∧ i ≤ j) ∧ j ≤ (s.length : Int)) ∧ j ≤ (s.length : Int) ∧ (s.length : Int) ≤ (s.length : Int) then
    if i = j then
      some s
    else
    if (0 : Int) ≤ i ∧ i ≤ (s.length : Int) then
      if (0 : Int) ≤ j ∧ j ≤ (s.length : Int) then
        if ((s.take i.toNat).length + (s.drop j.toNat).length) * 72 ≤ 140737488355328 then
          some ((s.take i.toNat) ++ (s.drop j.toNat))
        else none
      else none
    else none
  else none
noncomputable def M_roster_Put_v_k2 (i : G_api_Instance) (l : List G_api_Instance) (r1_4 : Int) (r2_2 : Bool) : Option (Unit ⊕ (List G_api_Instance × Bool)) :=
  if ((0 : Int) ≤ (l.length : Int) ∧ (l.length : Int) ≤ (l.length : Int)) ∧ (l.length : Int) * 72 ≤ 140737488355328 then
    if r2_2 = true then
      Option.bind (at? (copyL (List.replicate l.length (G_api_Instance.mk (fun _ => 0) 0 0 0 false 0 0 0 ([] : List UInt8))) 0 (l.take (min l.length ((List.replicate l.length (G_api_Instance.mk (fun _ => 0) 0 0 0 false 0 0 0 ([] : List UInt8))).length)))) r1_4) fun x_2 =>
      some (.inr ((copyL (List.replicate l.length (G_api_Instance.mk (fun _ => 0) 0 0 0 false 0 0 0 ([] : List UInt8))) 0 (l.take (min l.length ((List.replicate l.length (G_api_Instance.mk (fun _ => 0) 0 0 0 false 0 0 0 ([] : List UInt8))).length)))).set r1_4.toNat i, true))
    else
    Option.bind (M_slices_Insert_Instance_ov (copyL (List.replicate l.length (G_api_Instance.mk (fun _ => 0) 0 0 0 false 0 0 0 ([] : List UInt8))) 0 (l.take (min l.length ((List.replicate l.length (G_api_Instance.mk (fun _ => 0) 0 0 0 false 0 0 0 ([] : List UInt8))).length)))) r1_4 [i]) fun r3_2 =>
    if (r3_2.length : Int) ≤ 16 then
      some (.inr (r3_2, true))
    else
    Option.bind (M_roster_first_v r3_2) fun r1_6 =>
    if ok64 (r1_6 + 1) then
      Option.bind (M_slices_Delete_Instance_o r3_2 r1_6 (r1_6 + 1)) fun r1_7 =>
      some (.inr (r1_7, !(decide (r1_6 = r1_4))))
    else none
  else none
noncomputable def M_roster_Put_v_k1 (i : G_api_Instance) (l : List G_api_Instance) (t17 : Bool) : Option (Unit ⊕ (List G_api_Instance × Bool)) :=
  if t17 = true then
    some (.inl ())
  else
  Option.bind (M_slices_BinarySearchFunc_ID_v_roster_order l i.Publisher) fun (r1_4, r2_2) =>
  if r2_2 = true then
    Option.bind (at? l r1_4) fun x =>
    Option.bind (M_inst_Cmp i x) fun r1_5 =>
    if r1_5 ≤ 0 then
      some (.inl ())
    else
      M_roster_Put_v_k2 i l r1_4 r2_2
  else
    M_roster_Put_v_k2 i l r1_4 r2_2
noncomputable def M_roster_Put_v (l : List G_api_Instance) (i : G_api_Instance) : Option (Unit ⊕ (List G_api_Instance × Bool)) :=
  Option.bind (M_roster_Good_v l) fun r1_2 =>
  if r1_2 = true then
    Option.bind (M_inst_Good i) fun r1_3 =>
    M_roster_Put_v_k1 i l (!r1_3)
  else
    M_roster_Put_v_k1 i l true
noncomputable def M_signpostlaw12_lives  : Option Bool :=
  Option.bind (M_roster_Put_v ([] : List G_api_Instance) (G_api_Instance.mk (fun _ => 0) 1 0 5 false 0 0 80 ([97] : List UInt8))) fun y_ =>
  match y_ with
  | .inl () =>
    Option.bind (M_roster_Put_v ([] : List G_api_Instance) (G_api_Instance.mk (fun _ => 0) 2 0 5 false 0 0 80 ([97] : List UInt8))) fun y__2 =>
    match y__2 with
    | .inl () =>
      some false
    | .inr (r3_2, r4_2) =>
      some false
  | .inr (r3_3, r4_3) =>
    Option.bind (M_roster_Put_v r3_3 (G_api_Instance.mk (fun _ => 0) 2 0 5 false 0 0 80 ([97] : List UInt8))) fun y__3 =>
    match y__3 with
    | .inl () =>
      if r4_3 = true then
        some false
      else
        some false
    | .inr (r3_4, r4_4) =>
      if r4_3 = true then
        if r4_4 = true then
          if (r3_4.length : Int) = 1 then
            Option.bind (at? r3_4 0) fun x =>
            if x.Target.length ≤ maxLen then
              if x = (G_api_Instance.mk (fun _ => 0) 2 0 5 false 0 0 80 ([97] : List UInt8)) then
                Option.bind (M_roster_Good_v r3_4) fun r1_2 =>
                some r1_2
              else
                some false
            else none
          else
            some false
        else
          some false
      else
        some false
noncomputable def M_octet_may (width : Int) : Option Bool :=
  if (1 : Int) ≤ width then
    some (decide (width ≤ 8))
  else
    some false
noncomputable def M_octet_Put_v_b1 (n : UInt64) (width : Int) (out : List UInt8) (t17 : Int) : Option ((List UInt8 × Int) ⊕ (List UInt8)) :=
  if t17 < width then
    if ok64 (width - 1) then
      if ok64 ((width - 1) - t17) then
        if ok64 (8 * ((width - 1) - t17)) then
          if (out.length + 1) * 1 ≤ 140737488355328 then
            if ok64 (t17 + 1) then
              some (.inl (out ++ [(shr64 n ((UInt64.ofInt (8 * ((width - 1) - t17))).toNat)).toUInt8], t17 + 1))
            else none
          else none
        else none
      else none
    else none
  else
    some (.inr out)
noncomputable def M_octet_Put_v (b : List UInt8) (n : UInt64) (width : Int) : Option (List UInt8) :=
  if (0 + b.length) * 1 ≤ 140737488355328 then
    Option.bind (M_octet_may width) fun r1_2 =>
    if r1_2 = true then
      Option.bind (loopO (fun z_ => M_octet_Put_v_b1 n width z_.1 z_.2) (([] : List UInt8) ++ b, 0)) fun o =>
      match o with
      | out_2 =>
        some out_2
    else
      some (([] : List UInt8) ++ b)
  else none
noncomputable def M_bytes_Clone_v (b : List UInt8) : Option (List UInt8) :=
  if (0 + b.length) * 1 ≤ 140737488355328 then
    some (([] : List UInt8) ++ b)
  else none
noncomputable def M_inst_Bytes_1_po (n : UInt64) (width : Int) (x : List UInt8) : Option (List UInt8) :=
  Option.bind (M_octet_Put_v x n width) fun r3_2 =>
  some r3_2
noncomputable def M_octet_Text_v (b : List UInt8) (s : List UInt8) : Option (List UInt8 × Int) :=
  if (1024 : Int) < (s.length : Int) then
    some (([] : List UInt8), 11)
  else
  Option.bind (M_octet_Put_v b (UInt64.ofInt (s.length : Int)) 2) fun r3_2 =>
  if (r3_2.length + s.length) * 1 ≤ 140737488355328 then
    some (r3_2 ++ s, 0)
  else none
noncomputable def M_inst_Bytes (i : G_api_Instance) : Option (List UInt8 × Int) :=
  Option.bind (M_inst_Good i) fun r1_2 =>
  if r1_2 = true then
    Option.bind (M_bytes_Clone_v (List.ofFn i.Publisher)) fun r3_2 =>
    Option.bind (M_inst_Bytes_1_po i.Seq 8 r3_2) fun r3_3 =>
    Option.bind (M_inst_Bytes_1_po i.Born 8 r3_3) fun r3_4 =>
    Option.bind (M_inst_Bytes_1_po i.Life.toUInt64 4 r3_4) fun r3_5 =>
    if i.Gone = true then
      Option.bind (M_inst_Bytes_1_po 1 1 r3_5) fun r3_6 =>
      some (r3_6, 0)
    else
    Option.bind (M_inst_Bytes_1_po 0 1 r3_5) fun r3_7 =>
    Option.bind (M_inst_Bytes_1_po i.Priority.toUInt64 2 r3_7) fun r3_8 =>
    Option.bind (M_inst_Bytes_1_po i.Weight.toUInt64 2 r3_8) fun r3_9 =>
    Option.bind (M_inst_Bytes_1_po i.Port.toUInt64 2 r3_9) fun r3_10 =>
    Option.bind (M_octet_Text_v r3_10 i.Target) fun (r3_11, r4_2) =>
    some (r3_11, r4_2)
  else
    some (([] : List UInt8), 2)
noncomputable def M_roster_Bytes_v_b1 (l : List G_api_Instance) (out : List UInt8) (t18 : Int) : Option ((List UInt8 × Int) ⊕ (List UInt8)) :=
  if t18 < (l.length : Int) then
    Option.bind (at? l t18) fun x =>
    Option.bind (M_inst_Bytes x) fun (r3_3, r4_2) =>
    if (out.length + r3_3.length) * 1 ≤ 140737488355328 then
      if ok64 (t18 + 1) then
        some (.inl (out ++ r3_3, t18 + 1))
      else none
    else none
  else
    some (.inr out)
noncomputable def M_roster_Bytes_v (l : List G_api_Instance) : Option (List UInt8 × Int) :=
  Option.bind (M_roster_Good_v l) fun r1_2 =>
  if r1_2 = true then
    Option.bind (M_octet_Put_v ([] : List UInt8) (UInt64.ofInt (l.length : Int)) 1) fun r3_2 =>
    Option.bind (loopO (fun z_ => M_roster_Bytes_v_b1 l z_.1 z_.2) (r3_2, 0)) fun o =>
    match o with
    | out_2 =>
      some (out_2, 0)
  else
    some (([] : List UInt8), 2)
noncomputable def M_octet_Open_v (b : List UInt8) : Option Unit :=
  if (0 + b.length) * 1 ≤ 140737488355328 then
    some ()
  else none
noncomputable def M_octet_Reader_none_po (b2 : List UInt8) (open_ : Bool) (bad : Bool) : Option Unit :=
  some ()
noncomputable def M_octet_rest_fail_po (b2 : List UInt8) (open_ : Bool) (bad : Bool) : Option Unit :=
  some ()
noncomputable def M_octet_rest_cut_po_k1 (b2 : List UInt8) (bad : Bool) (n : Int) (open_ : Bool) (t23 : Bool) : Option (Unit ⊕ Unit) :=
  if t23 = true then
    Option.bind (M_octet_rest_fail_po b2 open_ bad) fun () =>
    some (.inl ())
  else
  if (0 : Int) ≤ n ∧ n ≤ (b2.length : Int) then
    if (0 : Int) ≤ n ∧ n ≤ (b2.length : Int) then
      some (.inr ())
    else none
  else none
noncomputable def M_octet_rest_cut_po (b2 : List UInt8) (open_ : Bool) (bad : Bool) (n : Int) : Option (Unit ⊕ Unit) :=
  if bad = true then
    M_octet_rest_cut_po_k1 b2 bad n open_ true
  else
  if n < 0 then
    M_octet_rest_cut_po_k1 b2 bad n open_ true
  else
    M_octet_rest_cut_po_k1 b2 bad n open_ (decide ((b2.length : Int) < n))
noncomputable def M_octet_Get_v_b2 (at_ : Int) (b : List UInt8) (width : Int) (n : UInt64) (t39 : Int) : Option ((UInt64 × Int) ⊕ UInt64) :=
  if t39 < (((b.take ((at_ + width).toNat)).drop at_.toNat).length : Int) then
    Option.bind (at? ((b.take ((at_ + width).toNat)).drop at_.toNat) t39) fun x =>
    if ok64 (t39 + 1) then
      some (.inl ((shl64 n 8) ||| x.toUInt64, t39 + 1))
    else none
  else
    some (.inr n)
noncomputable def M_octet_Get_v_k1 (at_ : Int) (b : List UInt8) (width : Int) (t31 : Bool) : Option (UInt64 × Bool) :=
  if t31 = true then
    some (0, false)
  else
  if ok64 (at_ + width) then
    if ((0 : Int) ≤ at_ ∧ at_ ≤ (at_ + width)) ∧ (at_ + width) ≤ (b.length : Int) then
      Option.bind (loopO (fun z_ => M_octet_Get_v_b2 at_ b width z_.1 z_.2) (0, 0)) fun o =>
      match o with
      | n_2 =>
        some (n_2, true)
    else none
  else none
noncomputable def M_octet_Get_v (b : List UInt8) (at_ : Int) (width : Int) : Option (UInt64 × Bool) :=
  Option.bind (M_octet_may width) fun r1_2 =>
  if r1_2 = true then
    if at_ < 0 then
      M_octet_Get_v_k1 at_ b width true
    else
    if (b.length : Int) < at_ then
      M_octet_Get_v_k1 at_ b width true
    else
    if ok64 ((b.length : Int) - at_) then
      M_octet_Get_v_k1 at_ b width (decide (((b.length : Int) - at_) < width))
    else none
  else
    M_octet_Get_v_k1 at_ b width true
noncomputable def M_octet_Reader_Num_po (b2 : List UInt8) (open_ : Bool) (bad : Bool) (width : Int) : Option (UInt64 × List UInt8 × Bool) :=
  Option.bind (M_octet_Reader_none_po b2 open_ bad) fun () =>
  if open_ = true then
    Option.bind (M_octet_may width) fun r1_2 =>
    if r1_2 = true then
      Option.bind (M_octet_rest_cut_po b2 open_ bad width) fun y_ =>
      match y_ with
      | .inl () =>
        some (0, ([] : List UInt8), true)
      | .inr () =>
        Option.bind (M_octet_Get_v (b2.take width.toNat) 0 width) fun (r1_3, r2_2) =>
        some (r1_3, b2.drop width.toNat, bad)
    else
    Option.bind (M_octet_rest_fail_po b2 open_ bad) fun () =>
    some (0, ([] : List UInt8), true)
  else
    some (0, b2, bad)
noncomputable def M_octet_Reader_Take_po (b2 : List UInt8) (open_ : Bool) (bad : Bool) (n : Int) : Option (List UInt8 × List UInt8 × Bool) :=
  Option.bind (M_octet_Reader_none_po b2 open_ bad) fun () =>
  if open_ = true then
    Option.bind (M_octet_rest_cut_po b2 open_ bad n) fun y_ =>
    match y_ with
    | .inl () =>
      some (([] : List UInt8), ([] : List UInt8), true)
    | .inr () =>
      if (0 + (b2.take n.toNat).length) * 1 ≤ 140737488355328 then
        some (([] : List UInt8) ++ (b2.take n.toNat), b2.drop n.toNat, bad)
      else none
  else
    some (([] : List UInt8), b2, bad)
noncomputable def M_octet_Reader_Text_po_k1 (open_ : Bool) (r1_2 : UInt64) (r4_2 : List UInt8) (r5_2 : Bool) (t24 : Bool) : Option (List UInt8 × List UInt8 × Bool) :=
  if t24 = true then
    Option.bind (M_octet_rest_fail_po r4_2 open_ r5_2) fun () =>
    some (([] : List UInt8), ([] : List UInt8), true)
  else
  Option.bind (M_octet_Reader_Take_po r4_2 open_ r5_2 (r1_2.toNat : Int)) fun (r3_2, r6_2, r7_2) =>
  some (r3_2, r6_2, r7_2)
noncomputable def M_octet_Reader_Text_po (b2 : List UInt8) (open_ : Bool) (bad : Bool) (most : Int) : Option (List UInt8 × List UInt8 × Bool) :=
  Option.bind (M_octet_Reader_none_po b2 open_ bad) fun () =>
  if open_ = true then
    Option.bind (M_octet_Reader_Num_po b2 open_ bad 2) fun (r1_2, r4_2, r5_2) =>
    if r1_2.toNat < 9223372036854775808 then
      if r5_2 = true then
        M_octet_Reader_Text_po_k1 open_ r1_2 r4_2 r5_2 true
      else
      if most < (r1_2.toNat : Int) then
        M_octet_Reader_Text_po_k1 open_ r1_2 r4_2 r5_2 true
      else
        M_octet_Reader_Text_po_k1 open_ r1_2 r4_2 r5_2 (decide ((1024 : Int) < (r1_2.toNat : Int)))
    else none
  else
    some (([] : List UInt8), b2, bad)
noncomputable def M_octet_Reader_Bad_po (b2 : List UInt8) (open_ : Bool) (bad : Bool) : Option Bool :=
  Option.bind (M_octet_Reader_none_po b2 open_ bad) fun () =>
  if open_ = true then
    some bad
  else
    some true
noncomputable def M_inst_Read_po_k2 (b_2 : List UInt8) (bad_2 : Bool) (i : G_api_Instance) (open_ : Bool) (t53 : Bool) : Option (G_api_Instance × Bool × List UInt8 × Bool) :=
  if t53 = true then
    Option.bind (M_octet_Reader_Take_po b_2 open_ bad_2 (-1)) fun (r3_3, r6_3, r7_3) =>
    some ((G_api_Instance.mk (fun _ => 0) 0 0 0 false 0 0 0 ([] : List UInt8)), false, r6_3, r7_3)
  else
    some (i, true, b_2, bad_2)
noncomputable def M_inst_Read_po_k1 (open_ : Bool) (r1_5 : UInt64) (b_2 : List UInt8) (bad_2 : Bool) (i : G_api_Instance) : Option (G_api_Instance × Bool × List UInt8 × Bool) :=
  Option.bind (M_octet_Reader_Bad_po b_2 open_ bad_2) fun r1_10 =>
  if r1_10 = true then
    M_inst_Read_po_k2 b_2 bad_2 i open_ true
  else
  if (1 : UInt64) < r1_5 then
    M_inst_Read_po_k2 b_2 bad_2 i open_ true
  else
  Option.bind (M_inst_Good i) fun r1_11 =>
  M_inst_Read_po_k2 b_2 bad_2 i open_ (!r1_11)
noncomputable def M_inst_Read_po (b2 : List UInt8) (open_ : Bool) (bad : Bool) : Option (G_api_Instance × Bool × List UInt8 × Bool) :=
  Option.bind (M_octet_Reader_Take_po b2 open_ bad 20) fun (r3_2, r6_2, r7_2) =>
  Option.bind (M_octet_Reader_Num_po r6_2 open_ r7_2 8) fun (r1_2, r4_2, r5_2) =>
  Option.bind (M_octet_Reader_Num_po r4_2 open_ r5_2 8) fun (r1_3, r4_3, r5_3) =>
  Option.bind (M_octet_Reader_Num_po r4_3 open_ r5_3 4) fun (r1_4, r4_4, r5_4) =>
  Option.bind (M_octet_Reader_Num_po r4_4 open_ r5_4 1) fun (r1_5, r4_5, r5_5) =>
  if r1_5 = 0 then
    Option.bind (M_octet_Reader_Num_po r4_5 open_ r5_5 2) fun (r1_6, r4_6, r5_6) =>
    Option.bind (M_octet_Reader_Num_po r4_6 open_ r5_6 2) fun (r1_7, r4_7, r5_7) =>
    Option.bind (M_octet_Reader_Num_po r4_7 open_ r5_7 2) fun (r1_8, r4_8, r5_8) =>
    Option.bind (M_octet_Reader_Text_po r4_8 open_ r5_8 1024) fun (r1_9, r4_9, r5_9) =>
    M_inst_Read_po_k1 open_ r1_5 r4_9 r5_9 (G_api_Instance.mk (copyA (fun _ => 0) r3_2) r1_2 r1_3 r1_4.toUInt32 (decide (r1_5 = 1)) r1_6.toUInt16 r1_7.toUInt16 r1_8.toUInt16 r1_9)
  else
    M_inst_Read_po_k1 open_ r1_5 r4_5 r5_5 (G_api_Instance.mk (copyA (fun _ => 0) r3_2) r1_2 r1_3 r1_4.toUInt32 (decide (r1_5 = 1)) 0 0 0 ([] : List UInt8))
noncomputable def M_roster_Read_po_b1 (open_ : Bool) (r1_2 : UInt64) (b_2 : List UInt8) (bad_2 : Bool) (out : List G_api_Instance) (t7 : UInt64) : Option ((List UInt8 × Bool × List G_api_Instance × UInt64) ⊕ ((List UInt8 × Bool × List G_api_Instance) ⊕ (List G_api_Instance × List UInt8 × Bool))) :=
  if t7 < r1_2 then
    Option.bind (M_inst_Read_po b_2 open_ bad_2) fun (r1_3, r2_2, r5_3, r6_2) =>
    if r2_2 = true then
      if (out.length + 1) * 72 ≤ 140737488355328 then
        some (.inl (r5_3, r6_2, out ++ [r1_3], t7 + 1))
      else none
    else
      some (.inr (.inr (([] : List G_api_Instance), r5_3, r6_2)))
  else
    some (.inr (.inl (b_2, bad_2, out)))
noncomputable def M_roster_Read_po (b2 : List UInt8) (open_ : Bool) (bad : Bool) : Option (List G_api_Instance × List UInt8 × Bool) :=
  Option.bind (M_octet_Reader_Num_po b2 open_ bad 1) fun (r1_2, r4_2, r5_2) =>
  Option.bind (loopO (fun z_ => M_roster_Read_po_b1 open_ r1_2 z_.1 z_.2.1 z_.2.2.1 z_.2.2.2) (r4_2, r5_2, ([] : List G_api_Instance), 0)) fun o =>
  match o with
  | .inl (b_3, bad_3, out_2) =>
    Option.bind (M_roster_Good_v out_2) fun r1_4 =>
    if r1_4 = true then
      some (out_2, b_3, bad_3)
    else
    Option.bind (M_octet_Reader_Take_po b_3 open_ bad_3 (-1)) fun (r3_2, r6_3, r7_2) =>
    some (([] : List G_api_Instance), r6_3, r7_2)
  | .inr r =>
    some r
noncomputable def M_signpostref12_Same_vv_b1 (a2 : List G_api_Instance) (b : List G_api_Instance) (i : Int) : Option (Int ⊕ (Unit ⊕ (Bool))) :=
  if i < (a2.length : Int) then
    Option.bind (at? a2 i) fun x =>
    Option.bind (at? b i) fun x_2 =>
    if x.Target.length ≤ maxLen then
      if x_2.Target.length ≤ maxLen then
        if x = x_2 then
          if ok64 (i + 1) then
            some (.inl (i + 1))
          else none
        else
          some (.inr (.inr false))
      else none
    else none
  else
    some (.inr (.inl ()))
noncomputable def M_signpostref12_Same_vv (a2 : List G_api_Instance) (b : List G_api_Instance) : Option Bool :=
  if (a2.length : Int) = (b.length : Int) then
    Option.bind (loopO (fun z_ => M_signpostref12_Same_vv_b1 a2 b z_) 0) fun o =>
    match o with
    | .inl () =>
      some true
    | .inr r =>
      some r
  else
    some false
noncomputable def M_octet_rest_left_po (b2 : List UInt8) (open_ : Bool) (bad : Bool) : Option Unit :=
  some ()
noncomputable def M_octet_Reader_Left_po (b2 : List UInt8) (open_ : Bool) (bad : Bool) : Option Int :=
  Option.bind (M_octet_Reader_none_po b2 open_ bad) fun () =>
  if open_ = true then
    Option.bind (M_octet_rest_left_po b2 open_ bad) fun () =>
    some (b2.length : Int)
  else
    some 0
noncomputable def M_signpostlaw12_RosterBack_vv_k3 (t4 : Bool) : Option (Bool) :=
  some t4
noncomputable def M_signpostlaw12_RosterBack_vv_k2 (behind : List UInt8) : Option (Bool) :=
  Option.bind (M_octet_Open_v behind) fun () =>
  Option.bind (M_roster_Read_po (([] : List UInt8) ++ behind) true false) fun (r3_4, r6_3, r7_3) =>
  Option.bind (M_octet_Reader_Bad_po r6_3 true r7_3) fun r1_6 =>
  if r1_6 = true then
    if (r3_4.length : Int) = 0 then
      Option.bind (M_signpostlaw12_lives) fun r1_7 =>
      M_signpostlaw12_RosterBack_vv_k3 r1_7
    else
      M_signpostlaw12_RosterBack_vv_k3 false
  else
  Option.bind (M_roster_Bytes_v r3_4) fun (r3_5, r4_3) =>
  if r4_3 = 0 then
    Option.bind (M_octet_Reader_Left_po r6_3 true r7_3) fun r1_8 =>
    if ok64 ((r3_5.length : Int) + r1_8) then
      if ((r3_5.length : Int) + r1_8) = (behind.length : Int) then
        if (0 : Int) ≤ (r3_5.length : Int) ∧ (r3_5.length : Int) ≤ (behind.length : Int) then
          if r3_5 = (behind.take r3_5.length) then
            Option.bind (M_signpostlaw12_lives) fun r1_9 =>
            some r1_9
          else
            some false
        else none
      else
        some false
    else none
  else
    some false
noncomputable def M_signpostlaw12_RosterBack_vv_k1 (a2 : List G_api_Instance) (behind : List UInt8) (t19 : Bool) : Option (Bool) :=
  if t19 = true then
    Option.bind (M_signpostlaw12_lives) fun r1_3 =>
    some r1_3
  else
  Option.bind (M_roster_Bytes_v a2) fun (r3_2, r4_2) =>
  if r4_2 = 0 then
    if (0 + r3_2.length) * 1 ≤ 140737488355328 then
      if ((([] : List UInt8) ++ r3_2).length + behind.length) * 1 ≤ 140737488355328 then
        Option.bind (M_octet_Open_v ((([] : List UInt8) ++ r3_2) ++ behind)) fun () =>
        Option.bind (M_roster_Read_po (([] : List UInt8) ++ ((([] : List UInt8) ++ r3_2) ++ behind)) true false) fun (r3_3, r6_2, r7_2) =>
        Option.bind (M_signpostref12_Same_vv r3_3 a2) fun r1_4 =>
        if r1_4 = true then
          Option.bind (M_octet_Reader_Left_po r6_2 true r7_2) fun r1_5 =>
          if r1_5 = (behind.length : Int) then
            M_signpostlaw12_RosterBack_vv_k2 behind
          else
            some false
        else
          some false
      else none
    else none
  else
    M_signpostlaw12_RosterBack_vv_k2 behind
noncomputable def M_signpostlaw12_RosterBack_vv (a2 : List G_api_Instance) (behind : List UInt8) : Option Bool :=
  Option.bind (M_signpostlaw12_Light_v a2) fun r1_2 =>
  if r1_2 = true then
    M_signpostlaw12_RosterBack_vv_k1 a2 behind (decide ((6000 : Int) < (behind.length : Int)))
  else
    M_signpostlaw12_RosterBack_vv_k1 a2 behind true
end Go.Proofs.Ytmjcemhojhbijaa
