/-
  What the functions that the statement RosterMerges reaches compute, each as a Lean function. No condition.
-/
import Derived.Test.YtmjcemhojhbijaaBRange
import Derived.Test.YtmjcemhojhbijaaBIns
namespace Go.Proofs.Ytmjcemhojhbijaa
open Go Go.RowKit
set_option linter.unusedVariables false
set_option linter.unusedSimpArgs false
set_option linter.unnecessarySimpa false
structure G_api_Instance where
  Publisher : Fin 20 → UInt8
  Seq : UInt64
  Born : UInt64
  Life : UInt32
  Gone : Bool
  Priority : UInt16
  Weight : UInt16
  Port : UInt16
  Target : List UInt8
  deriving DecidableEq
def el_G_api_Instance : El G_api_Instance := ⟨fun x => (bytesV (List.ofFn (n := 20) x.Publisher) ++ ([(v64 x.Seq), (v64 x.Born), (v32 x.Life), (.bool x.Gone), (v16 x.Priority), (v16 x.Weight), (v16 x.Port), (.string (str x.Target))] : List Value)), 28, fun x => by simp [bytesV_length], fun x => (List.forall_mem_append.2 ⟨(bytesV_one _), (List.forall_mem_cons.2 ⟨rfl, (List.forall_mem_cons.2 ⟨rfl, (List.forall_mem_cons.2 ⟨rfl, (List.forall_mem_cons.2 ⟨rfl, (List.forall_mem_cons.2 ⟨rfl, (List.forall_mem_cons.2 ⟨rfl, (List.forall_mem_cons.2 ⟨rfl, (List.forall_mem_cons.2 ⟨rfl, (fun _ hh => by cases hh)⟩)⟩)⟩)⟩)⟩)⟩)⟩)⟩)⟩)⟩
def G_api_Instance_wf (x : G_api_Instance) : Prop := x.Target.length ≤ 140737488351232
noncomputable def M_signpostlaw12_Light_v_b1 (l : List G_api_Instance) (t7 : Int) : Option (Int ⊕ (Unit ⊕ (Bool))) :=
  if t7 < (l.length : Int) then
    Option.bind (at? l t7) fun x =>
    if (300 : Int) < (x.Target.length : Int) then
      some (.inr (.inr false))
    else
    if ok64 (t7 + 1) then
      some (.inl (t7 + 1))
    else none
  else
    some (.inr (.inl ()))
noncomputable def M_signpostlaw12_Light_v (l : List G_api_Instance) : Option Bool :=
  Option.bind (loopO (fun z_ => M_signpostlaw12_Light_v_b1 l z_) 0) fun o =>
  match o with
  | .inl () =>
    some (decide ((l.length : Int) ≤ 40))
  | .inr r =>
    some r
noncomputable def M_label_parts (s : List UInt8) : Option Unit :=
  some ()
noncomputable def M_stringslite_IndexByte (s : List UInt8) (c : UInt8) : Option Unit :=
  some ()
noncomputable def M_stringslite_Index (s : List UInt8) : Option Int :=
  if ([46] : List UInt8) = s then
    some 0
  else
  Option.bind (at? ([46] : List UInt8) 0) fun c =>
  Option.bind (M_stringslite_IndexByte s c) fun () =>
  some (Lib.indexByte s c)
noncomputable def M_stringslite_Cut (s : List UInt8) : Option (List UInt8 × List UInt8 × Bool) :=
  Option.bind (M_stringslite_Index s) fun r1_2 =>
  if (0 : Int) ≤ r1_2 then
    if ((0 : Int) ≤ 0 ∧ (0 : Int) ≤ r1_2) ∧ r1_2 ≤ (s.length : Int) then
      if ok64 (r1_2 + 1) then
        if ((0 : Int) ≤ (r1_2 + 1) ∧ (r1_2 + 1) ≤ (s.length : Int)) ∧ (s.length : Int) ≤ (s.length : Int) then
          some (s.take r1_2.toNat, s.drop ((r1_2 + 1).toNat), true)
        else none
      else none
    else none
  else
    some (s, ([] : List UInt8), false)
noncomputable def M_strings_Cut (s : List UInt8) : Option (List UInt8 × List UInt8 × Bool) :=
  Option.bind (M_stringslite_Cut s) fun (r1_2, r2_2, r3_2) =>
  some (r1_2, r2_2, r3_2)
noncomputable def M_label_parts_1_p_b1 {σ_ ρ_ : Type} (f_ : σ_ → (List UInt8) → Option (σ_ ⊕ ρ_)) (z : σ_) (t1 : List UInt8) : Option ((σ_ × List UInt8) ⊕ (σ_ ⊕ ρ_)) :=
  Option.bind (M_strings_Cut t1) fun (r1, r2, r3) =>
  Option.bind (f_ z r1) fun y__2 =>
  match y__2 with
  | .inl z_2 =>
    if r3 = true then
      some (.inl (z_2, r2))
    else
      some (.inr (.inl z_2))
  | .inr x_2 =>
    some (.inr (.inr x_2))
noncomputable def M_label_parts_1_p {σ_ ρ_ : Type} (f_ : σ_ → (List UInt8) → Option (σ_ ⊕ ρ_)) (x : List UInt8) (z_ : σ_) : Option (σ_ ⊕ ρ_) :=
  Option.bind (loopO (fun z_ => M_label_parts_1_p_b1 f_ z_.1 z_.2) (z_, x)) fun o =>
  match o with
  | r =>
    some r
noncomputable def M_label_plain_k2 (c : UInt8) : Option (Bool) :=
  if (48 : UInt8) ≤ c then
    if c ≤ 57 then
      some true
    else
    if c = 45 then
      some true
    else
      some (decide (c = 95))
  else
  if c = 45 then
    some true
  else
    some (decide (c = 95))
noncomputable def M_label_plain_k1 (c : UInt8) : Option (Bool) :=
  if (65 : UInt8) ≤ c then
    if c ≤ 90 then
      some true
    else
      M_label_plain_k2 c
  else
    M_label_plain_k2 c
noncomputable def M_label_plain (c : UInt8) : Option Bool :=
  if (97 : UInt8) ≤ c then
    if c ≤ 122 then
      some true
    else
      M_label_plain_k1 c
  else
    M_label_plain_k1 c
noncomputable def M_label_Part_b2 (s : List UInt8) (t29 : Int) : Option (Int ⊕ (Unit ⊕ (Bool))) :=
  if t29 < (s.length : Int) then
    Option.bind (at? s t29) fun x =>
    Option.bind (M_label_plain x) fun r1_2 =>
    if r1_2 = true then
      if ok64 (t29 + 1) then
        some (.inl (t29 + 1))
      else none
    else
      some (.inr (.inr false))
  else
    some (.inr (.inl ()))
noncomputable def M_label_Part_k1 (s : List UInt8) (t25 : Bool) : Option (Bool) :=
  if t25 = true then
    some false
  else
  if s.length ≤ 140737488355328 then
    Option.bind (loopO (fun z_ => M_label_Part_b2 s z_) 0) fun o =>
    match o with
    | .inl () =>
      some true
    | .inr r =>
      some r
  else none
noncomputable def M_label_Part (s : List UInt8) : Option Bool :=
  if (s.length : Int) < 1 then
    M_label_Part_k1 s true
  else
  if (63 : Int) < (s.length : Int) then
    M_label_Part_k1 s true
  else
  Option.bind (at? s 0) fun c =>
  if c = 45 then
    M_label_Part_k1 s true
  else
  if ok64 ((s.length : Int) - 1) then
    Option.bind (at? s ((s.length : Int) - 1)) fun c_2 =>
    M_label_Part_k1 s (decide (c_2 = 45))
  else none
noncomputable def M_label_Good_r1 (x : List UInt8) : Option (Unit ⊕ Unit) :=
  Option.bind (M_label_Part x) fun r1_2 =>
  if r1_2 = true then
    some (.inl ())
  else
    some (.inr ())
noncomputable def M_label_Good (s : List UInt8) : Option Bool :=
  if (253 : Int) < (s.length : Int) then
    some false
  else
  Option.bind (M_label_parts s) fun () =>
  Option.bind (M_label_parts_1_p (fun (_ : Unit) x => M_label_Good_r1 x) s ()) fun o =>
  match o with
  | .inl () =>
    some true
  | .inr () =>
    some false
noncomputable def M_label_Fold_k2 (b : List UInt8) (t10 : Int) (x : UInt8) (t20 : Bool) : Option ((List UInt8 × Int) ⊕ (List UInt8)) :=
  if t20 = true then
    Option.bind (at? b t10) fun x_2 =>
    if ok64 (t10 + 1) then
      some (.inl (b.set t10.toNat (x ||| 32), t10 + 1))
    else none
  else
  if ok64 (t10 + 1) then
    some (.inl (b, t10 + 1))
  else none
noncomputable def M_label_Fold_b1 (s : List UInt8) (b : List UInt8) (t10 : Int) : Option ((List UInt8 × Int) ⊕ (List UInt8)) :=
  if t10 < (s.length : Int) then
    Option.bind (at? b t10) fun x =>
    if (65 : UInt8) ≤ x then
      M_label_Fold_k2 b t10 x (decide (x ≤ 90))
    else
      M_label_Fold_k2 b t10 x false
  else
    some (.inr b)
noncomputable def M_label_Fold (s : List UInt8) : Option (List UInt8) :=
  if s.length ≤ 140737488355328 then
    Option.bind (loopO (fun z_ => M_label_Fold_b1 s z_.1 z_.2) (s, 0)) fun o =>
    match o with
    | b_2 =>
      some b_2
  else none
noncomputable def M_inst_Good_k1 (i : G_api_Instance) (t11 : Bool) : Option (Bool) :=
  if t11 = true then
    some false
  else
  if i.Gone = true then
    if i.Target.length ≤ maxLen then
      some (decide ((G_api_Instance.mk i.Publisher i.Seq i.Born i.Life i.Gone 0 0 0 ([] : List UInt8)) = i))
    else none
  else
  if i.Port = 0 then
    some false
  else
  Option.bind (M_label_Good i.Target) fun r1_2 =>
  if r1_2 = true then
    Option.bind (M_label_Fold i.Target) fun r1_3 =>
    some (decide (r1_3 = i.Target))
  else
    some false
noncomputable def M_inst_Good (i : G_api_Instance) : Option Bool :=
  if i.Life < 1 then
    M_inst_Good_k1 i true
  else
    M_inst_Good_k1 i (decide ((2147483647 : UInt32) < i.Life))
noncomputable def M_bytes_Compare_vv (a2 : List UInt8) (b : List UInt8) : Option Unit :=
  some ()
noncomputable def M_roster_order (i : G_api_Instance) (publisher : Fin 20 → UInt8) : Option Unit :=
  Option.bind (M_bytes_Compare_vv (List.ofFn i.Publisher) (List.ofFn publisher)) fun () =>
  some ()
noncomputable def M_roster_Good_v_b1 (l : List G_api_Instance) (t7 : Int) : Option (Int ⊕ (Unit ⊕ (Bool))) :=
  if t7 < (l.length : Int) then
    Option.bind (at? l t7) fun x =>
    Option.bind (M_inst_Good x) fun r1_2 =>
    if r1_2 = true then
      if (0 : Int) < t7 then
        if ok64 (t7 - 1) then
          Option.bind (at? l (t7 - 1)) fun x_2 =>
          Option.bind (M_roster_order x_2 x.Publisher) fun () =>
          if (0 : Int) ≤ (Lib.compareBytes (List.ofFn x_2.Publisher) (List.ofFn x.Publisher)) then
            some (.inr (.inr false))
          else
          if ok64 (t7 + 1) then
            some (.inl (t7 + 1))
          else none
        else none
      else
      if ok64 (t7 + 1) then
        some (.inl (t7 + 1))
      else none
    else
      some (.inr (.inr false))
  else
    some (.inr (.inl ()))
noncomputable def M_roster_Good_v (l : List G_api_Instance) : Option Bool :=
  Option.bind (loopO (fun z_ => M_roster_Good_v_b1 l z_) 0) fun o =>
  match o with
  | .inl () =>
    some (decide ((l.length : Int) ≤ 16))
  | .inr r =>
    some r
noncomputable def M_slices_BinarySearchFunc_ID_v_roster_order_b1 (target : Fin 20 → UInt8) (x : List G_api_Instance) (i : Int) (j : Int) : Option ((Int × Int) ⊕ Int) :=
  if i < j then
    if ok64 (i + j) then
      if (shr64 (UInt64.ofInt (i + j)) 1).toNat < 9223372036854775808 then
        Option.bind (at? x ((shr64 (UInt64.ofInt (i + j)) 1).toNat : Int)) fun x_2 =>
        Option.bind (M_roster_order x_2 target) fun () =>
        if (Lib.compareBytes (List.ofFn x_2.Publisher) (List.ofFn target)) < 0 then
          if ok64 (((shr64 (UInt64.ofInt (i + j)) 1).toNat : Int) + 1) then
            some (.inl (((shr64 (UInt64.ofInt (i + j)) 1).toNat : Int) + 1, j))
          else none
        else
          some (.inl (i, ((shr64 (UInt64.ofInt (i + j)) 1).toNat : Int)))
      else none
    else none
  else
    some (.inr i)
noncomputable def M_slices_BinarySearchFunc_ID_v_roster_order (x : List G_api_Instance) (target : Fin 20 → UInt8) : Option (Int × Bool) :=
  Option.bind (loopO (fun z_ => M_slices_BinarySearchFunc_ID_v_roster_order_b1 target x z_.1 z_.2) (0, (x.length : Int))) fun o =>
  match o with
  | i_2 =>
    if i_2 < (x.length : Int) then
      Option.bind (at? x i_2) fun x_3 =>
      Option.bind (M_roster_order x_3 target) fun () =>
      some (i_2, decide ((Lib.compareBytes (List.ofFn x_3.Publisher) (List.ofFn target)) = 0))
    else
      some (i_2, false)
noncomputable def M_cmp_isNaN_uint64 (x : UInt64) : Option Unit :=
  some ()
noncomputable def M_cmp_Compare_uint64 (x : UInt64) (y_ : UInt64) : Option Int :=
  Option.bind (M_cmp_isNaN_uint64 x) fun () =>
  Option.bind (M_cmp_isNaN_uint64 y_) fun () =>
  if x < y_ then
    some (-1)
  else
  if y_ < x then
    some 1
  else
    some 0
noncomputable def M_inst_bit (is : Bool) : Option Int :=
  if is = true then
    some 1
  else
    some 0
noncomputable def M_cmp_isNaN_int (x : Int) : Option Unit :=
  some ()
noncomputable def M_cmp_Compare_int (x : Int) (y_ : Int) : Option Int :=
  Option.bind (M_cmp_isNaN_int x) fun () =>
  Option.bind (M_cmp_isNaN_int y_) fun () =>
  if x < y_ then
    some (-1)
  else
  if y_ < x then
    some 1
  else
    some 0
noncomputable def M_cmp_isNaN_uint32 (x : UInt32) : Option Unit :=
  some ()
noncomputable def M_cmp_Compare_uint32 (x : UInt32) (y_ : UInt32) : Option Int :=
  Option.bind (M_cmp_isNaN_uint32 x) fun () =>
  Option.bind (M_cmp_isNaN_uint32 y_) fun () =>
  if x < y_ then
    some (-1)
  else
  if y_ < x then
    some 1
  else
    some 0
noncomputable def M_cmp_isNaN_uint16 (x : UInt16) : Option Unit :=
  some ()
noncomputable def M_cmp_Compare_uint16 (x : UInt16) (y_ : UInt16) : Option Int :=
  Option.bind (M_cmp_isNaN_uint16 x) fun () =>
  Option.bind (M_cmp_isNaN_uint16 y_) fun () =>
  if x < y_ then
    some (-1)
  else
  if y_ < x then
    some 1
  else
    some 0
noncomputable def M_cmp_isNaN_string (x : List UInt8) : Option Unit :=
  some ()
noncomputable def M_cmp_Compare_string (x : List UInt8) (y_ : List UInt8) : Option Int :=
  Option.bind (M_cmp_isNaN_string x) fun () =>
  Option.bind (M_cmp_isNaN_string y_) fun () =>
  if (ltS x y_) = true then
    some (-1)
  else
  if ((ltS x y_) || (decide (x = y_))) = true then
    some 0
  else
    some 1
noncomputable def M_cmp_Or_int_v_b1 (vals : List Int) (t8 : Int) : Option (Int ⊕ (Unit ⊕ (Int))) :=
  if t8 < (vals.length : Int) then
    Option.bind (at? vals t8) fun x =>
    if x = 0 then
      if ok64 (t8 + 1) then
        some (.inl (t8 + 1))
      else none
    else
      some (.inr (.inr x))
  else
    some (.inr (.inl ()))
noncomputable def M_cmp_Or_int_v (vals : List Int) : Option Int :=
  Option.bind (loopO (fun z_ => M_cmp_Or_int_v_b1 vals z_) 0) fun o =>
  match o with
  | .inl () =>
    some 0
  | .inr r =>
    some r
noncomputable def M_inst_Cmp (a : G_api_Instance) (b : G_api_Instance) : Option Int :=
  Option.bind (M_cmp_Compare_uint64 a.Seq b.Seq) fun r1_2 =>
  Option.bind (M_inst_bit a.Gone) fun r1_3 =>
  Option.bind (M_inst_bit b.Gone) fun r1_4 =>
  Option.bind (M_cmp_Compare_int r1_3 r1_4) fun r1_5 =>
  Option.bind (M_cmp_Compare_uint64 a.Born b.Born) fun r1_6 =>
  Option.bind (M_cmp_Compare_uint32 a.Life b.Life) fun r1_7 =>
  Option.bind (M_bytes_Compare_vv (List.ofFn a.Publisher) (List.ofFn b.Publisher)) fun () =>
  Option.bind (M_cmp_Compare_uint16 a.Priority b.Priority) fun r1_8 =>
  Option.bind (M_cmp_Compare_uint16 a.Weight b.Weight) fun r1_9 =>
  Option.bind (M_cmp_Compare_uint16 a.Port b.Port) fun r1_10 =>
  Option.bind (M_cmp_Compare_string a.Target b.Target) fun r1_11 =>
  Option.bind (M_cmp_Or_int_v [r1_2, r1_5, r1_6, r1_7, Lib.compareBytes (List.ofFn a.Publisher) (List.ofFn b.Publisher), r1_8, r1_9, r1_10, r1_11]) fun r1_12 =>
  some r1_12
noncomputable def M_slices_Insert_Instance_ov (s : List G_api_Instance) (i : Int) (v : List G_api_Instance) : Option (List G_api_Instance) :=
  if (0 : Int) ≤ i ∧ i ≤ (s.length : Int) then
    if (v.length : Int) = 0 then
      some s
    else
    if i = (s.length : Int) then
      if (s.length + v.length) * 72 ≤ 140737488355328 then
        some (s ++ v)
      else none
    else
    if ok64 ((s.length : Int) + (v.length : Int)) then
      if (0 : Int) ≤ i ∧ i ≤ (s.length : Int) then
        if ok64 ((s.length : Int) + (v.length : Int)) then
          if ok64 (((s.length : Int) + (v.length : Int)) - i) then
            if (0 : Int) ≤ (((s.length : Int) + (v.length : Int)) - i) ∧ (((s.take i.toNat).length : Int) + (((s.length : Int) + (v.length : Int)) - i)) * 72 ≤ 140737488355328 then
              if (0 : Int) ≤ i ∧ i ≤ (((s.take i.toNat) ++ (List.replicate ((((s.length : Int) + (v.length : Int)) - i).toNat) (G_api_Instance.mk (fun _ => 0) 0 0 0 false 0 0 0 ([] : List UInt8)))).length : Int) then
                if ok64 (i + (v.length : Int)) then
                  if (0 : Int) ≤ (i + (v.length : Int)) ∧ (i + (v.length : Int)) ≤ (((s.take i.toNat) ++ (List.replicate ((((s.length : Int) + (v.length : Int)) - i).toNat) (G_api_Instance.mk (fun _ => 0) 0 0 0 false 0 0 0 ([] : List UInt8)))).length : Int) then
                    if (0 : Int) ≤ i ∧ i ≤ (s.length : Int) then
                      some (copyL (copyL ((s.take i.toNat) ++ (List.replicate ((((s.length : Int) + (v.length : Int)) - i).toNat) (G_api_Instance.mk (fun _ => 0) 0 0 0 false 0 0 0 ([] : List UInt8)))) i.toNat (v.take (min v.length ((((s.take i.toNat) ++ (List.replicate ((((s.length : Int) + (v.length : Int)) - i).toNat) (G_api_Instance.mk (fun _ => 0) 0 0 0 false 0 0 0 ([] : List UInt8)))).drop i.toNat).length)))) ((i + (v.length : Int)).toNat) ((s.drop i.toNat).take (min ((s.drop i.toNat).length) (((copyL ((s.take i.toNat) ++ (List.replicate ((((s.length : Int) + (v.length : Int)) - i).toNat) (G_api_Instance.mk (fun _ => 0) 0 0 0 false 0 0 0 ([] : List UInt8)))) i.toNat (v.take (min v.length ((((s.take i.toNat) ++ (List.replicate ((((s.length : Int) + (v.length : Int)) - i).toNat) (G_api_Instance.mk (fun _ => 0) 0 0 0 false 0 0 0 ([] : List UInt8)))).drop i.toNat).length)))).drop ((i + (v.length : Int)).toNat)).length))))
                    else none
                  else none
                else none
              else none
            else none
          else none
        else none
      else none
    else none
  else none
noncomputable def M_inst_End (i : G_api_Instance) : Option UInt64 :=
  if (18446744073709551615 - i.Life.toUInt64) < i.Born then
    some 18446744073709551615
  else
    some (i.Born + i.Life.toUInt64)
noncomputable def M_roster_first_v_b1 (l : List G_api_Instance) (at_ : Int) (t8 : Int) : Option ((Int × Int) ⊕ Int) :=
  if t8 < (l.length : Int) then
    Option.bind (at? l t8) fun x =>
    Option.bind (at? l at_) fun x_2 =>
    Option.bind (M_inst_End x) fun r1_2 =>
    Option.bind (M_inst_End x_2) fun r1_3 =>
    if r1_2 ≤ r1_3 then
      if ok64 (t8 + 1) then
        some (.inl (t8, t8 + 1))
      else none
    else
    if ok64 (t8 + 1) then
      some (.inl (at_, t8 + 1))
    else none
  else
    some (.inr at_)
noncomputable def M_roster_first_v (l : List G_api_Instance) : Option Int :=
  Option.bind (loopO (fun z_ => M_roster_first_v_b1 l z_.1 z_.2) (0, 0)) fun o =>
  match o with
  | at__2 =>
    some at__2
noncomputable def M_slices_Delete_Instance_o (s : List G_api_Instance) (i : Int) (j : Int) : Option (List G_api_Instance) :=
  if (((0 : Int) ≤ i ∧ i ≤ j) ∧ j ≤ (s.length : Int)) ∧ j ≤ (s.length : Int) ∧ (s.length : Int) ≤ (s.length : Int) then
    if i = j then
      some s
    else
    if (0 : Int) ≤ i ∧ i ≤ (s.length : Int) then
      if (0 : Int) ≤ j ∧ j ≤ (s.length : Int) then
        if ((s.take i.toNat).length + (s.drop j.toNat).length) * 72 ≤ 140737488355328 then
          some ((s.take i.toNat) ++ (s.drop j.toNat))
        else none
      else none
    else none
  else none
noncomputable def M_roster_Put_v_k2 (i : G_api_Instance) (l : List G_api_Instance) (r1_4 : Int) (r2_2 : Bool) : Option (Unit ⊕ (List G_api_Instance × Bool)) :=
  if ((0 : Int) ≤ (l.length : Int) ∧ (l.length : Int) ≤ (l.length : Int)) ∧ (l.length : Int) * 72 ≤ 140737488355328 then
    if r2_2 = true then
      Option.bind (at? (copyL (List.replicate l.length (G_api_Instance.mk (fun _ => 0) 0 0 0 false 0 0 0 ([] : List UInt8))) 0 (l.take (min l.length ((List.replicate l.length (G_api_Instance.mk (fun _ => 0) 0 0 0 false 0 0 0 ([] : List UInt8))).length)))) r1_4) fun x_2 =>
      some (.inr ((copyL (List.replicate l.length (G_api_Instance.mk (fun _ => 0) 0 0 0 false 0 0 0 ([] : List UInt8))) 0 (l.take (min l.length ((List.replicate l.length (G_api_Instance.mk (fun _ => 0) 0 0 0 false 0 0 0 ([] : List UInt8))).length)))).set r1_4.toNat i, true))
    else
    Option.bind (M_slices_Insert_Instance_ov (copyL (List.replicate l.length (G_api_Instance.mk (fun _ => 0) 0 0 0 false 0 0 0 ([] : List UInt8))) 0 (l.take (min l.length ((List.replicate l.length (G_api_Instance.mk (fun _ => 0) 0 0 0 false 0 0 0 ([] : List UInt8))).length)))) r1_4 [i]) fun r3_2 =>
    if (r3_2.length : Int) ≤ 16 then
      some (.inr (r3_2, true))
    else
    Option.bind (M_roster_first_v r3_2) fun r1_6 =>
    if ok64 (r1_6 + 1) then
      Option.bind (M_slices_Delete_Instance_o r3_2 r1_6 (r1_6 + 1)) fun r1_7 =>
      some (.inr (r1_7, !(decide (r1_6 = r1_4))))
    else none
  else none
noncomputable def M_roster_Put_v_k1 (i : G_api_Instance) (l : List G_api_Instance) (t17 : Bool) : Option (Unit ⊕ (List G_api_Instance × Bool)) :=
  if t17 = true then
    some (.inl ())
  else
  Option.bind (M_slices_BinarySearchFunc_ID_v_roster_order l i.Publisher) fun (r1_4, r2_2) =>
  if r2_2 = true then
    Option.bind (at? l r1_4) fun x =>
    Option.bind (M_inst_Cmp i x) fun r1_5 =>
    if r1_5 ≤ 0 then
      some (.inl ())
    else
      M_roster_Put_v_k2 i l r1_4 r2_2
  else
    M_roster_Put_v_k2 i l r1_4 r2_2
noncomputable def M_roster_Put_v (l : List G_api_Instance) (i : G_api_Instance) : Option (Unit ⊕ (List G_api_Instance × Bool)) :=
  Option.bind (M_roster_Good_v l) fun r1_2 =>
  if r1_2 = true then
    Option.bind (M_inst_Good i) fun r1_3 =>
    M_roster_Put_v_k1 i l (!r1_3)
  else
    M_roster_Put_v_k1 i l true
noncomputable def M_signpostlaw12_lives  : Option Bool :=
  Option.bind (M_roster_Put_v ([] : List G_api_Instance) (G_api_Instance.mk (fun _ => 0) 1 0 5 false 0 0 80 ([97] : List UInt8))) fun y_ =>
  match y_ with
  | .inl () =>
    Option.bind (M_roster_Put_v ([] : List G_api_Instance) (G_api_Instance.mk (fun _ => 0) 2 0 5 false 0 0 80 ([97] : List UInt8))) fun y__2 =>
    match y__2 with
    | .inl () =>
      some false
    | .inr (r3_2, r4_2) =>
      some false
  | .inr (r3_3, r4_3) =>
    Option.bind (M_roster_Put_v r3_3 (G_api_Instance.mk (fun _ => 0) 2 0 5 false 0 0 80 ([97] : List UInt8))) fun y__3 =>
    match y__3 with
    | .inl () =>
      if r4_3 = true then
        some false
      else
        some false
    | .inr (r3_4, r4_4) =>
      if r4_3 = true then
        if r4_4 = true then
          if (r3_4.length : Int) = 1 then
            Option.bind (at? r3_4 0) fun x =>
            if x.Target.length ≤ maxLen then
              if x = (G_api_Instance.mk (fun _ => 0) 2 0 5 false 0 0 80 ([97] : List UInt8)) then
                Option.bind (M_roster_Good_v r3_4) fun r1_2 =>
                some r1_2
              else
                some false
            else none
          else
            some false
        else
          some false
      else
        some false
noncomputable def M_roster_Merge_vv_b2 (a2 : List G_api_Instance) (b : List G_api_Instance) (t18 : Int) : Option ((Int ⊕ (List G_api_Instance × Int)) ⊕ (Unit ⊕ (List G_api_Instance))) :=
  if t18 < (b.length : Int) then
    Option.bind (at? b t18) fun x =>
    Option.bind (M_roster_Put_v a2 x) fun y__2 =>
    match y__2 with
    | .inl () =>
      if ok64 (t18 + 1) then
        some (.inl (.inl (t18 + 1)))
      else none
    | .inr (r3_2, r4_2) =>
      if ok64 (t18 + 1) then
        some (.inl (.inr (r3_2, t18 + 1)))
      else none
  else
    some (.inr (.inl ()))
noncomputable def M_roster_Merge_vv_b3 (b : List G_api_Instance) (a_3 : List G_api_Instance) (t18_2 : Int) : Option ((Int ⊕ (List G_api_Instance × Int)) ⊕ (Unit ⊕ (List G_api_Instance))) :=
  if t18_2 < (b.length : Int) then
    Option.bind (at? b t18_2) fun x_2 =>
    Option.bind (M_roster_Put_v a_3 x_2) fun y__3 =>
    match y__3 with
    | .inl () =>
      if ok64 (t18_2 + 1) then
        some (.inl (.inr (a_3, t18_2 + 1)))
      else none
    | .inr (r3_3, r4_3) =>
      if ok64 (t18_2 + 1) then
        some (.inl (.inr (r3_3, t18_2 + 1)))
      else none
  else
    some (.inr (.inr a_3))
noncomputable def M_roster_Merge_vv_k1 (a2 : List G_api_Instance) (b : List G_api_Instance) (t14 : Bool) : Option (Unit ⊕ (List G_api_Instance)) :=
  if t14 = true then
    some (.inl ())
  else
  Option.bind (loopO (fun (z_ : Int ⊕ (List G_api_Instance × Int)) => match z_ with | .inl z_ => M_roster_Merge_vv_b2 a2 b z_ | .inr z_ => M_roster_Merge_vv_b3 b z_.1 z_.2) (.inl 0 : Int ⊕ (List G_api_Instance × Int))) fun o =>
  match o with
  | .inl () =>
    some (.inl ())
  | .inr a_5 =>
    some (.inr a_5)
noncomputable def M_roster_Merge_vv (a2 : List G_api_Instance) (b : List G_api_Instance) : Option (Unit ⊕ (List G_api_Instance)) :=
  Option.bind (M_roster_Good_v a2) fun r1_2 =>
  if r1_2 = true then
    Option.bind (M_roster_Good_v b) fun r1_3 =>
    M_roster_Merge_vv_k1 a2 b (!r1_3)
  else
    M_roster_Merge_vv_k1 a2 b true
noncomputable def M_roster_Merge_vv_2_b2 (a2 : List G_api_Instance) (t18 : Int) : Option ((Int ⊕ (List G_api_Instance × Int)) ⊕ (Unit ⊕ (List G_api_Instance))) :=
  if t18 < (a2.length : Int) then
    Option.bind (at? a2 t18) fun x =>
    Option.bind (M_roster_Put_v a2 x) fun y__2 =>
    match y__2 with
    | .inl () =>
      if ok64 (t18 + 1) then
        some (.inl (.inl (t18 + 1)))
      else none
    | .inr (r3_2, r4_2) =>
      if ok64 (t18 + 1) then
        some (.inl (.inr (r3_2, t18 + 1)))
      else none
  else
    some (.inr (.inl ()))
noncomputable def M_roster_Merge_vv_2_b3 (a2 : List G_api_Instance) (a_3 : List G_api_Instance) (t18_2 : Int) : Option ((Int ⊕ (List G_api_Instance × Int)) ⊕ (Unit ⊕ (List G_api_Instance))) :=
  if t18_2 < (a2.length : Int) then
    Option.bind (at? a2 t18_2) fun x_2 =>
    Option.bind (M_roster_Put_v a_3 x_2) fun y__3 =>
    match y__3 with
    | .inl () =>
      if ok64 (t18_2 + 1) then
        some (.inl (.inr (a_3, t18_2 + 1)))
      else none
    | .inr (r3_3, r4_3) =>
      if ok64 (t18_2 + 1) then
        some (.inl (.inr (r3_3, t18_2 + 1)))
      else none
  else
    some (.inr (.inr a_3))
noncomputable def M_roster_Merge_vv_2_k1 (a2 : List G_api_Instance) (t14 : Bool) : Option (Unit ⊕ (List G_api_Instance)) :=
  if t14 = true then
    some (.inl ())
  else
  Option.bind (loopO (fun (z_ : Int ⊕ (List G_api_Instance × Int)) => match z_ with | .inl z_ => M_roster_Merge_vv_2_b2 a2 z_ | .inr z_ => M_roster_Merge_vv_2_b3 a2 z_.1 z_.2) (.inl 0 : Int ⊕ (List G_api_Instance × Int))) fun o =>
  match o with
  | .inl () =>
    some (.inl ())
  | .inr a_5 =>
    some (.inr a_5)
noncomputable def M_roster_Merge_vv_2 (a2 : List G_api_Instance) : Option (Unit ⊕ (List G_api_Instance)) :=
  Option.bind (M_roster_Good_v a2) fun r1_2 =>
  if r1_2 = true then
    Option.bind (M_roster_Good_v a2) fun r1_3 =>
    M_roster_Merge_vv_2_k1 a2 (!r1_3)
  else
    M_roster_Merge_vv_2_k1 a2 true
noncomputable def M_slices_Equal_Instance_vv_b1 (s1 : List G_api_Instance) (t13 : Int) : Option (Int ⊕ Unit) :=
  if t13 < (s1.length : Int) then
    Option.bind (at? s1 t13) fun x =>
    if x.Target.length ≤ maxLen then
      if x.Target.length ≤ maxLen then
        if ok64 (t13 + 1) then
          some (.inl (t13 + 1))
        else none
      else none
    else none
  else
    some (.inr ())
noncomputable def M_slices_Equal_Instance_vv (s1 : List G_api_Instance) : Option Unit :=
  Option.bind (loopO (fun z_ => M_slices_Equal_Instance_vv_b1 s1 z_) 0) fun o =>
  match o with
  | () =>
    some ()
noncomputable def M_roster_Same_vv (a2 : List G_api_Instance) : Option Unit :=
  Option.bind (M_slices_Equal_Instance_vv a2) fun () =>
  some ()
noncomputable def M_slices_Equal_Instance_vv_2_b1 (s1 : List G_api_Instance) (s2 : List G_api_Instance) (t13 : Int) : Option (Int ⊕ (Unit ⊕ (Bool))) :=
  if t13 < (s1.length : Int) then
    Option.bind (at? s1 t13) fun x =>
    Option.bind (at? s2 t13) fun x_2 =>
    if x.Target.length ≤ maxLen then
      if x_2.Target.length ≤ maxLen then
        if x = x_2 then
          if ok64 (t13 + 1) then
            some (.inl (t13 + 1))
          else none
        else
          some (.inr (.inr false))
      else none
    else none
  else
    some (.inr (.inl ()))
noncomputable def M_slices_Equal_Instance_vv_2 (s1 : List G_api_Instance) (s2 : List G_api_Instance) : Option Bool :=
  if (s1.length : Int) = (s2.length : Int) then
    Option.bind (loopO (fun z_ => M_slices_Equal_Instance_vv_2_b1 s1 s2 z_) 0) fun o =>
    match o with
    | .inl () =>
      some true
    | .inr r =>
      some r
  else
    some false
noncomputable def M_roster_Same_vv_2 (a2 : List G_api_Instance) (b : List G_api_Instance) : Option Bool :=
  Option.bind (M_slices_Equal_Instance_vv_2 a2 b) fun r1_2 =>
  some r1_2
noncomputable def M_signpostlaw12_publishers_v_b2 (l : List G_api_Instance) (t11 : Int) (x : G_api_Instance) (once : Bool) (t20 : Int) : Option ((Bool × Int) ⊕ Bool) :=
  if t20 < ((l.take t11.toNat).length : Int) then
    Option.bind (at? (l.take t11.toNat) t20) fun x_2 =>
    if once = true then
      if ok64 (t20 + 1) then
        some (.inl (!(decide (x_2.Publisher = x.Publisher)), t20 + 1))
      else none
    else
    if ok64 (t20 + 1) then
      some (.inl (false, t20 + 1))
    else none
  else
    some (.inr once)
noncomputable def M_signpostlaw12_publishers_v_b1 (l : List G_api_Instance) (n : Int) (t11 : Int) : Option ((Int × Int) ⊕ Int) :=
  if t11 < (l.length : Int) then
    Option.bind (at? l t11) fun x =>
    if (0 : Int) ≤ t11 ∧ t11 ≤ (l.length : Int) then
      Option.bind (loopO (fun z_ => M_signpostlaw12_publishers_v_b2 l t11 x z_.1 z_.2) (true, 0)) fun o_2 =>
      match o_2 with
      | once_2 =>
        if once_2 = true then
          if ok64 (n + 1) then
            if ok64 (t11 + 1) then
              some (.inl (n + 1, t11 + 1))
            else none
          else none
        else
        if ok64 (t11 + 1) then
          some (.inl (n, t11 + 1))
        else none
    else none
  else
    some (.inr n)
noncomputable def M_signpostlaw12_publishers_v (l : List G_api_Instance) : Option Int :=
  Option.bind (loopO (fun z_ => M_signpostlaw12_publishers_v_b1 l z_.1 z_.2) (0, 0)) fun o =>
  match o with
  | n_2 =>
    some n_2
noncomputable def M_signpostlaw12_RosterMerges_vvv_k2 (a2 : List G_api_Instance) (b : List G_api_Instance) (c4 : List G_api_Instance) : Option (Bool) :=
  if (0 + a2.length) * 72 ≤ 140737488355328 then
    if ((([] : List G_api_Instance) ++ a2).length + b.length) * 72 ≤ 140737488355328 then
      if (((([] : List G_api_Instance) ++ a2) ++ b).length + c4.length) * 72 ≤ 140737488355328 then
        Option.bind (M_signpostlaw12_publishers_v (((([] : List G_api_Instance) ++ a2) ++ b) ++ c4)) fun r1_11 =>
        if (16 : Int) < r1_11 then
          Option.bind (M_signpostlaw12_lives) fun r1_12 =>
          some r1_12
        else
        Option.bind (M_roster_Merge_vv b a2) fun y__3 =>
        match y__3 with
        | .inl () =>
          Option.bind (M_roster_Same_vv_2 a2 b) fun r1_13 =>
          if r1_13 = true then
            Option.bind (M_roster_Merge_vv a2 c4) fun y__4 =>
            match y__4 with
            | .inl () =>
              Option.bind (M_roster_Merge_vv b c4) fun y__5 =>
              match y__5 with
              | .inl () =>
                Option.bind (M_roster_Merge_vv a2 b) fun y__6 =>
                match y__6 with
                | .inl () =>
                  Option.bind (M_roster_Same_vv a2) fun () =>
                  Option.bind (M_roster_Merge_vv a2 b) fun y__7 =>
                  match y__7 with
                  | .inl () =>
                    Option.bind (M_roster_Same_vv a2) fun () =>
                    Option.bind (M_signpostlaw12_lives) fun r1_14 =>
                    some r1_14
                  | .inr r3_3 =>
                    Option.bind (M_roster_Same_vv_2 r3_3 a2) fun r1_15 =>
                    if r1_15 = true then
                      Option.bind (M_signpostlaw12_lives) fun r1_16 =>
                      some r1_16
                    else
                      some false
                | .inr r3_4 =>
                  Option.bind (M_roster_Same_vv_2 a2 r3_4) fun r1_17 =>
                  if r1_17 = true then
                    Option.bind (M_roster_Merge_vv a2 b) fun y__8 =>
                    match y__8 with
                    | .inl () =>
                      Option.bind (M_roster_Same_vv a2) fun () =>
                      Option.bind (M_signpostlaw12_lives) fun r1_18 =>
                      some r1_18
                    | .inr r3_5 =>
                      Option.bind (M_roster_Same_vv_2 r3_5 a2) fun r1_19 =>
                      if r1_19 = true then
                        Option.bind (M_signpostlaw12_lives) fun r1_20 =>
                        some r1_20
                      else
                        some false
                  else
                    some false
              | .inr r3_6 =>
                Option.bind (M_roster_Merge_vv a2 r3_6) fun y__9 =>
                match y__9 with
                | .inl () =>
                  Option.bind (M_roster_Same_vv a2) fun () =>
                  Option.bind (M_roster_Merge_vv a2 b) fun y__10 =>
                  match y__10 with
                  | .inl () =>
                    Option.bind (M_roster_Same_vv a2) fun () =>
                    Option.bind (M_signpostlaw12_lives) fun r1_21 =>
                    some r1_21
                  | .inr r3_7 =>
                    Option.bind (M_roster_Same_vv_2 r3_7 a2) fun r1_22 =>
                    if r1_22 = true then
                      Option.bind (M_signpostlaw12_lives) fun r1_23 =>
                      some r1_23
                    else
                      some false
                | .inr r3_8 =>
                  Option.bind (M_roster_Same_vv_2 a2 r3_8) fun r1_24 =>
                  if r1_24 = true then
                    Option.bind (M_roster_Merge_vv a2 b) fun y__11 =>
                    match y__11 with
                    | .inl () =>
                      Option.bind (M_roster_Same_vv a2) fun () =>
                      Option.bind (M_signpostlaw12_lives) fun r1_25 =>
                      some r1_25
                    | .inr r3_9 =>
                      Option.bind (M_roster_Same_vv_2 r3_9 a2) fun r1_26 =>
                      if r1_26 = true then
                        Option.bind (M_signpostlaw12_lives) fun r1_27 =>
                        some r1_27
                      else
                        some false
                  else
                    some false
            | .inr r3_10 =>
              Option.bind (M_roster_Merge_vv b c4) fun y__12 =>
              match y__12 with
              | .inl () =>
                Option.bind (M_roster_Merge_vv a2 b) fun y__13 =>
                match y__13 with
                | .inl () =>
                  Option.bind (M_roster_Same_vv_2 r3_10 a2) fun r1_28 =>
                  if r1_28 = true then
                    Option.bind (M_roster_Merge_vv a2 b) fun y__14 =>
                    match y__14 with
                    | .inl () =>
                      Option.bind (M_roster_Same_vv a2) fun () =>
                      Option.bind (M_signpostlaw12_lives) fun r1_29 =>
                      some r1_29
                    | .inr r3_11 =>
                      Option.bind (M_roster_Same_vv_2 r3_11 a2) fun r1_30 =>
                      if r1_30 = true then
                        Option.bind (M_signpostlaw12_lives) fun r1_31 =>
                        some r1_31
                      else
                        some false
                  else
                    some false
                | .inr r3_12 =>
                  Option.bind (M_roster_Same_vv_2 r3_10 r3_12) fun r1_32 =>
                  if r1_32 = true then
                    Option.bind (M_roster_Merge_vv a2 b) fun y__15 =>
                    match y__15 with
                    | .inl () =>
                      Option.bind (M_roster_Same_vv a2) fun () =>
                      Option.bind (M_signpostlaw12_lives) fun r1_33 =>
                      some r1_33
                    | .inr r3_13 =>
                      Option.bind (M_roster_Same_vv_2 r3_13 a2) fun r1_34 =>
                      if r1_34 = true then
                        Option.bind (M_signpostlaw12_lives) fun r1_35 =>
                        some r1_35
                      else
                        some false
                  else
                    some false
              | .inr r3_14 =>
                Option.bind (M_roster_Merge_vv a2 r3_14) fun y__16 =>
                match y__16 with
                | .inl () =>
                  Option.bind (M_roster_Same_vv_2 r3_10 a2) fun r1_36 =>
                  if r1_36 = true then
                    Option.bind (M_roster_Merge_vv a2 b) fun y__17 =>
                    match y__17 with
                    | .inl () =>
                      Option.bind (M_roster_Same_vv a2) fun () =>
                      Option.bind (M_signpostlaw12_lives) fun r1_37 =>
                      some r1_37
                    | .inr r3_15 =>
                      Option.bind (M_roster_Same_vv_2 r3_15 a2) fun r1_38 =>
                      if r1_38 = true then
                        Option.bind (M_signpostlaw12_lives) fun r1_39 =>
                        some r1_39
                      else
                        some false
                  else
                    some false
                | .inr r3_16 =>
                  Option.bind (M_roster_Same_vv_2 r3_10 r3_16) fun r1_40 =>
                  if r1_40 = true then
                    Option.bind (M_roster_Merge_vv a2 b) fun y__18 =>
                    match y__18 with
                    | .inl () =>
                      Option.bind (M_roster_Same_vv a2) fun () =>
                      Option.bind (M_signpostlaw12_lives) fun r1_41 =>
                      some r1_41
                    | .inr r3_17 =>
                      Option.bind (M_roster_Same_vv_2 r3_17 a2) fun r1_42 =>
                      if r1_42 = true then
                        Option.bind (M_signpostlaw12_lives) fun r1_43 =>
                        some r1_43
                      else
                        some false
                  else
                    some false
          else
            some false
        | .inr r3_18 =>
          Option.bind (M_roster_Same_vv_2 a2 r3_18) fun r1_44 =>
          if r1_44 = true then
            Option.bind (M_roster_Merge_vv a2 c4) fun y__19 =>
            match y__19 with
            | .inl () =>
              Option.bind (M_roster_Merge_vv b c4) fun y__20 =>
              match y__20 with
              | .inl () =>
                Option.bind (M_roster_Merge_vv a2 b) fun y__21 =>
                match y__21 with
                | .inl () =>
                  Option.bind (M_roster_Same_vv a2) fun () =>
                  Option.bind (M_roster_Merge_vv a2 b) fun y__22 =>
                  match y__22 with
                  | .inl () =>
                    Option.bind (M_roster_Same_vv a2) fun () =>
                    Option.bind (M_signpostlaw12_lives) fun r1_45 =>
                    some r1_45
                  | .inr r3_19 =>
                    Option.bind (M_roster_Same_vv_2 r3_19 a2) fun r1_46 =>
                    if r1_46 = true then
                      Option.bind (M_signpostlaw12_lives) fun r1_47 =>
                      some r1_47
                    else
                      some false
                | .inr r3_20 =>
                  Option.bind (M_roster_Same_vv_2 a2 r3_20) fun r1_48 =>
                  if r1_48 = true then
                    Option.bind (M_roster_Merge_vv a2 b) fun y__23 =>
                    match y__23 with
                    | .inl () =>
                      Option.bind (M_roster_Same_vv a2) fun () =>
                      Option.bind (M_signpostlaw12_lives) fun r1_49 =>
                      some r1_49
                    | .inr r3_21 =>
                      Option.bind (M_roster_Same_vv_2 r3_21 a2) fun r1_50 =>
                      if r1_50 = true then
                        Option.bind (M_signpostlaw12_lives) fun r1_51 =>
                        some r1_51
                      else
                        some false
                  else
                    some false
              | .inr r3_22 =>
                Option.bind (M_roster_Merge_vv a2 r3_22) fun y__24 =>
                match y__24 with
                | .inl () =>
                  Option.bind (M_roster_Same_vv a2) fun () =>
                  Option.bind (M_roster_Merge_vv a2 b) fun y__25 =>
                  match y__25 with
                  | .inl () =>
                    Option.bind (M_roster_Same_vv a2) fun () =>
                    Option.bind (M_signpostlaw12_lives) fun r1_52 =>
                    some r1_52
                  | .inr r3_23 =>
                    Option.bind (M_roster_Same_vv_2 r3_23 a2) fun r1_53 =>
                    if r1_53 = true then
                      Option.bind (M_signpostlaw12_lives) fun r1_54 =>
                      some r1_54
                    else
                      some false
                | .inr r3_24 =>
                  Option.bind (M_roster_Same_vv_2 a2 r3_24) fun r1_55 =>
                  if r1_55 = true then
                    Option.bind (M_roster_Merge_vv a2 b) fun y__26 =>
                    match y__26 with
                    | .inl () =>
                      Option.bind (M_roster_Same_vv a2) fun () =>
                      Option.bind (M_signpostlaw12_lives) fun r1_56 =>
                      some r1_56
                    | .inr r3_25 =>
                      Option.bind (M_roster_Same_vv_2 r3_25 a2) fun r1_57 =>
                      if r1_57 = true then
                        Option.bind (M_signpostlaw12_lives) fun r1_58 =>
                        some r1_58
                      else
                        some false
                  else
                    some false
            | .inr r3_26 =>
              Option.bind (M_roster_Merge_vv b c4) fun y__27 =>
              match y__27 with
              | .inl () =>
                Option.bind (M_roster_Merge_vv a2 b) fun y__28 =>
                match y__28 with
                | .inl () =>
                  Option.bind (M_roster_Same_vv_2 r3_26 a2) fun r1_59 =>
                  if r1_59 = true then
                    Option.bind (M_roster_Merge_vv a2 b) fun y__29 =>
                    match y__29 with
                    | .inl () =>
                      Option.bind (M_roster_Same_vv a2) fun () =>
                      Option.bind (M_signpostlaw12_lives) fun r1_60 =>
                      some r1_60
                    | .inr r3_27 =>
                      Option.bind (M_roster_Same_vv_2 r3_27 a2) fun r1_61 =>
                      if r1_61 = true then
                        Option.bind (M_signpostlaw12_lives) fun r1_62 =>
                        some r1_62
                      else
                        some false
                  else
                    some false
                | .inr r3_28 =>
                  Option.bind (M_roster_Same_vv_2 r3_26 r3_28) fun r1_63 =>
                  if r1_63 = true then
                    Option.bind (M_roster_Merge_vv a2 b) fun y__30 =>
                    match y__30 with
                    | .inl () =>
                      Option.bind (M_roster_Same_vv a2) fun () =>
                      Option.bind (M_signpostlaw12_lives) fun r1_64 =>
                      some r1_64
                    | .inr r3_29 =>
                      Option.bind (M_roster_Same_vv_2 r3_29 a2) fun r1_65 =>
                      if r1_65 = true then
                        Option.bind (M_signpostlaw12_lives) fun r1_66 =>
                        some r1_66
                      else
                        some false
                  else
                    some false
              | .inr r3_30 =>
                Option.bind (M_roster_Merge_vv a2 r3_30) fun y__31 =>
                match y__31 with
                | .inl () =>
                  Option.bind (M_roster_Same_vv_2 r3_26 a2) fun r1_67 =>
                  if r1_67 = true then
                    Option.bind (M_roster_Merge_vv a2 b) fun y__32 =>
                    match y__32 with
                    | .inl () =>
                      Option.bind (M_roster_Same_vv a2) fun () =>
                      Option.bind (M_signpostlaw12_lives) fun r1_68 =>
                      some r1_68
                    | .inr r3_31 =>
                      Option.bind (M_roster_Same_vv_2 r3_31 a2) fun r1_69 =>
                      if r1_69 = true then
                        Option.bind (M_signpostlaw12_lives) fun r1_70 =>
                        some r1_70
                      else
                        some false
                  else
                    some false
                | .inr r3_32 =>
                  Option.bind (M_roster_Same_vv_2 r3_26 r3_32) fun r1_71 =>
                  if r1_71 = true then
                    Option.bind (M_roster_Merge_vv a2 b) fun y__33 =>
                    match y__33 with
                    | .inl () =>
                      Option.bind (M_roster_Same_vv a2) fun () =>
                      Option.bind (M_signpostlaw12_lives) fun r1_72 =>
                      some r1_72
                    | .inr r3_33 =>
                      Option.bind (M_roster_Same_vv_2 r3_33 a2) fun r1_73 =>
                      if r1_73 = true then
                        Option.bind (M_signpostlaw12_lives) fun r1_74 =>
                        some r1_74
                      else
                        some false
                  else
                    some false
          else
            some false
      else none
    else none
  else none
noncomputable def M_signpostlaw12_RosterMerges_vvv_k3 (a2 : List G_api_Instance) (b : List G_api_Instance) (c4 : List G_api_Instance) (r3_34 : List G_api_Instance) : Option (Bool) :=
  if (0 + a2.length) * 72 ≤ 140737488355328 then
    if ((([] : List G_api_Instance) ++ a2).length + b.length) * 72 ≤ 140737488355328 then
      if (((([] : List G_api_Instance) ++ a2) ++ b).length + c4.length) * 72 ≤ 140737488355328 then
        Option.bind (M_signpostlaw12_publishers_v (((([] : List G_api_Instance) ++ a2) ++ b) ++ c4)) fun r1_77 =>
        if (16 : Int) < r1_77 then
          Option.bind (M_signpostlaw12_lives) fun r1_78 =>
          some r1_78
        else
        Option.bind (M_roster_Merge_vv b a2) fun y__35 =>
        match y__35 with
        | .inl () =>
          Option.bind (M_roster_Same_vv_2 r3_34 b) fun r1_79 =>
          if r1_79 = true then
            Option.bind (M_roster_Merge_vv r3_34 c4) fun y__36 =>
            match y__36 with
            | .inl () =>
              Option.bind (M_roster_Merge_vv b c4) fun y__37 =>
              match y__37 with
              | .inl () =>
                Option.bind (M_roster_Merge_vv a2 b) fun y__38 =>
                match y__38 with
                | .inl () =>
                  Option.bind (M_roster_Same_vv_2 r3_34 a2) fun r1_80 =>
                  if r1_80 = true then
                    Option.bind (M_roster_Merge_vv r3_34 b) fun y__39 =>
                    match y__39 with
                    | .inl () =>
                      Option.bind (M_roster_Same_vv r3_34) fun () =>
                      Option.bind (M_signpostlaw12_lives) fun r1_81 =>
                      some r1_81
                    | .inr r3_36 =>
                      Option.bind (M_roster_Same_vv_2 r3_36 r3_34) fun r1_82 =>
                      if r1_82 = true then
                        Option.bind (M_signpostlaw12_lives) fun r1_83 =>
                        some r1_83
                      else
                        some false
                  else
                    some false
                | .inr r3_37 =>
                  Option.bind (M_roster_Same_vv_2 r3_34 r3_37) fun r1_84 =>
                  if r1_84 = true then
                    Option.bind (M_roster_Merge_vv r3_34 b) fun y__40 =>
                    match y__40 with
                    | .inl () =>
                      Option.bind (M_roster_Same_vv r3_34) fun () =>
                      Option.bind (M_signpostlaw12_lives) fun r1_85 =>
                      some r1_85
                    | .inr r3_38 =>
                      Option.bind (M_roster_Same_vv_2 r3_38 r3_34) fun r1_86 =>
                      if r1_86 = true then
                        Option.bind (M_signpostlaw12_lives) fun r1_87 =>
                        some r1_87
                      else
                        some false
                  else
                    some false
              | .inr r3_39 =>
                Option.bind (M_roster_Merge_vv a2 r3_39) fun y__41 =>
                match y__41 with
                | .inl () =>
                  Option.bind (M_roster_Same_vv_2 r3_34 a2) fun r1_88 =>
                  if r1_88 = true then
                    Option.bind (M_roster_Merge_vv r3_34 b) fun y__42 =>
                    match y__42 with
                    | .inl () =>
                      Option.bind (M_roster_Same_vv r3_34) fun () =>
                      Option.bind (M_signpostlaw12_lives) fun r1_89 =>
                      some r1_89
                    | .inr r3_40 =>
                      Option.bind (M_roster_Same_vv_2 r3_40 r3_34) fun r1_90 =>
                      if r1_90 = true then
                        Option.bind (M_signpostlaw12_lives) fun r1_91 =>
                        some r1_91
                      else
                        some false
                  else
                    some false
                | .inr r3_41 =>
                  Option.bind (M_roster_Same_vv_2 r3_34 r3_41) fun r1_92 =>
                  if r1_92 = true then
                    Option.bind (M_roster_Merge_vv r3_34 b) fun y__43 =>
                    match y__43 with
                    | .inl () =>
                      Option.bind (M_roster_Same_vv r3_34) fun () =>
                      Option.bind (M_signpostlaw12_lives) fun r1_93 =>
                      some r1_93
                    | .inr r3_42 =>
                      Option.bind (M_roster_Same_vv_2 r3_42 r3_34) fun r1_94 =>
                      if r1_94 = true then
                        Option.bind (M_signpostlaw12_lives) fun r1_95 =>
                        some r1_95
                      else
                        some false
                  else
                    some false
            | .inr r3_43 =>
              Option.bind (M_roster_Merge_vv b c4) fun y__44 =>
              match y__44 with
              | .inl () =>
                Option.bind (M_roster_Merge_vv a2 b) fun y__45 =>
                match y__45 with
                | .inl () =>
                  Option.bind (M_roster_Same_vv_2 r3_43 a2) fun r1_96 =>
                  if r1_96 = true then
                    Option.bind (M_roster_Merge_vv r3_34 b) fun y__46 =>
                    match y__46 with
                    | .inl () =>
                      Option.bind (M_roster_Same_vv r3_34) fun () =>
                      Option.bind (M_signpostlaw12_lives) fun r1_97 =>
                      some r1_97
                    | .inr r3_44 =>
                      Option.bind (M_roster_Same_vv_2 r3_44 r3_34) fun r1_98 =>
                      if r1_98 = true then
                        Option.bind (M_signpostlaw12_lives) fun r1_99 =>
                        some r1_99
                      else
                        some false
                  else
                    some false
                | .inr r3_45 =>
                  Option.bind (M_roster_Same_vv_2 r3_43 r3_45) fun r1_100 =>
                  if r1_100 = true then
                    Option.bind (M_roster_Merge_vv r3_34 b) fun y__47 =>
                    match y__47 with
                    | .inl () =>
                      Option.bind (M_roster_Same_vv r3_34) fun () =>
                      Option.bind (M_signpostlaw12_lives) fun r1_101 =>
                      some r1_101
                    | .inr r3_46 =>
                      Option.bind (M_roster_Same_vv_2 r3_46 r3_34) fun r1_102 =>
                      if r1_102 = true then
                        Option.bind (M_signpostlaw12_lives) fun r1_103 =>
                        some r1_103
                      else
                        some false
                  else
                    some false
              | .inr r3_47 =>
                Option.bind (M_roster_Merge_vv a2 r3_47) fun y__48 =>
                match y__48 with
                | .inl () =>
                  Option.bind (M_roster_Same_vv_2 r3_43 a2) fun r1_104 =>
                  if r1_104 = true then
                    Option.bind (M_roster_Merge_vv r3_34 b) fun y__49 =>
                    match y__49 with
                    | .inl () =>
                      Option.bind (M_roster_Same_vv r3_34) fun () =>
                      Option.bind (M_signpostlaw12_lives) fun r1_105 =>
                      some r1_105
                    | .inr r3_48 =>
                      Option.bind (M_roster_Same_vv_2 r3_48 r3_34) fun r1_106 =>
                      if r1_106 = true then
                        Option.bind (M_signpostlaw12_lives) fun r1_107 =>
                        some r1_107
                      else
                        some false
                  else
                    some false
                | .inr r3_49 =>
                  Option.bind (M_roster_Same_vv_2 r3_43 r3_49) fun r1_108 =>
                  if r1_108 = true then
                    Option.bind (M_roster_Merge_vv r3_34 b) fun y__50 =>
                    match y__50 with
                    | .inl () =>
                      Option.bind (M_roster_Same_vv r3_34) fun () =>
                      Option.bind (M_signpostlaw12_lives) fun r1_109 =>
                      some r1_109
                    | .inr r3_50 =>
                      Option.bind (M_roster_Same_vv_2 r3_50 r3_34) fun r1_110 =>
                      if r1_110 = true then
                        Option.bind (M_signpostlaw12_lives) fun r1_111 =>
                        some r1_111
                      else
                        some false
                  else
                    some false
          else
            some false
        | .inr r3_51 =>
          Option.bind (M_roster_Same_vv_2 r3_34 r3_51) fun r1_112 =>
          if r1_112 = true then
            Option.bind (M_roster_Merge_vv r3_34 c4) fun y__51 =>
            match y__51 with
            | .inl () =>
              Option.bind (M_roster_Merge_vv b c4) fun y__52 =>
              match y__52 with
              | .inl () =>
                Option.bind (M_roster_Merge_vv a2 b) fun y__53 =>
                match y__53 with
                | .inl () =>
                  Option.bind (M_roster_Same_vv_2 r3_34 a2) fun r1_113 =>
                  if r1_113 = true then
                    Option.bind (M_roster_Merge_vv r3_34 b) fun y__54 =>
                    match y__54 with
                    | .inl () =>
                      Option.bind (M_roster_Same_vv r3_34) fun () =>
                      Option.bind (M_signpostlaw12_lives) fun r1_114 =>
                      some r1_114
                    | .inr r3_52 =>
                      Option.bind (M_roster_Same_vv_2 r3_52 r3_34) fun r1_115 =>
                      if r1_115 = true then
                        Option.bind (M_signpostlaw12_lives) fun r1_116 =>
                        some r1_116
                      else
                        some false
                  else
                    some false
                | .inr r3_53 =>
                  Option.bind (M_roster_Same_vv_2 r3_34 r3_53) fun r1_117 =>
                  if r1_117 = true then
                    Option.bind (M_roster_Merge_vv r3_34 b) fun y__55 =>
                    match y__55 with
                    | .inl () =>
                      Option.bind (M_roster_Same_vv r3_34) fun () =>
                      Option.bind (M_signpostlaw12_lives) fun r1_118 =>
                      some r1_118
                    | .inr r3_54 =>
                      Option.bind (M_roster_Same_vv_2 r3_54 r3_34) fun r1_119 =>
                      if r1_119 = true then
                        Option.bind (M_signpostlaw12_lives) fun r1_120 =>
                        some r1_120
                      else
                        some false
                  else
                    some false
              | .inr r3_55 =>
                Option.bind (M_roster_Merge_vv a2 r3_55) fun y__56 =>
                match y__56 with
                | .inl () =>
                  Option.bind (M_roster_Same_vv_2 r3_34 a2) fun r1_121 =>
                  if r1_121 = true then
                    Option.bind (M_roster_Merge_vv r3_34 b) fun y__57 =>
                    match y__57 with
                    | .inl () =>
                      Option.bind (M_roster_Same_vv r3_34) fun () =>
                      Option.bind (M_signpostlaw12_lives) fun r1_122 =>
                      some r1_122
                    | .inr r3_56 =>
                      Option.bind (M_roster_Same_vv_2 r3_56 r3_34) fun r1_123 =>
                      if r1_123 = true then
                        Option.bind (M_signpostlaw12_lives) fun r1_124 =>
                        some r1_124
                      else
                        some false
                  else
                    some false
                | .inr r3_57 =>
                  Option.bind (M_roster_Same_vv_2 r3_34 r3_57) fun r1_125 =>
                  if r1_125 = true then
                    Option.bind (M_roster_Merge_vv r3_34 b) fun y__58 =>
                    match y__58 with
                    | .inl () =>
                      Option.bind (M_roster_Same_vv r3_34) fun () =>
                      Option.bind (M_signpostlaw12_lives) fun r1_126 =>
                      some r1_126
                    | .inr r3_58 =>
                      Option.bind (M_roster_Same_vv_2 r3_58 r3_34) fun r1_127 =>
                      if r1_127 = true then
                        Option.bind (M_signpostlaw12_lives) fun r1_128 =>
                        some r1_128
                      else
                        some false
                  else
                    some false
            | .inr r3_59 =>
              Option.bind (M_roster_Merge_vv b c4) fun y__59 =>
              match y__59 with
              | .inl () =>
                Option.bind (M_roster_Merge_vv a2 b) fun y__60 =>
                match y__60 with
                | .inl () =>
                  Option.bind (M_roster_Same_vv_2 r3_59 a2) fun r1_129 =>
                  if r1_129 = true then
                    Option.bind (M_roster_Merge_vv r3_34 b) fun y__61 =>
                    match y__61 with
                    | .inl () =>
                      Option.bind (M_roster_Same_vv r3_34) fun () =>
                      Option.bind (M_signpostlaw12_lives) fun r1_130 =>
                      some r1_130
                    | .inr r3_60 =>
                      Option.bind (M_roster_Same_vv_2 r3_60 r3_34) fun r1_131 =>
                      if r1_131 = true then
                        Option.bind (M_signpostlaw12_lives) fun r1_132 =>
                        some r1_132
                      else
                        some false
                  else
                    some false
                | .inr r3_61 =>
                  Option.bind (M_roster_Same_vv_2 r3_59 r3_61) fun r1_133 =>
                  if r1_133 = true then
                    Option.bind (M_roster_Merge_vv r3_34 b) fun y__62 =>
                    match y__62 with
                    | .inl () =>
                      Option.bind (M_roster_Same_vv r3_34) fun () =>
                      Option.bind (M_signpostlaw12_lives) fun r1_134 =>
                      some r1_134
                    | .inr r3_62 =>
                      Option.bind (M_roster_Same_vv_2 r3_62 r3_34) fun r1_135 =>
                      if r1_135 = true then
                        Option.bind (M_signpostlaw12_lives) fun r1_136 =>
                        some r1_136
                      else
                        some false
                  else
                    some false
              | .inr r3_63 =>
                Option.bind (M_roster_Merge_vv a2 r3_63) fun y__63 =>
                match y__63 with
                | .inl () =>
                  Option.bind (M_roster_Same_vv_2 r3_59 a2) fun r1_137 =>
                  if r1_137 = true then
                    Option.bind (M_roster_Merge_vv r3_34 b) fun y__64 =>
                    match y__64 with
                    | .inl () =>
                      Option.bind (M_roster_Same_vv r3_34) fun () =>
                      Option.bind (M_signpostlaw12_lives) fun r1_138 =>
                      some r1_138
                    | .inr r3_64 =>
                      Option.bind (M_roster_Same_vv_2 r3_64 r3_34) fun r1_139 =>
                      if r1_139 = true then
                        Option.bind (M_signpostlaw12_lives) fun r1_140 =>
                        some r1_140
                      else
                        some false
                  else
                    some false
                | .inr r3_65 =>
                  Option.bind (M_roster_Same_vv_2 r3_59 r3_65) fun r1_141 =>
                  if r1_141 = true then
                    Option.bind (M_roster_Merge_vv r3_34 b) fun y__65 =>
                    match y__65 with
                    | .inl () =>
                      Option.bind (M_roster_Same_vv r3_34) fun () =>
                      Option.bind (M_signpostlaw12_lives) fun r1_142 =>
                      some r1_142
                    | .inr r3_66 =>
                      Option.bind (M_roster_Same_vv_2 r3_66 r3_34) fun r1_143 =>
                      if r1_143 = true then
                        Option.bind (M_signpostlaw12_lives) fun r1_144 =>
                        some r1_144
                      else
                        some false
                  else
                    some false
          else
            some false
      else none
    else none
  else none
noncomputable def M_signpostlaw12_RosterMerges_vvv_k1 (a2 : List G_api_Instance) (b : List G_api_Instance) (c4 : List G_api_Instance) (t35 : Bool) : Option (Bool) :=
  if t35 = true then
    Option.bind (M_signpostlaw12_lives) fun r1_8 =>
    some r1_8
  else
  Option.bind (M_roster_Merge_vv a2 b) fun y_ =>
  match y_ with
  | .inl () =>
    Option.bind (M_roster_Good_v a2) fun r1_9 =>
    if r1_9 = true then
      Option.bind (M_roster_Merge_vv_2 a2) fun y__2 =>
      match y__2 with
      | .inl () =>
        Option.bind (M_roster_Same_vv a2) fun () =>
        M_signpostlaw12_RosterMerges_vvv_k2 a2 b c4
      | .inr r3_2 =>
        Option.bind (M_roster_Same_vv_2 r3_2 a2) fun r1_10 =>
        if r1_10 = true then
          M_signpostlaw12_RosterMerges_vvv_k2 a2 b c4
        else
          some false
    else
      some false
  | .inr r3_34 =>
    Option.bind (M_roster_Good_v r3_34) fun r1_75 =>
    if r1_75 = true then
      Option.bind (M_roster_Merge_vv_2 a2) fun y__34 =>
      match y__34 with
      | .inl () =>
        Option.bind (M_roster_Same_vv a2) fun () =>
        M_signpostlaw12_RosterMerges_vvv_k3 a2 b c4 r3_34
      | .inr r3_35 =>
        Option.bind (M_roster_Same_vv_2 r3_35 a2) fun r1_76 =>
        if r1_76 = true then
          M_signpostlaw12_RosterMerges_vvv_k3 a2 b c4 r3_34
        else
          some false
    else
      some false
noncomputable def M_signpostlaw12_RosterMerges_vvv (a2 : List G_api_Instance) (b : List G_api_Instance) (c4 : List G_api_Instance) : Option Bool :=
  Option.bind (M_signpostlaw12_Light_v a2) fun r1_2 =>
  if r1_2 = true then
    Option.bind (M_signpostlaw12_Light_v b) fun r1_3 =>
    if r1_3 = true then
      Option.bind (M_signpostlaw12_Light_v c4) fun r1_4 =>
      if r1_4 = true then
        Option.bind (M_roster_Good_v a2) fun r1_5 =>
        if r1_5 = true then
          Option.bind (M_roster_Good_v b) fun r1_6 =>
          if r1_6 = true then
            Option.bind (M_roster_Good_v c4) fun r1_7 =>
            M_signpostlaw12_RosterMerges_vvv_k1 a2 b c4 (!r1_7)
          else
            M_signpostlaw12_RosterMerges_vvv_k1 a2 b c4 true
        else
          M_signpostlaw12_RosterMerges_vvv_k1 a2 b c4 true
      else
        M_signpostlaw12_RosterMerges_vvv_k1 a2 b c4 true
    else
      M_signpostlaw12_RosterMerges_vvv_k1 a2 b c4 true
  else
    M_signpostlaw12_RosterMerges_vvv_k1 a2 b c4 true
end Go.Proofs.Ytmjcemhojhbijaa
