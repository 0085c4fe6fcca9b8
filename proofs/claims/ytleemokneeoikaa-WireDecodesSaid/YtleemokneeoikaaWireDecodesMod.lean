/-
  What the functions that the statement WireDecodes reaches compute, each as a Lean function. No condition.
-/
import Derived.Test.YtleemokneeoikaaBRange
import Derived.Test.YtleemokneeoikaaBIns
namespace Go.Proofs.Ytleemokneeoikaa
open Go Go.RowKit
set_option linter.unusedVariables false
set_option linter.unusedSimpArgs false
set_option linter.unnecessarySimpa false
structure G_api_Addr where
  Host : UInt32
  Port : UInt16
  deriving DecidableEq
def el_G_api_Addr : El G_api_Addr := ⟨fun x => [(v32 x.Host), (v16 x.Port)], 2, fun x => by simp [bytesV_length], fun x => (List.forall_mem_cons.2 ⟨rfl, (List.forall_mem_cons.2 ⟨rfl, (fun _ hh => by cases hh)⟩)⟩)⟩
structure G_api_Contact where
  ID : Fin 20 → UInt8
  Addr : G_api_Addr
  deriving DecidableEq
def el_G_api_Contact : El G_api_Contact := ⟨fun x => (bytesV (List.ofFn (n := 20) x.ID) ++ (([(v32 x.Addr.Host), (v16 x.Addr.Port)] : List Value))), 22, fun x => by simp [bytesV_length], fun x => (List.forall_mem_append.2 ⟨(bytesV_one _), (List.forall_mem_cons.2 ⟨rfl, (List.forall_mem_cons.2 ⟨rfl, (fun _ hh => by cases hh)⟩)⟩)⟩)⟩
structure G_api_Instance where
  Publisher : Fin 20 → UInt8
  Seq : UInt64
  Born : UInt64
  Life : UInt32
  Gone : Bool
  Priority : UInt16
  Weight : UInt16
  Port : UInt16
  Target : List UInt8
  deriving DecidableEq
def el_G_api_Instance : El G_api_Instance := ⟨fun x => (bytesV (List.ofFn (n := 20) x.Publisher) ++ (([(v64 x.Seq), (v64 x.Born), (v32 x.Life), (.bool x.Gone), (v16 x.Priority), (v16 x.Weight), (v16 x.Port), (.string (str x.Target))] : List Value))), 28, fun x => by simp [bytesV_length], fun x => (List.forall_mem_append.2 ⟨(bytesV_one _), (List.forall_mem_cons.2 ⟨rfl, (List.forall_mem_cons.2 ⟨rfl, (List.forall_mem_cons.2 ⟨rfl, (List.forall_mem_cons.2 ⟨rfl, (List.forall_mem_cons.2 ⟨rfl, (List.forall_mem_cons.2 ⟨rfl, (List.forall_mem_cons.2 ⟨rfl, (List.forall_mem_cons.2 ⟨rfl, (fun _ hh => by cases hh)⟩)⟩)⟩)⟩)⟩)⟩)⟩)⟩)⟩)⟩
structure G_wire_parts where
  key : Bool
  contacts : Bool
  roster : Bool
  deriving DecidableEq
def el_G_wire_parts : El G_wire_parts := ⟨fun x => [(.bool x.key), (.bool x.contacts), (.bool x.roster)], 3, fun x => by simp [bytesV_length], fun x => (List.forall_mem_cons.2 ⟨rfl, (List.forall_mem_cons.2 ⟨rfl, (List.forall_mem_cons.2 ⟨rfl, (fun _ hh => by cases hh)⟩)⟩)⟩)⟩
structure G_signpostref06_Addr where
  Host : UInt32
  Port : UInt16
  deriving DecidableEq
def el_G_signpostref06_Addr : El G_signpostref06_Addr := ⟨fun x => [(v32 x.Host), (v16 x.Port)], 2, fun x => by simp [bytesV_length], fun x => (List.forall_mem_cons.2 ⟨rfl, (List.forall_mem_cons.2 ⟨rfl, (fun _ hh => by cases hh)⟩)⟩)⟩
structure G_signpostref08_Contact where
  ID : Fin 20 → UInt8
  Addr : G_signpostref06_Addr
  deriving DecidableEq
def el_G_signpostref08_Contact : El G_signpostref08_Contact := ⟨fun x => (bytesV (List.ofFn (n := 20) x.ID) ++ (([(v32 x.Addr.Host), (v16 x.Addr.Port)] : List Value))), 22, fun x => by simp [bytesV_length], fun x => (List.forall_mem_append.2 ⟨(bytesV_one _), (List.forall_mem_cons.2 ⟨rfl, (List.forall_mem_cons.2 ⟨rfl, (fun _ hh => by cases hh)⟩)⟩)⟩)⟩
structure G_anon_7 where
  x : Int
  y_ : Int
  signed : Bool
  code : UInt8
  deriving DecidableEq
def el_G_anon_7 : El G_anon_7 := ⟨fun x => [(vI x.x), (vI x.y_), (.bool x.signed), (v8 x.code)], 4, fun x => by simp [bytesV_length], fun x => (List.forall_mem_cons.2 ⟨rfl, (List.forall_mem_cons.2 ⟨rfl, (List.forall_mem_cons.2 ⟨rfl, (List.forall_mem_cons.2 ⟨rfl, (fun _ hh => by cases hh)⟩)⟩)⟩)⟩)⟩
structure G_runtime_boundsError where
  x : Int
  y_ : Int
  signed : Bool
  code : UInt8
  deriving DecidableEq
def el_G_runtime_boundsError : El G_runtime_boundsError := ⟨fun x => [(vI x.x), (vI x.y_), (.bool x.signed), (v8 x.code)], 4, fun x => by simp [bytesV_length], fun x => (List.forall_mem_cons.2 ⟨rfl, (List.forall_mem_cons.2 ⟨rfl, (List.forall_mem_cons.2 ⟨rfl, (List.forall_mem_cons.2 ⟨rfl, (fun _ hh => by cases hh)⟩)⟩)⟩)⟩)⟩
def G_api_Addr_wf (x : G_api_Addr) : Prop := True
def G_api_Contact_wf (x : G_api_Contact) : Prop := G_api_Addr_wf x.Addr
def G_api_Instance_wf (x : G_api_Instance) : Prop := x.Target.length ≤ 140737488351232
def G_wire_parts_wf (x : G_wire_parts) : Prop := True
def G_signpostref06_Addr_wf (x : G_signpostref06_Addr) : Prop := True
def G_signpostref08_Contact_wf (x : G_signpostref08_Contact) : Prop := G_signpostref06_Addr_wf x.Addr
def G_anon_7_wf (x : G_anon_7) : Prop := ok64 x.x ∧ ok64 x.y_
def G_runtime_boundsError_wf (x : G_runtime_boundsError) : Prop := ok64 x.x ∧ ok64 x.y_
noncomputable def M_wire_has_k3 (t14 : Bool) : Option (G_wire_parts × Bool) :=
  if t14 = true then
    some ((G_wire_parts.mk true false false), true)
  else
    some ((G_wire_parts.mk false false false), false)
noncomputable def M_wire_has_k2 (kind : Int) (t11 : Bool) : Option (G_wire_parts × Bool) :=
  if t11 = true then
    some ((G_wire_parts.mk false false false), true)
  else
  if kind = 2 then
    M_wire_has_k3 (decide (kind = 2))
  else
  if kind = 3 then
    M_wire_has_k3 (decide (kind = 3))
  else
  if kind = 8 then
    M_wire_has_k3 (decide (kind = 8))
  else
    M_wire_has_k3 (decide (kind = 9))
noncomputable def M_wire_has_k1  : Option (G_wire_parts × Bool) :=
  some ((G_wire_parts.mk true false true), true)
noncomputable def M_wire_has (kind : Int) : Option (G_wire_parts × Bool) :=
  if kind = 4 then
    M_wire_has_k1
  else
  if kind = 7 then
    M_wire_has_k1
  else
  if kind = 6 then
    some ((G_wire_parts.mk true true false), true)
  else
  if kind = 1 then
    M_wire_has_k2 kind (decide (kind = 1))
  else
    M_wire_has_k2 kind (decide (kind = 5))
noncomputable def M_addr_Good (a : G_api_Addr) : Option Bool :=
  if a.Host = 0 then
    some false
  else
  if a.Port = 0 then
    some false
  else
    some (!(decide (a = (G_api_Addr.mk 0 0))))
noncomputable def M_contact_Good (c : G_api_Contact) : Option Bool :=
  Option.bind (M_addr_Good c.Addr) fun r1_2 =>
  some r1_2
noncomputable def M_contact_Find_1_p (c : G_api_Contact) (x : Fin 20 → UInt8) : Option Unit :=
  some ()
noncomputable def M_slices_IndexFunc_Contact_v_contact_Find_1p_b1 (f : Fin 20 → UInt8) (s : List G_api_Contact) (t8 : Int) : Option (Int ⊕ (Unit ⊕ (Int))) :=
  if t8 < (s.length : Int) then
    Option.bind (at? s t8) fun x =>
    Option.bind (M_contact_Find_1_p x f) fun () =>
    if x.ID = f then
      some (.inr (.inr t8))
    else
    if ok64 (t8 + 1) then
      some (.inl (t8 + 1))
    else none
  else
    some (.inr (.inl ()))
noncomputable def M_slices_IndexFunc_Contact_v_contact_Find_1p (s : List G_api_Contact) (f : Fin 20 → UInt8) : Option Int :=
  Option.bind (loopO (fun z_ => M_slices_IndexFunc_Contact_v_contact_Find_1p_b1 f s z_) 0) fun o =>
  match o with
  | .inl () =>
    some (-1)
  | .inr r =>
    some r
noncomputable def M_contact_Find_v (l : List G_api_Contact) (id : Fin 20 → UInt8) : Option Int :=
  Option.bind (M_slices_IndexFunc_Contact_v_contact_Find_1p l id) fun r1_2 =>
  some r1_2
noncomputable def M_contact_good_v_b1 (l : List G_api_Contact) (t7 : Int) : Option (Int ⊕ (Unit ⊕ (Bool))) :=
  if t7 < (l.length : Int) then
    Option.bind (at? l t7) fun x =>
    Option.bind (M_contact_Good x) fun r1_2 =>
    if r1_2 = true then
      Option.bind (M_contact_Find_v l x.ID) fun r1_3 =>
      if r1_3 = t7 then
        if ok64 (t7 + 1) then
          some (.inl (t7 + 1))
        else none
      else
        some (.inr (.inr false))
    else
      some (.inr (.inr false))
  else
    some (.inr (.inl ()))
noncomputable def M_contact_good_v (l : List G_api_Contact) : Option Bool :=
  Option.bind (loopO (fun z_ => M_contact_good_v_b1 l z_) 0) fun o =>
  match o with
  | .inl () =>
    some (decide ((l.length : Int) ≤ 64))
  | .inr r =>
    some r
noncomputable def M_octet_may (width : Int) : Option Bool :=
  if (1 : Int) ≤ width then
    some (decide (width ≤ 8))
  else
    some false
noncomputable def M_octet_Put_v_b1 (n : UInt64) (width : Int) (out : List UInt8) (t17 : Int) : Option ((List UInt8 × Int) ⊕ (List UInt8)) :=
  if t17 < width then
    if ok64 (width - 1) then
      if ok64 ((width - 1) - t17) then
        if ok64 (8 * ((width - 1) - t17)) then
          if (out.length + 1) * 1 ≤ 140737488355328 then
            if ok64 (t17 + 1) then
              some (.inl (out ++ [(shr64 n ((UInt64.ofInt (8 * ((width - 1) - t17))).toNat)).toUInt8], t17 + 1))
            else none
          else none
        else none
      else none
    else none
  else
    some (.inr out)
noncomputable def M_octet_Put_v (b : List UInt8) (n : UInt64) (width : Int) : Option (List UInt8) :=
  if (0 + b.length) * 1 ≤ 140737488355328 then
    Option.bind (M_octet_may width) fun r1_2 =>
    if r1_2 = true then
      Option.bind (loopO (fun z_ => M_octet_Put_v_b1 n width z_.1 z_.2) (([] : List UInt8) ++ b, 0)) fun o =>
      match o with
      | out_2 =>
        some out_2
    else
      some (([] : List UInt8) ++ b)
  else none
noncomputable def M_addr_Bytes (a : G_api_Addr) : Option (List UInt8) :=
  Option.bind (M_octet_Put_v ([] : List UInt8) a.Host.toUInt64 4) fun r3_2 =>
  Option.bind (M_octet_Put_v r3_2 a.Port.toUInt64 2) fun r3_3 =>
  some r3_3
noncomputable def M_slices_Grow_byte_n (n : Int) : Option (List UInt8) :=
  if n < 0 then
    none
  else
  if ok64 (n - 0) then
    if (0 : Int) < (n - 0) then
      if (0 : Int) ≤ 0 ∧ (0 : Int) ≤ 0 then
        if (0 : Int) ≤ (n - 0) ∧ (((([] : List UInt8).take 0).length : Int) + (n - 0)) * 1 ≤ 140737488355328 then
          if (0 : Int) ≤ 0 ∧ (0 : Int) ≤ (((([] : List UInt8).take 0) ++ (List.replicate ((n - 0).toNat) (0 : UInt8))).length : Int) then
            some (((([] : List UInt8).take 0) ++ (List.replicate ((n - 0).toNat) (0 : UInt8))).take 0)
          else none
        else none
      else none
    else
      some ([] : List UInt8)
  else none
noncomputable def M_slices_Concat_byte_s2vo (slices : List UInt8) (slices2 : List UInt8) : Option (List UInt8) :=
  if ok64 (0 + (slices.length : Int)) then
    if (0 + (slices.length : Int)) < 0 then
      none
    else
    if ok64 ((0 + (slices.length : Int)) + (slices2.length : Int)) then
      if ((0 + (slices.length : Int)) + (slices2.length : Int)) < 0 then
        none
      else
      Option.bind (M_slices_Grow_byte_n ((0 + (slices.length : Int)) + (slices2.length : Int))) fun r3_2 =>
      if (r3_2.length + slices.length) * 1 ≤ 140737488355328 then
        if ((r3_2 ++ slices).length + slices2.length) * 1 ≤ 140737488355328 then
          some ((r3_2 ++ slices) ++ slices2)
        else none
      else none
    else none
  else none
noncomputable def M_contact_Bytes (c : G_api_Contact) : Option (List UInt8) :=
  Option.bind (M_addr_Bytes c.Addr) fun r3_2 =>
  Option.bind (M_slices_Concat_byte_s2vo (List.ofFn c.ID) r3_2) fun r3_3 =>
  some r3_3
noncomputable def M_contact_List_v_b1 (l : List G_api_Contact) (out : List UInt8) (t16 : Int) : Option ((List UInt8 × Int) ⊕ (List UInt8)) :=
  if t16 < (l.length : Int) then
    Option.bind (at? l t16) fun x =>
    Option.bind (M_contact_Bytes x) fun r3_3 =>
    if (out.length + r3_3.length) * 1 ≤ 140737488355328 then
      if ok64 (t16 + 1) then
        some (.inl (out ++ r3_3, t16 + 1))
      else none
    else none
  else
    some (.inr out)
noncomputable def M_contact_List_v (l : List G_api_Contact) : Option (List UInt8 × Int) :=
  Option.bind (M_contact_good_v l) fun r1_2 =>
  if r1_2 = true then
    Option.bind (M_octet_Put_v ([] : List UInt8) (UInt64.ofInt (l.length : Int)) 1) fun r3_2 =>
    Option.bind (loopO (fun z_ => M_contact_List_v_b1 l z_.1 z_.2) (r3_2, 0)) fun o =>
    match o with
    | out_2 =>
      some (out_2, 0)
  else
    some (([] : List UInt8), 2)
noncomputable def M_label_parts (s : List UInt8) : Option Unit :=
  some ()
noncomputable def M_stringslite_IndexByte (s : List UInt8) (c : UInt8) : Option Unit :=
  some ()
noncomputable def M_stringslite_Index (s : List UInt8) : Option Int :=
  if ([46] : List UInt8) = s then
    some 0
  else
  Option.bind (at? ([46] : List UInt8) 0) fun c =>
  Option.bind (M_stringslite_IndexByte s c) fun () =>
  some (Lib.indexByte s c)
noncomputable def M_stringslite_Cut (s : List UInt8) : Option (List UInt8 × List UInt8 × Bool) :=
  Option.bind (M_stringslite_Index s) fun r1_2 =>
  if (0 : Int) ≤ r1_2 then
    if ((0 : Int) ≤ 0 ∧ (0 : Int) ≤ r1_2) ∧ r1_2 ≤ (s.length : Int) then
      if ok64 (r1_2 + 1) then
        if ((0 : Int) ≤ (r1_2 + 1) ∧ (r1_2 + 1) ≤ (s.length : Int)) ∧ (s.length : Int) ≤ (s.length : Int) then
          some (s.take r1_2.toNat, s.drop ((r1_2 + 1).toNat), true)
        else none
      else none
    else none
  else
    some (s, ([] : List UInt8), false)
noncomputable def M_strings_Cut (s : List UInt8) : Option (List UInt8 × List UInt8 × Bool) :=
  Option.bind (M_stringslite_Cut s) fun (r1_2, r2_2, r3_2) =>
  some (r1_2, r2_2, r3_2)
noncomputable def M_label_parts_1_p_b1 {σ_ ρ_ : Type} (f_ : σ_ → (List UInt8) → Option (σ_ ⊕ ρ_)) (z : σ_) (t1 : List UInt8) : Option ((σ_ × List UInt8) ⊕ (σ_ ⊕ ρ_)) :=
  Option.bind (M_strings_Cut t1) fun (r1, r2, r3) =>
  Option.bind (f_ z r1) fun y__2 =>
  match y__2 with
  | .inl z_2 =>
    if r3 = true then
      some (.inl (z_2, r2))
    else
      some (.inr (.inl z_2))
  | .inr x_2 =>
    some (.inr (.inr x_2))
noncomputable def M_label_parts_1_p {σ_ ρ_ : Type} (f_ : σ_ → (List UInt8) → Option (σ_ ⊕ ρ_)) (x : List UInt8) (z_ : σ_) : Option (σ_ ⊕ ρ_) :=
  Option.bind (loopO (fun z_ => M_label_parts_1_p_b1 f_ z_.1 z_.2) (z_, x)) fun o =>
  match o with
  | r =>
    some r
noncomputable def M_label_plain_k2 (c : UInt8) : Option (Bool) :=
  if (48 : UInt8) ≤ c then
    if c ≤ 57 then
      some true
    else
    if c = 45 then
      some true
    else
      some (decide (c = 95))
  else
  if c = 45 then
    some true
  else
    some (decide (c = 95))
noncomputable def M_label_plain_k1 (c : UInt8) : Option (Bool) :=
  if (65 : UInt8) ≤ c then
    if c ≤ 90 then
      some true
    else
      M_label_plain_k2 c
  else
    M_label_plain_k2 c
noncomputable def M_label_plain (c : UInt8) : Option Bool :=
  if (97 : UInt8) ≤ c then
    if c ≤ 122 then
      some true
    else
      M_label_plain_k1 c
  else
    M_label_plain_k1 c
noncomputable def M_label_Part_b2 (s : List UInt8) (t29 : Int) : Option (Int ⊕ (Unit ⊕ (Bool))) :=
  if t29 < (s.length : Int) then
    Option.bind (at? s t29) fun x =>
    Option.bind (M_label_plain x) fun r1_2 =>
    if r1_2 = true then
      if ok64 (t29 + 1) then
        some (.inl (t29 + 1))
      else none
    else
      some (.inr (.inr false))
  else
    some (.inr (.inl ()))
noncomputable def M_label_Part_k1 (s : List UInt8) (t25 : Bool) : Option (Bool) :=
  if t25 = true then
    some false
  else
  if s.length ≤ 140737488355328 then
    Option.bind (loopO (fun z_ => M_label_Part_b2 s z_) 0) fun o =>
    match o with
    | .inl () =>
      some true
    | .inr r =>
      some r
  else none
noncomputable def M_label_Part (s : List UInt8) : Option Bool :=
  if (s.length : Int) < 1 then
    M_label_Part_k1 s true
  else
  if (63 : Int) < (s.length : Int) then
    M_label_Part_k1 s true
  else
  Option.bind (at? s 0) fun c =>
  if c = 45 then
    M_label_Part_k1 s true
  else
  if ok64 ((s.length : Int) - 1) then
    Option.bind (at? s ((s.length : Int) - 1)) fun c_2 =>
    M_label_Part_k1 s (decide (c_2 = 45))
  else none
noncomputable def M_label_Good_r1 (x : List UInt8) : Option (Unit ⊕ Unit) :=
  Option.bind (M_label_Part x) fun r1_2 =>
  if r1_2 = true then
    some (.inl ())
  else
    some (.inr ())
noncomputable def M_label_Good (s : List UInt8) : Option Bool :=
  if (253 : Int) < (s.length : Int) then
    some false
  else
  Option.bind (M_label_parts s) fun () =>
  Option.bind (M_label_parts_1_p (fun (_ : Unit) x => M_label_Good_r1 x) s ()) fun o =>
  match o with
  | .inl () =>
    some true
  | .inr () =>
    some false
noncomputable def M_label_Fold_k2 (b : List UInt8) (t10 : Int) (x : UInt8) (t20 : Bool) : Option ((List UInt8 × Int) ⊕ (List UInt8)) :=
  if t20 = true then
    Option.bind (at? b t10) fun x_2 =>
    if ok64 (t10 + 1) then
      some (.inl (b.set t10.toNat (x ||| 32), t10 + 1))
    else none
  else
  if ok64 (t10 + 1) then
    some (.inl (b, t10 + 1))
  else none
noncomputable def M_label_Fold_b1 (s : List UInt8) (b : List UInt8) (t10 : Int) : Option ((List UInt8 × Int) ⊕ (List UInt8)) :=
  if t10 < (s.length : Int) then
    Option.bind (at? b t10) fun x =>
    if (65 : UInt8) ≤ x then
      M_label_Fold_k2 b t10 x (decide (x ≤ 90))
    else
      M_label_Fold_k2 b t10 x false
  else
    some (.inr b)
noncomputable def M_label_Fold (s : List UInt8) : Option (List UInt8) :=
  if s.length ≤ 140737488355328 then
    Option.bind (loopO (fun z_ => M_label_Fold_b1 s z_.1 z_.2) (s, 0)) fun o =>
    match o with
    | b_2 =>
      some b_2
  else none
noncomputable def M_inst_Good_k1 (i : G_api_Instance) (t11 : Bool) : Option (Bool) :=
  if t11 = true then
    some false
  else
  if i.Gone = true then
    if i.Target.length ≤ maxLen then
      some (decide ((G_api_Instance.mk i.Publisher i.Seq i.Born i.Life i.Gone 0 0 0 ([] : List UInt8)) = i))
    else none
  else
  if i.Port = 0 then
    some false
  else
  Option.bind (M_label_Good i.Target) fun r1_2 =>
  if r1_2 = true then
    Option.bind (M_label_Fold i.Target) fun r1_3 =>
    some (decide (r1_3 = i.Target))
  else
    some false
noncomputable def M_inst_Good (i : G_api_Instance) : Option Bool :=
  if i.Life < 1 then
    M_inst_Good_k1 i true
  else
    M_inst_Good_k1 i (decide ((2147483647 : UInt32) < i.Life))
noncomputable def M_bytes_Compare_vv (a2 : List UInt8) (b : List UInt8) : Option Unit :=
  some ()
noncomputable def M_roster_order (i : G_api_Instance) (publisher : Fin 20 → UInt8) : Option Unit :=
  Option.bind (M_bytes_Compare_vv (List.ofFn i.Publisher) (List.ofFn publisher)) fun () =>
  some ()
noncomputable def M_roster_Good_v_b1 (l : List G_api_Instance) (t7 : Int) : Option (Int ⊕ (Unit ⊕ (Bool))) :=
  if t7 < (l.length : Int) then
    Option.bind (at? l t7) fun x =>
    Option.bind (M_inst_Good x) fun r1_2 =>
    if r1_2 = true then
      if (0 : Int) < t7 then
        if ok64 (t7 - 1) then
          Option.bind (at? l (t7 - 1)) fun x_2 =>
          Option.bind (M_roster_order x_2 x.Publisher) fun () =>
          if (0 : Int) ≤ (Lib.compareBytes (List.ofFn x_2.Publisher) (List.ofFn x.Publisher)) then
            some (.inr (.inr false))
          else
          if ok64 (t7 + 1) then
            some (.inl (t7 + 1))
          else none
        else none
      else
      if ok64 (t7 + 1) then
        some (.inl (t7 + 1))
      else none
    else
      some (.inr (.inr false))
  else
    some (.inr (.inl ()))
noncomputable def M_roster_Good_v (l : List G_api_Instance) : Option Bool :=
  Option.bind (loopO (fun z_ => M_roster_Good_v_b1 l z_) 0) fun o =>
  match o with
  | .inl () =>
    some (decide ((l.length : Int) ≤ 16))
  | .inr r =>
    some r
noncomputable def M_wire_Good_vv_k3 (Contacts : List G_api_Contact) (Roster : List G_api_Instance) (r1_2 : G_wire_parts) : Option (Bool) :=
  if r1_2.contacts = true then
    if r1_2.roster = true then
      some true
    else
      some (decide ((Roster.length : Int) = 0))
  else
  if (Contacts.length : Int) = 0 then
    if r1_2.roster = true then
      some true
    else
      some (decide ((Roster.length : Int) = 0))
  else
    some false
noncomputable def M_wire_Good_vv_k2 (Contacts : List G_api_Contact) (Roster : List G_api_Instance) (r1_2 : G_wire_parts) : Option (Bool) :=
  if r1_2.roster = true then
    if (Roster.length : Int) = 0 then
      some false
    else
    Option.bind (M_roster_Good_v Roster) fun r1_3 =>
    if r1_3 = true then
      M_wire_Good_vv_k3 Contacts Roster r1_2
    else
      some false
  else
    M_wire_Good_vv_k3 Contacts Roster r1_2
noncomputable def M_wire_Good_vv_k1 (Contacts : List G_api_Contact) (Roster : List G_api_Instance) (r1_2 : G_wire_parts) : Option (Bool) :=
  if r1_2.contacts = true then
    Option.bind (M_contact_List_v Contacts) fun (r3_2, r4_2) =>
    if r4_2 = 0 then
      M_wire_Good_vv_k2 Contacts Roster r1_2
    else
      some false
  else
    M_wire_Good_vv_k2 Contacts Roster r1_2
noncomputable def M_wire_Good_vv (Kind : Int) (Txn : UInt32) (From : Fin 20 → UInt8) (Contacts : List G_api_Contact) (Roster : List G_api_Instance) : Option Bool :=
  Option.bind (M_wire_has Kind) fun (r1_2, r2_2) =>
  if r2_2 = true then
    if r1_2.key = true then
      M_wire_Good_vv_k1 Contacts Roster r1_2
    else
    if From = (fun _ => 0) then
      M_wire_Good_vv_k1 Contacts Roster r1_2
    else
      some false
  else
    some false
noncomputable def M_slices_Concat_byte_s2ov (slices : List UInt8) (slices2 : List UInt8) : Option (List UInt8) :=
  if ok64 (0 + (slices.length : Int)) then
    if (0 + (slices.length : Int)) < 0 then
      none
    else
    if ok64 ((0 + (slices.length : Int)) + (slices2.length : Int)) then
      if ((0 + (slices.length : Int)) + (slices2.length : Int)) < 0 then
        none
      else
      Option.bind (M_slices_Grow_byte_n ((0 + (slices.length : Int)) + (slices2.length : Int))) fun r3_2 =>
      if (r3_2.length + slices.length) * 1 ≤ 140737488355328 then
        if ((r3_2 ++ slices).length + slices2.length) * 1 ≤ 140737488355328 then
          some ((r3_2 ++ slices) ++ slices2)
        else none
      else none
    else none
  else none
noncomputable def M_bytes_Clone_v (b : List UInt8) : Option (List UInt8) :=
  if (0 + b.length) * 1 ≤ 140737488355328 then
    some (([] : List UInt8) ++ b)
  else none
noncomputable def M_inst_Bytes_1_po (n : UInt64) (width : Int) (x : List UInt8) : Option (List UInt8) :=
  Option.bind (M_octet_Put_v x n width) fun r3_2 =>
  some r3_2
noncomputable def M_octet_Text_v (b : List UInt8) (s : List UInt8) : Option (List UInt8 × Int) :=
  if (1024 : Int) < (s.length : Int) then
    some (([] : List UInt8), 11)
  else
  Option.bind (M_octet_Put_v b (UInt64.ofInt (s.length : Int)) 2) fun r3_2 =>
  if (r3_2.length + s.length) * 1 ≤ 140737488355328 then
    some (r3_2 ++ s, 0)
  else none
noncomputable def M_inst_Bytes (i : G_api_Instance) : Option (List UInt8 × Int) :=
  Option.bind (M_inst_Good i) fun r1_2 =>
  if r1_2 = true then
    Option.bind (M_bytes_Clone_v (List.ofFn i.Publisher)) fun r3_2 =>
    Option.bind (M_inst_Bytes_1_po i.Seq 8 r3_2) fun r3_3 =>
    Option.bind (M_inst_Bytes_1_po i.Born 8 r3_3) fun r3_4 =>
    Option.bind (M_inst_Bytes_1_po i.Life.toUInt64 4 r3_4) fun r3_5 =>
    if i.Gone = true then
      Option.bind (M_inst_Bytes_1_po 1 1 r3_5) fun r3_6 =>
      some (r3_6, 0)
    else
    Option.bind (M_inst_Bytes_1_po 0 1 r3_5) fun r3_7 =>
    Option.bind (M_inst_Bytes_1_po i.Priority.toUInt64 2 r3_7) fun r3_8 =>
    Option.bind (M_inst_Bytes_1_po i.Weight.toUInt64 2 r3_8) fun r3_9 =>
    Option.bind (M_inst_Bytes_1_po i.Port.toUInt64 2 r3_9) fun r3_10 =>
    Option.bind (M_octet_Text_v r3_10 i.Target) fun (r3_11, r4_2) =>
    some (r3_11, r4_2)
  else
    some (([] : List UInt8), 2)
noncomputable def M_roster_Bytes_v_b1 (l : List G_api_Instance) (out : List UInt8) (t18 : Int) : Option ((List UInt8 × Int) ⊕ (List UInt8)) :=
  if t18 < (l.length : Int) then
    Option.bind (at? l t18) fun x =>
    Option.bind (M_inst_Bytes x) fun (r3_3, r4_2) =>
    if (out.length + r3_3.length) * 1 ≤ 140737488355328 then
      if ok64 (t18 + 1) then
        some (.inl (out ++ r3_3, t18 + 1))
      else none
    else none
  else
    some (.inr out)
noncomputable def M_roster_Bytes_v (l : List G_api_Instance) : Option (List UInt8 × Int) :=
  Option.bind (M_roster_Good_v l) fun r1_2 =>
  if r1_2 = true then
    Option.bind (M_octet_Put_v ([] : List UInt8) (UInt64.ofInt (l.length : Int)) 1) fun r3_2 =>
    Option.bind (loopO (fun z_ => M_roster_Bytes_v_b1 l z_.1 z_.2) (r3_2, 0)) fun o =>
    match o with
    | out_2 =>
      some (out_2, 0)
  else
    some (([] : List UInt8), 2)
noncomputable def M_wire_Encode_vv_k2 (Roster : List G_api_Instance) (r1_3 : G_wire_parts) (out_2 : List UInt8) : Option (List UInt8 × Int) :=
  if r1_3.roster = true then
    Option.bind (M_roster_Bytes_v Roster) fun (r3_7, r4_3) =>
    if (out_2.length + r3_7.length) * 1 ≤ 140737488355328 then
      some (out_2 ++ r3_7, 0)
    else none
  else
    some (out_2, 0)
noncomputable def M_wire_Encode_vv_k1 (Contacts : List G_api_Contact) (Roster : List G_api_Instance) (r1_3 : G_wire_parts) (out : List UInt8) : Option (List UInt8 × Int) :=
  if r1_3.contacts = true then
    Option.bind (M_contact_List_v Contacts) fun (r3_6, r4_2) =>
    if (out.length + r3_6.length) * 1 ≤ 140737488355328 then
      M_wire_Encode_vv_k2 Roster r1_3 (out ++ r3_6)
    else none
  else
    M_wire_Encode_vv_k2 Roster r1_3 out
noncomputable def M_wire_Encode_vv (Kind : Int) (Txn : UInt32) (From : Fin 20 → UInt8) (Contacts : List G_api_Contact) (Roster : List G_api_Instance) : Option (List UInt8 × Int) :=
  Option.bind (M_wire_Good_vv Kind Txn From Contacts Roster) fun r1_2 =>
  if r1_2 = true then
    Option.bind (M_wire_has Kind) fun (r1_3, r2_2) =>
    Option.bind (M_octet_Put_v ([] : List UInt8) 1 1) fun r3_2 =>
    Option.bind (M_octet_Put_v r3_2 (UInt64.ofInt Kind) 1) fun r3_3 =>
    Option.bind (M_octet_Put_v r3_3 Txn.toUInt64 4) fun r3_4 =>
    Option.bind (M_slices_Concat_byte_s2ov r3_4 (List.ofFn From)) fun r3_5 =>
    if r1_3.key = true then
      if (r3_5.length + 20) * 1 ≤ 140737488355328 then
        M_wire_Encode_vv_k1 Contacts Roster r1_3 (r3_5 ++ (List.ofFn From))
      else none
    else
      M_wire_Encode_vv_k1 Contacts Roster r1_3 r3_5
  else
    some (([] : List UInt8), 2)
noncomputable def M_wire_Answers (request : Int) (kind : Int) : Option Bool :=
  if request = 1 then
    some (decide (kind = 5))
  else
  if request = 2 then
    some (decide (kind = 6))
  else
  if request = 3 then
    if kind = 6 then
      some true
    else
      some (decide (kind = 7))
  else
  if request = 4 then
    if kind = 8 then
      some true
    else
      some (decide (kind = 9))
  else
    some false
noncomputable def M_signpostlaw14_lives  : Option Bool :=
  Option.bind (M_wire_Encode_vv 1 1 (fun _ => 0) ([] : List G_api_Contact) ([] : List G_api_Instance)) fun (r3_2, r4_2) =>
  if (r3_2.length : Int) = 26 then
    if (0 : Int) ≤ 6 ∧ (6 : Int) ≤ (r3_2.length : Int) then
      if (r3_2.take 6) = ([1, 1, 0, 0, 0, 1] : List UInt8) then
        if r4_2 = 0 then
          Option.bind (M_wire_Answers 1 5) fun r1_2 =>
          some r1_2
        else
          some false
      else
        some false
    else none
  else
    some false
noncomputable def M_octet_Open_v (b : List UInt8) : Option Unit :=
  if (0 + b.length) * 1 ≤ 140737488355328 then
    some ()
  else none
noncomputable def M_octet_Reader_none_po (b2 : List UInt8) (open_ : Bool) (bad : Bool) : Option Unit :=
  some ()
noncomputable def M_octet_rest_fail_po (b2 : List UInt8) (open_ : Bool) (bad : Bool) : Option Unit :=
  some ()
noncomputable def M_octet_rest_cut_po_k1 (b2 : List UInt8) (bad : Bool) (n : Int) (open_ : Bool) (t23 : Bool) : Option (Unit ⊕ Unit) :=
  if t23 = true then
    Option.bind (M_octet_rest_fail_po b2 open_ bad) fun () =>
    some (.inl ())
  else
  if (0 : Int) ≤ n ∧ n ≤ (b2.length : Int) then
    if (0 : Int) ≤ n ∧ n ≤ (b2.length : Int) then
      some (.inr ())
    else none
  else none
noncomputable def M_octet_rest_cut_po (b2 : List UInt8) (open_ : Bool) (bad : Bool) (n : Int) : Option (Unit ⊕ Unit) :=
  if bad = true then
    M_octet_rest_cut_po_k1 b2 bad n open_ true
  else
  if n < 0 then
    M_octet_rest_cut_po_k1 b2 bad n open_ true
  else
    M_octet_rest_cut_po_k1 b2 bad n open_ (decide ((b2.length : Int) < n))
noncomputable def M_octet_Get_v_b2 (at_ : Int) (b : List UInt8) (width : Int) (n : UInt64) (t39 : Int) : Option ((UInt64 × Int) ⊕ UInt64) :=
  if t39 < (((b.take ((at_ + width).toNat)).drop at_.toNat).length : Int) then
    Option.bind (at? ((b.take ((at_ + width).toNat)).drop at_.toNat) t39) fun x =>
    if ok64 (t39 + 1) then
      some (.inl ((shl64 n 8) ||| x.toUInt64, t39 + 1))
    else none
  else
    some (.inr n)
noncomputable def M_octet_Get_v_k1 (at_ : Int) (b : List UInt8) (width : Int) (t31 : Bool) : Option (UInt64 × Bool) :=
  if t31 = true then
    some (0, false)
  else
  if ok64 (at_ + width) then
    if ((0 : Int) ≤ at_ ∧ at_ ≤ (at_ + width)) ∧ (at_ + width) ≤ (b.length : Int) then
      Option.bind (loopO (fun z_ => M_octet_Get_v_b2 at_ b width z_.1 z_.2) (0, 0)) fun o =>
      match o with
      | n_2 =>
        some (n_2, true)
    else none
  else none
noncomputable def M_octet_Get_v (b : List UInt8) (at_ : Int) (width : Int) : Option (UInt64 × Bool) :=
  Option.bind (M_octet_may width) fun r1_2 =>
  if r1_2 = true then
    if at_ < 0 then
      M_octet_Get_v_k1 at_ b width true
    else
    if (b.length : Int) < at_ then
      M_octet_Get_v_k1 at_ b width true
    else
    if ok64 ((b.length : Int) - at_) then
      M_octet_Get_v_k1 at_ b width (decide (((b.length : Int) - at_) < width))
    else none
  else
    M_octet_Get_v_k1 at_ b width true
noncomputable def M_octet_Reader_Num_po (b2 : List UInt8) (open_ : Bool) (bad : Bool) (width : Int) : Option (UInt64 × List UInt8 × Bool) :=
  Option.bind (M_octet_Reader_none_po b2 open_ bad) fun () =>
  if open_ = true then
    Option.bind (M_octet_may width) fun r1_2 =>
    if r1_2 = true then
      Option.bind (M_octet_rest_cut_po b2 open_ bad width) fun y_ =>
      match y_ with
      | .inl () =>
        some (0, ([] : List UInt8), true)
      | .inr () =>
        Option.bind (M_octet_Get_v (b2.take width.toNat) 0 width) fun (r1_3, r2_2) =>
        some (r1_3, b2.drop width.toNat, bad)
    else
    Option.bind (M_octet_rest_fail_po b2 open_ bad) fun () =>
    some (0, ([] : List UInt8), true)
  else
    some (0, b2, bad)
noncomputable def M_octet_Reader_Take_po (b2 : List UInt8) (open_ : Bool) (bad : Bool) (n : Int) : Option (List UInt8 × List UInt8 × Bool) :=
  Option.bind (M_octet_Reader_none_po b2 open_ bad) fun () =>
  if open_ = true then
    Option.bind (M_octet_rest_cut_po b2 open_ bad n) fun y_ =>
    match y_ with
    | .inl () =>
      some (([] : List UInt8), ([] : List UInt8), true)
    | .inr () =>
      if (0 + (b2.take n.toNat).length) * 1 ≤ 140737488355328 then
        some (([] : List UInt8) ++ (b2.take n.toNat), b2.drop n.toNat, bad)
      else none
  else
    some (([] : List UInt8), b2, bad)
noncomputable def M_addr_Read_v (b : List UInt8) : Option (G_api_Addr × Int) :=
  if (b.length : Int) = 6 then
    Option.bind (M_octet_Open_v b) fun () =>
    Option.bind (M_octet_Reader_Num_po (([] : List UInt8) ++ b) true false 4) fun (r1_2, r4_2, r5_2) =>
    Option.bind (M_octet_Reader_Num_po r4_2 true r5_2 2) fun (r1_3, r4_3, r5_3) =>
    Option.bind (M_addr_Good (G_api_Addr.mk r1_2.toUInt32 r1_3.toUInt16)) fun r1_4 =>
    if r1_4 = true then
      some ((G_api_Addr.mk r1_2.toUInt32 r1_3.toUInt16), 0)
    else
      some ((G_api_Addr.mk 0 0), 10)
  else
    some ((G_api_Addr.mk 0 0), 10)
noncomputable def M_contact_Read_v (b : List UInt8) : Option (G_api_Contact × Int) :=
  if (b.length : Int) = 26 then
    if (0 : Int) ≤ 20 ∧ (20 : Int) ≤ (b.length : Int) then
      Option.bind (M_addr_Read_v (b.drop 20)) fun (r1_2, r2_2) =>
      if r2_2 = 0 then
        if (G_api_Contact.mk (copyA (fun _ => 0) b) r1_2) = (G_api_Contact.mk (fun _ => 0) (G_api_Addr.mk 0 0)) then
          some ((G_api_Contact.mk (fun _ => 0) (G_api_Addr.mk 0 0)), 10)
        else
          some ((G_api_Contact.mk (copyA (fun _ => 0) b) r1_2), 0)
      else
        some ((G_api_Contact.mk (fun _ => 0) (G_api_Addr.mk 0 0)), 10)
    else none
  else
    some ((G_api_Contact.mk (fun _ => 0) (G_api_Addr.mk 0 0)), 10)
noncomputable def M_contact_ReadList_po_b1 (open_ : Bool) (r1_2 : UInt64) (out : List G_api_Contact) (b_2 : List UInt8) (bad_2 : Bool) (t10 : UInt64) : Option ((List G_api_Contact × List UInt8 × Bool × UInt64) ⊕ ((List G_api_Contact × List UInt8 × Bool) ⊕ (List G_api_Contact × List UInt8 × Bool))) :=
  if t10 < r1_2 then
    Option.bind (M_octet_Reader_Take_po b_2 open_ bad_2 26) fun (r3_2, r6_2, r7_2) =>
    Option.bind (M_contact_Read_v r3_2) fun (r1_3, r2_2) =>
    if r2_2 = 0 then
      if (out.length + 1) * 28 ≤ 140737488355328 then
        some (.inl (out ++ [r1_3], r6_2, r7_2, t10 + 1))
      else none
    else
    Option.bind (M_octet_Reader_Take_po r6_2 open_ r7_2 (-1)) fun (r3_3, r6_3, r7_3) =>
    some (.inr (.inr (([] : List G_api_Contact), r6_3, r7_3)))
  else
    some (.inr (.inl (out, b_2, bad_2)))
noncomputable def M_contact_ReadList_po (b2 : List UInt8) (open_ : Bool) (bad : Bool) : Option (List G_api_Contact × List UInt8 × Bool) :=
  Option.bind (M_octet_Reader_Num_po b2 open_ bad 1) fun (r1_2, r4_2, r5_2) =>
  Option.bind (loopO (fun z_ => M_contact_ReadList_po_b1 open_ r1_2 z_.1 z_.2.1 z_.2.2.1 z_.2.2.2) (([] : List G_api_Contact), r4_2, r5_2, 0)) fun o =>
  match o with
  | .inl (out_2, b_3, bad_3) =>
    Option.bind (M_contact_good_v out_2) fun r1_4 =>
    if r1_4 = true then
      some (out_2, b_3, bad_3)
    else
    Option.bind (M_octet_Reader_Take_po b_3 open_ bad_3 (-1)) fun (r3_4, r6_4, r7_4) =>
    some (([] : List G_api_Contact), r6_4, r7_4)
  | .inr r =>
    some r
noncomputable def M_octet_Reader_Text_po_k1 (open_ : Bool) (r1_2 : UInt64) (r4_2 : List UInt8) (r5_2 : Bool) (t24 : Bool) : Option (List UInt8 × List UInt8 × Bool) :=
  if t24 = true then
    Option.bind (M_octet_rest_fail_po r4_2 open_ r5_2) fun () =>
    some (([] : List UInt8), ([] : List UInt8), true)
  else
  Option.bind (M_octet_Reader_Take_po r4_2 open_ r5_2 (r1_2.toNat : Int)) fun (r3_2, r6_2, r7_2) =>
  some (r3_2, r6_2, r7_2)
noncomputable def M_octet_Reader_Text_po (b2 : List UInt8) (open_ : Bool) (bad : Bool) (most : Int) : Option (List UInt8 × List UInt8 × Bool) :=
  Option.bind (M_octet_Reader_none_po b2 open_ bad) fun () =>
  if open_ = true then
    Option.bind (M_octet_Reader_Num_po b2 open_ bad 2) fun (r1_2, r4_2, r5_2) =>
    if r1_2.toNat < 9223372036854775808 then
      if r5_2 = true then
        M_octet_Reader_Text_po_k1 open_ r1_2 r4_2 r5_2 true
      else
      if most < (r1_2.toNat : Int) then
        M_octet_Reader_Text_po_k1 open_ r1_2 r4_2 r5_2 true
      else
        M_octet_Reader_Text_po_k1 open_ r1_2 r4_2 r5_2 (decide ((1024 : Int) < (r1_2.toNat : Int)))
    else none
  else
    some (([] : List UInt8), b2, bad)
noncomputable def M_octet_Reader_Bad_po (b2 : List UInt8) (open_ : Bool) (bad : Bool) : Option Bool :=
  Option.bind (M_octet_Reader_none_po b2 open_ bad) fun () =>
  if open_ = true then
    some bad
  else
    some true
noncomputable def M_inst_Read_po_k2 (b_2 : List UInt8) (bad_2 : Bool) (i : G_api_Instance) (open_ : Bool) (t53 : Bool) : Option (G_api_Instance × Bool × List UInt8 × Bool) :=
  if t53 = true then
    Option.bind (M_octet_Reader_Take_po b_2 open_ bad_2 (-1)) fun (r3_3, r6_3, r7_3) =>
    some ((G_api_Instance.mk (fun _ => 0) 0 0 0 false 0 0 0 ([] : List UInt8)), false, r6_3, r7_3)
  else
    some (i, true, b_2, bad_2)
noncomputable def M_inst_Read_po_k1 (open_ : Bool) (r1_5 : UInt64) (b_2 : List UInt8) (bad_2 : Bool) (i : G_api_Instance) : Option (G_api_Instance × Bool × List UInt8 × Bool) :=
  Option.bind (M_octet_Reader_Bad_po b_2 open_ bad_2) fun r1_10 =>
  if r1_10 = true then
    M_inst_Read_po_k2 b_2 bad_2 i open_ true
  else
  if (1 : UInt64) < r1_5 then
    M_inst_Read_po_k2 b_2 bad_2 i open_ true
  else
  Option.bind (M_inst_Good i) fun r1_11 =>
  M_inst_Read_po_k2 b_2 bad_2 i open_ (!r1_11)
noncomputable def M_inst_Read_po (b2 : List UInt8) (open_ : Bool) (bad : Bool) : Option (G_api_Instance × Bool × List UInt8 × Bool) :=
  Option.bind (M_octet_Reader_Take_po b2 open_ bad 20) fun (r3_2, r6_2, r7_2) =>
  Option.bind (M_octet_Reader_Num_po r6_2 open_ r7_2 8) fun (r1_2, r4_2, r5_2) =>
  Option.bind (M_octet_Reader_Num_po r4_2 open_ r5_2 8) fun (r1_3, r4_3, r5_3) =>
  Option.bind (M_octet_Reader_Num_po r4_3 open_ r5_3 4) fun (r1_4, r4_4, r5_4) =>
  Option.bind (M_octet_Reader_Num_po r4_4 open_ r5_4 1) fun (r1_5, r4_5, r5_5) =>
  if r1_5 = 0 then
    Option.bind (M_octet_Reader_Num_po r4_5 open_ r5_5 2) fun (r1_6, r4_6, r5_6) =>
    Option.bind (M_octet_Reader_Num_po r4_6 open_ r5_6 2) fun (r1_7, r4_7, r5_7) =>
    Option.bind (M_octet_Reader_Num_po r4_7 open_ r5_7 2) fun (r1_8, r4_8, r5_8) =>
    Option.bind (M_octet_Reader_Text_po r4_8 open_ r5_8 1024) fun (r1_9, r4_9, r5_9) =>
    M_inst_Read_po_k1 open_ r1_5 r4_9 r5_9 (G_api_Instance.mk (copyA (fun _ => 0) r3_2) r1_2 r1_3 r1_4.toUInt32 (decide (r1_5 = 1)) r1_6.toUInt16 r1_7.toUInt16 r1_8.toUInt16 r1_9)
  else
    M_inst_Read_po_k1 open_ r1_5 r4_5 r5_5 (G_api_Instance.mk (copyA (fun _ => 0) r3_2) r1_2 r1_3 r1_4.toUInt32 (decide (r1_5 = 1)) 0 0 0 ([] : List UInt8))
noncomputable def M_roster_Read_po_b1 (open_ : Bool) (r1_2 : UInt64) (b_2 : List UInt8) (bad_2 : Bool) (out : List G_api_Instance) (t7 : UInt64) : Option ((List UInt8 × Bool × List G_api_Instance × UInt64) ⊕ ((List UInt8 × Bool × List G_api_Instance) ⊕ (List G_api_Instance × List UInt8 × Bool))) :=
  if t7 < r1_2 then
    Option.bind (M_inst_Read_po b_2 open_ bad_2) fun (r1_3, r2_2, r5_3, r6_2) =>
    if r2_2 = true then
      if (out.length + 1) * 72 ≤ 140737488355328 then
        some (.inl (r5_3, r6_2, out ++ [r1_3], t7 + 1))
      else none
    else
      some (.inr (.inr (([] : List G_api_Instance), r5_3, r6_2)))
  else
    some (.inr (.inl (b_2, bad_2, out)))
noncomputable def M_roster_Read_po (b2 : List UInt8) (open_ : Bool) (bad : Bool) : Option (List G_api_Instance × List UInt8 × Bool) :=
  Option.bind (M_octet_Reader_Num_po b2 open_ bad 1) fun (r1_2, r4_2, r5_2) =>
  Option.bind (loopO (fun z_ => M_roster_Read_po_b1 open_ r1_2 z_.1 z_.2.1 z_.2.2.1 z_.2.2.2) (r4_2, r5_2, ([] : List G_api_Instance), 0)) fun o =>
  match o with
  | .inl (b_3, bad_3, out_2) =>
    Option.bind (M_roster_Good_v out_2) fun r1_4 =>
    if r1_4 = true then
      some (out_2, b_3, bad_3)
    else
    Option.bind (M_octet_Reader_Take_po b_3 open_ bad_3 (-1)) fun (r3_2, r6_3, r7_2) =>
    some (([] : List G_api_Instance), r6_3, r7_2)
  | .inr r =>
    some r
noncomputable def M_octet_rest_left_po (b2 : List UInt8) (open_ : Bool) (bad : Bool) : Option Unit :=
  some ()
noncomputable def M_octet_Reader_Done_po (b2 : List UInt8) (open_ : Bool) (bad : Bool) : Option Int :=
  Option.bind (M_octet_Reader_none_po b2 open_ bad) fun () =>
  if open_ = true then
    if bad = true then
      some 10
    else
    Option.bind (M_octet_rest_left_po b2 open_ bad) fun () =>
    if (0 : Int) < (b2.length : Int) then
      some 10
    else
      some 0
  else
    some 1
noncomputable def M_wire_Good_vv_2_k3 (Contacts : List G_api_Contact) (Roster : List G_api_Instance) (r1_2 : G_wire_parts) : Option (Bool) :=
  if r1_2.contacts = true then
    if r1_2.roster = true then
      some true
    else
      some (decide ((Roster.length : Int) = 0))
  else
  if (Contacts.length : Int) = 0 then
    if r1_2.roster = true then
      some true
    else
      some (decide ((Roster.length : Int) = 0))
  else
    some false
noncomputable def M_wire_Good_vv_2_k2 (Contacts : List G_api_Contact) (Roster : List G_api_Instance) (r1_2 : G_wire_parts) : Option (Bool) :=
  if r1_2.roster = true then
    if (Roster.length : Int) = 0 then
      some false
    else
    Option.bind (M_roster_Good_v Roster) fun r1_3 =>
    if r1_3 = true then
      M_wire_Good_vv_2_k3 Contacts Roster r1_2
    else
      some false
  else
    M_wire_Good_vv_2_k3 Contacts Roster r1_2
noncomputable def M_wire_Good_vv_2_k1 (Contacts : List G_api_Contact) (Roster : List G_api_Instance) (r1_2 : G_wire_parts) : Option (Bool) :=
  if r1_2.contacts = true then
    Option.bind (M_contact_List_v Contacts) fun (r3_2, r4_2) =>
    if r4_2 = 0 then
      M_wire_Good_vv_2_k2 Contacts Roster r1_2
    else
      some false
  else
    M_wire_Good_vv_2_k2 Contacts Roster r1_2
noncomputable def M_wire_Good_vv_2 (Kind : Int) (Txn : UInt32) (From : Fin 20 → UInt8) (Key : Fin 20 → UInt8) (Contacts : List G_api_Contact) (Roster : List G_api_Instance) : Option Bool :=
  Option.bind (M_wire_has Kind) fun (r1_2, r2_2) =>
  if r2_2 = true then
    if r1_2.key = true then
      M_wire_Good_vv_2_k1 Contacts Roster r1_2
    else
    if Key = (fun _ => 0) then
      M_wire_Good_vv_2_k1 Contacts Roster r1_2
    else
      some false
  else
    some false
noncomputable def M_wire_Decode_v_k3 (Contacts : List G_api_Contact) (Key : Fin 20 → UInt8) (r1_2 : UInt64) (r1_3 : UInt64) (r1_4 : UInt64) (r3_2 : List UInt8) (b_4 : List UInt8) (bad_3 : Bool) (Roster : List G_api_Instance) : Option (Int × UInt32 × (Fin 20 → UInt8) × (Fin 20 → UInt8) × List G_api_Contact × List G_api_Instance × Int) :=
  if r1_2 = 1 then
    Option.bind (M_octet_Reader_Done_po b_4 true bad_3) fun r1_6 =>
    if r1_6 = 0 then
      Option.bind (M_wire_Good_vv_2 (r1_3.toNat : Int) r1_4.toUInt32 (copyA (fun _ => 0) r3_2) Key Contacts Roster) fun r1_7 =>
      if r1_7 = true then
        some ((r1_3.toNat : Int), r1_4.toUInt32, copyA (fun _ => 0) r3_2, Key, Contacts, Roster, 0)
      else
        some (0, 0, (fun _ => 0), (fun _ => 0), ([] : List G_api_Contact), ([] : List G_api_Instance), 10)
    else
      some (0, 0, (fun _ => 0), (fun _ => 0), ([] : List G_api_Contact), ([] : List G_api_Instance), 10)
  else
    some (0, 0, (fun _ => 0), (fun _ => 0), ([] : List G_api_Contact), ([] : List G_api_Instance), 10)
noncomputable def M_wire_Decode_v_k2 (Key : Fin 20 → UInt8) (r1_2 : UInt64) (r1_3 : UInt64) (r1_4 : UInt64) (r1_5 : G_wire_parts) (r3_2 : List UInt8) (b_3 : List UInt8) (bad_2 : Bool) (Contacts : List G_api_Contact) : Option (Int × UInt32 × (Fin 20 → UInt8) × (Fin 20 → UInt8) × List G_api_Contact × List G_api_Instance × Int) :=
  if r1_5.roster = true then
    Option.bind (M_roster_Read_po b_3 true bad_2) fun (r3_5, r6_5, r7_5) =>
    M_wire_Decode_v_k3 Contacts Key r1_2 r1_3 r1_4 r3_2 r6_5 r7_5 r3_5
  else
    M_wire_Decode_v_k3 Contacts Key r1_2 r1_3 r1_4 r3_2 b_3 bad_2 ([] : List G_api_Instance)
noncomputable def M_wire_Decode_v_k1 (r1_2 : UInt64) (r1_3 : UInt64) (r1_4 : UInt64) (r1_5 : G_wire_parts) (r3_2 : List UInt8) (b_2 : List UInt8) (bad : Bool) (Key : Fin 20 → UInt8) : Option (Int × UInt32 × (Fin 20 → UInt8) × (Fin 20 → UInt8) × List G_api_Contact × List G_api_Instance × Int) :=
  if r1_5.contacts = true then
    Option.bind (M_contact_ReadList_po b_2 true bad) fun (r3_4, r6_4, r7_4) =>
    M_wire_Decode_v_k2 Key r1_2 r1_3 r1_4 r1_5 r3_2 r6_4 r7_4 r3_4
  else
    M_wire_Decode_v_k2 Key r1_2 r1_3 r1_4 r1_5 r3_2 b_2 bad ([] : List G_api_Contact)
noncomputable def M_wire_Decode_v (b : List UInt8) : Option (Int × UInt32 × (Fin 20 → UInt8) × (Fin 20 → UInt8) × List G_api_Contact × List G_api_Instance × Int) :=
  Option.bind (M_octet_Open_v b) fun () =>
  Option.bind (M_octet_Reader_Num_po (([] : List UInt8) ++ b) true false 1) fun (r1_2, r4_2, r5_2) =>
  Option.bind (M_octet_Reader_Num_po r4_2 true r5_2 1) fun (r1_3, r4_3, r5_3) =>
  if r1_3.toNat < 9223372036854775808 then
    Option.bind (M_octet_Reader_Num_po r4_3 true r5_3 4) fun (r1_4, r4_4, r5_4) =>
    Option.bind (M_octet_Reader_Take_po r4_4 true r5_4 20) fun (r3_2, r6_2, r7_2) =>
    Option.bind (M_wire_has (r1_3.toNat : Int)) fun (r1_5, r2_2) =>
    if r1_5.key = true then
      Option.bind (M_octet_Reader_Take_po r6_2 true r7_2 20) fun (r3_3, r6_3, r7_3) =>
      M_wire_Decode_v_k1 r1_2 r1_3 r1_4 r1_5 r3_2 r6_3 r7_3 (copyA (fun _ => 0) r3_3)
    else
      M_wire_Decode_v_k1 r1_2 r1_3 r1_4 r1_5 r3_2 r6_2 r7_2 (fun _ => 0)
  else none
noncomputable def M_signpostref01_Get_v_b2 (at_ : Int) (b : List UInt8) (width : Int) (n : UInt64) (i : Int) : Option ((UInt64 × Int) ⊕ UInt64) :=
  if i < width then
    if ok64 (at_ + i) then
      Option.bind (at? b (at_ + i)) fun x =>
      if ok64 (i + 1) then
        some (.inl ((n * 256) + x.toUInt64, i + 1))
      else none
    else none
  else
    some (.inr n)
noncomputable def M_signpostref01_Get_v_k1 (at_ : Int) (b : List UInt8) (width : Int) (t33 : Bool) : Option (UInt64 × Bool) :=
  if t33 = true then
    some (0, false)
  else
  Option.bind (loopO (fun z_ => M_signpostref01_Get_v_b2 at_ b width z_.1 z_.2) (0, 0)) fun o =>
  match o with
  | n_2 =>
    some (n_2, true)
noncomputable def M_signpostref01_Get_v (b : List UInt8) (at_ : Int) (width : Int) : Option (UInt64 × Bool) :=
  if width < 1 then
    M_signpostref01_Get_v_k1 at_ b width true
  else
  if (8 : Int) < width then
    M_signpostref01_Get_v_k1 at_ b width true
  else
  if at_ < 0 then
    M_signpostref01_Get_v_k1 at_ b width true
  else
  if (b.length : Int) < at_ then
    M_signpostref01_Get_v_k1 at_ b width true
  else
  if ok64 ((b.length : Int) - at_) then
    M_signpostref01_Get_v_k1 at_ b width (decide (((b.length : Int) - at_) < width))
  else none
noncomputable def M_signpostref01_Reader_fail_pv (B : List UInt8) (At : Int) (Bad : Bool) : Option Unit :=
  some ()
noncomputable def M_signpostref01_Reader_Num_pv_k1 (At : Int) (B : List UInt8) (Bad : Bool) (r1_2 : UInt64) (width : Int) (t27 : Bool) : Option (UInt64 × Int × Bool) :=
  if t27 = true then
    Option.bind (M_signpostref01_Reader_fail_pv B At Bad) fun () =>
    some (0, (B.length : Int), true)
  else
  if ok64 (At + width) then
    some (r1_2, At + width, Bad)
  else none
noncomputable def M_signpostref01_Reader_Num_pv (B : List UInt8) (At : Int) (Bad : Bool) (width : Int) : Option (UInt64 × Int × Bool) :=
  Option.bind (M_signpostref01_Get_v B At width) fun (r1_2, r2_2) =>
  if Bad = true then
    M_signpostref01_Reader_Num_pv_k1 At B Bad r1_2 width true
  else
    M_signpostref01_Reader_Num_pv_k1 At B Bad r1_2 width (!r2_2)
noncomputable def M_signpostref01_Reader_Take_pv_k1 (At : Int) (B : List UInt8) (Bad : Bool) (n : Int) (t26 : Bool) : Option (List UInt8 × Int × Bool) :=
  if t26 = true then
    Option.bind (M_signpostref01_Reader_fail_pv B At Bad) fun () =>
    some (([] : List UInt8), (B.length : Int), true)
  else
  if ok64 (At + n) then
    if ok64 ((At + n) - n) then
      if ((0 : Int) ≤ ((At + n) - n) ∧ ((At + n) - n) ≤ (At + n)) ∧ (At + n) ≤ (B.length : Int) then
        if (0 + ((B.take ((At + n).toNat)).drop (((At + n) - n).toNat)).length) * 1 ≤ 140737488355328 then
          some (([] : List UInt8) ++ ((B.take ((At + n).toNat)).drop (((At + n) - n).toNat)), At + n, Bad)
        else none
      else none
    else none
  else none
noncomputable def M_signpostref01_Reader_Take_pv (B : List UInt8) (At : Int) (Bad : Bool) (n : Int) : Option (List UInt8 × Int × Bool) :=
  if Bad = true then
    M_signpostref01_Reader_Take_pv_k1 At B Bad n true
  else
  if n < 0 then
    M_signpostref01_Reader_Take_pv_k1 At B Bad n true
  else
  if ok64 ((B.length : Int) - At) then
    M_signpostref01_Reader_Take_pv_k1 At B Bad n (decide (((B.length : Int) - At) < n))
  else none
noncomputable def M_signpostref14_keyed (kind : Int) : Option Bool :=
  if (2 : Int) ≤ kind then
    if kind ≤ 9 then
      some (!(decide (kind = 5)))
    else
      some false
  else
    some false
noncomputable def M_signpostref06_Good (a : G_signpostref06_Addr) : Option Bool :=
  if a.Host = 0 then
    some false
  else
    some (!(decide (a.Port = 0)))
noncomputable def M_signpostref06_Read_v (b : List UInt8) : Option (G_signpostref06_Addr × Int) :=
  if (b.length : Int) = 6 then
    Option.bind (M_signpostref01_Get_v b 0 4) fun (r1_2, r2_2) =>
    Option.bind (M_signpostref01_Get_v b 4 2) fun (r1_3, r2_3) =>
    Option.bind (M_signpostref06_Good (G_signpostref06_Addr.mk r1_2.toUInt32 r1_3.toUInt16)) fun r1_4 =>
    if r1_4 = true then
      some ((G_signpostref06_Addr.mk r1_2.toUInt32 r1_3.toUInt16), 0)
    else
      some ((G_signpostref06_Addr.mk 0 0), 10)
  else
    some ((G_signpostref06_Addr.mk 0 0), 10)
noncomputable def M_signpostref08_Read_v (b : List UInt8) : Option (G_signpostref08_Contact × Int) :=
  if (b.length : Int) = 26 then
    if (0 : Int) ≤ 20 ∧ (20 : Int) ≤ (b.length : Int) then
      if (0 : Int) ≤ 20 ∧ (20 : Int) ≤ (b.length : Int) then
        Option.bind (M_signpostref06_Read_v (b.drop 20)) fun (r1_2, r2_2) =>
        if r2_2 = 0 then
          some ((G_signpostref08_Contact.mk (copyA (fun _ => 0) (b.take 20)) r1_2), 0)
        else
          some ((G_signpostref08_Contact.mk (fun _ => 0) (G_signpostref06_Addr.mk 0 0)), 10)
      else none
    else none
  else
    some ((G_signpostref08_Contact.mk (fun _ => 0) (G_signpostref06_Addr.mk 0 0)), 10)
noncomputable def M_signpostref08_Good (c : G_signpostref08_Contact) : Option Bool :=
  Option.bind (M_signpostref06_Good c.Addr) fun r1_2 =>
  some r1_2
noncomputable def M_signpostref08_Find_v_b1 (id : Fin 20 → UInt8) (l : List G_signpostref08_Contact) (i : Int) : Option (Int ⊕ (Unit ⊕ (Int))) :=
  if i < (l.length : Int) then
    Option.bind (at? l i) fun x =>
    if x.ID = id then
      some (.inr (.inr i))
    else
    if ok64 (i + 1) then
      some (.inl (i + 1))
    else none
  else
    some (.inr (.inl ()))
noncomputable def M_signpostref08_Find_v (l : List G_signpostref08_Contact) (id : Fin 20 → UInt8) : Option Int :=
  Option.bind (loopO (fun z_ => M_signpostref08_Find_v_b1 id l z_) 0) fun o =>
  match o with
  | .inl () =>
    some (-1)
  | .inr r =>
    some r
noncomputable def M_signpostref08_GoodList_v_b1 (l : List G_signpostref08_Contact) (i : Int) : Option (Int ⊕ (Unit ⊕ (Bool))) :=
  if i < (l.length : Int) then
    Option.bind (at? l i) fun x =>
    Option.bind (M_signpostref08_Good x) fun r1_2 =>
    if r1_2 = true then
      Option.bind (M_signpostref08_Find_v l x.ID) fun r1_3 =>
      if r1_3 = i then
        if ok64 (i + 1) then
          some (.inl (i + 1))
        else none
      else
        some (.inr (.inr false))
    else
      some (.inr (.inr false))
  else
    some (.inr (.inl ()))
noncomputable def M_signpostref08_GoodList_v (l : List G_signpostref08_Contact) : Option Bool :=
  Option.bind (loopO (fun z_ => M_signpostref08_GoodList_v_b1 l z_) 0) fun o =>
  match o with
  | .inl () =>
    some (decide ((l.length : Int) ≤ 64))
  | .inr r =>
    some r
noncomputable def M_signpostref08_ReadList_pv_b1 (B : List UInt8) (r1_2 : UInt64) (At_2 : Int) (Bad_2 : Bool) (out : List G_signpostref08_Contact) (i : Int) : Option ((Int × Bool × List G_signpostref08_Contact × Int) ⊕ ((Int × Bool × List G_signpostref08_Contact) ⊕ (List G_signpostref08_Contact × Int × Bool))) :=
  if i < (r1_2.toNat : Int) then
    Option.bind (M_signpostref01_Reader_Take_pv B At_2 Bad_2 26) fun (r3_3, r4_2, r5_2) =>
    Option.bind (M_signpostref08_Read_v r3_3) fun (r1_3, r2_3) =>
    if r2_3 = 0 then
      if (out.length + 1) * 28 ≤ 140737488355328 then
        if ok64 (i + 1) then
          some (.inl (r4_2, r5_2, out ++ [r1_3], i + 1))
        else none
      else none
    else
    Option.bind (M_signpostref01_Reader_Take_pv B r4_2 r5_2 (-1)) fun (r3_4, r4_3, r5_3) =>
    some (.inr (.inr (([] : List G_signpostref08_Contact), r4_3, r5_3)))
  else
    some (.inr (.inl (At_2, Bad_2, out)))
noncomputable def M_signpostref08_ReadList_pv (B : List UInt8) (At : Int) (Bad : Bool) : Option (List G_signpostref08_Contact × Int × Bool) :=
  Option.bind (M_signpostref01_Reader_Num_pv B At Bad 1) fun (r1_2, r2_2, r3_2) =>
  if r1_2.toNat < 9223372036854775808 then
    Option.bind (loopO (fun z_ => M_signpostref08_ReadList_pv_b1 B r1_2 z_.1 z_.2.1 z_.2.2.1 z_.2.2.2) (r2_2, r3_2, ([] : List G_signpostref08_Contact), 0)) fun o =>
    match o with
    | .inl (At_3, Bad_3, out_2) =>
      Option.bind (M_signpostref08_GoodList_v out_2) fun r1_4 =>
      if r1_4 = true then
        some (out_2, At_3, Bad_3)
      else
      Option.bind (M_signpostref01_Reader_Take_pv B At_3 Bad_3 (-1)) fun (r3_5, r4_4, r5_4) =>
      some (([] : List G_signpostref08_Contact), r4_4, r5_4)
    | .inr r =>
      some r
  else none
noncomputable def M_signpostref14_Back_v_b1 (l : List G_signpostref08_Contact) (out : List G_api_Contact) (i : Int) : Option ((List G_api_Contact × Int) ⊕ (List G_api_Contact)) :=
  if i < (l.length : Int) then
    Option.bind (at? l i) fun x =>
    if (out.length + 1) * 28 ≤ 140737488355328 then
      if ok64 (i + 1) then
        some (.inl (out ++ [(G_api_Contact.mk x.ID (G_api_Addr.mk x.Addr.Host x.Addr.Port))], i + 1))
      else none
    else none
  else
    some (.inr out)
noncomputable def M_signpostref14_Back_v (l : List G_signpostref08_Contact) : Option (List G_api_Contact) :=
  Option.bind (loopO (fun z_ => M_signpostref14_Back_v_b1 l z_.1 z_.2) (([] : List G_api_Contact), 0)) fun o =>
  match o with
  | out_2 =>
    some out_2
noncomputable def M_signpostref14_listed (kind : Int) : Option Bool :=
  if kind = 4 then
    some true
  else
    some (decide (kind = 7))
noncomputable def M_signpostref01_Reader_Text_pv_k1 (B : List UInt8) (r1_2 : UInt64) (r2_2 : Int) (r3_2 : Bool) (t21 : Bool) : Option (List UInt8 × Int × Bool) :=
  if t21 = true then
    Option.bind (M_signpostref01_Reader_fail_pv B r2_2 r3_2) fun () =>
    some (([] : List UInt8), (B.length : Int), true)
  else
  Option.bind (M_signpostref01_Reader_Take_pv B r2_2 r3_2 (r1_2.toNat : Int)) fun (r3_3, r4_2, r5_2) =>
  some (r3_3, r4_2, r5_2)
noncomputable def M_signpostref01_Reader_Text_pv (B : List UInt8) (At : Int) (Bad : Bool) (most : Int) : Option (List UInt8 × Int × Bool) :=
  Option.bind (M_signpostref01_Reader_Num_pv B At Bad 2) fun (r1_2, r2_2, r3_2) =>
  if r1_2.toNat < 9223372036854775808 then
    if r3_2 = true then
      M_signpostref01_Reader_Text_pv_k1 B r1_2 r2_2 r3_2 true
    else
    if most < (r1_2.toNat : Int) then
      M_signpostref01_Reader_Text_pv_k1 B r1_2 r2_2 r3_2 true
    else
      M_signpostref01_Reader_Text_pv_k1 B r1_2 r2_2 r3_2 (decide ((1024 : Int) < (r1_2.toNat : Int)))
  else none
noncomputable def M_signpostref09_Parts_k2 (from_ : Int) (i : Int) (out : List (List UInt8)) (s : List UInt8) (t21 : Bool) : Option ((List (List UInt8) × Int × Int) ⊕ (List (List UInt8))) :=
  if t21 = true then
    if ((0 : Int) ≤ from_ ∧ from_ ≤ i) ∧ i ≤ (s.length : Int) then
      if (out.length + 1) * 16 ≤ 140737488355328 then
        if ok64 (i + 1) then
          if ok64 (i + 1) then
            some (.inl (out ++ [(s.take i.toNat).drop from_.toNat], i + 1, i + 1))
          else none
        else none
      else none
    else none
  else
  if ok64 (i + 1) then
    some (.inl (out, from_, i + 1))
  else none
noncomputable def M_signpostref09_Parts_b1 (s : List UInt8) (out : List (List UInt8)) (from_ : Int) (i : Int) : Option ((List (List UInt8) × Int × Int) ⊕ (List (List UInt8))) :=
  if i ≤ (s.length : Int) then
    if i = (s.length : Int) then
      M_signpostref09_Parts_k2 from_ i out s true
    else
    Option.bind (at? s i) fun c_3 =>
    M_signpostref09_Parts_k2 from_ i out s (decide (c_3 = 46))
  else
    some (.inr out)
noncomputable def M_signpostref09_Parts (s : List UInt8) : Option (List (List UInt8)) :=
  Option.bind (loopO (fun z_ => M_signpostref09_Parts_b1 s z_.1 z_.2.1 z_.2.2) (([] : List (List UInt8)), 0, 0)) fun o =>
  match o with
  | out_2 =>
    some out_2
noncomputable def M_signpostref09_letter (b : UInt8) : Option Bool :=
  if (97 : UInt8) ≤ b then
    if b ≤ 122 then
      some true
    else
    if (65 : UInt8) ≤ b then
      some (decide (b ≤ 90))
    else
      some false
  else
  if (65 : UInt8) ≤ b then
    some (decide (b ≤ 90))
  else
    some false
noncomputable def M_signpostref09_Part_k2 (i : Int) : Option (Int ⊕ (Unit ⊕ (Bool))) :=
  if ok64 (i + 1) then
    some (.inl (i + 1))
  else none
noncomputable def M_signpostref09_Part_k3 (i : Int) (t39 : Bool) : Option (Int ⊕ (Unit ⊕ (Bool))) :=
  if t39 = true then
    some (.inr (.inr false))
  else
    M_signpostref09_Part_k2 i
noncomputable def M_signpostref09_Part_b1 (s : List UInt8) (i : Int) : Option (Int ⊕ (Unit ⊕ (Bool))) :=
  if i < (s.length : Int) then
    Option.bind (at? s i) fun c =>
    Option.bind (M_signpostref09_letter c) fun r1_2 =>
    if r1_2 = true then
      M_signpostref09_Part_k3 i false
    else
    Option.bind (at? s i) fun c_2 =>
    if (48 : UInt8) ≤ c_2 then
      Option.bind (at? s i) fun c_3 =>
      if c_3 ≤ 57 then
        M_signpostref09_Part_k3 i false
      else
      Option.bind (at? s i) fun c_4 =>
      if c_4 = 45 then
        M_signpostref09_Part_k3 i false
      else
      Option.bind (at? s i) fun c_5 =>
      M_signpostref09_Part_k3 i (!(decide (c_5 = 95)))
    else
    Option.bind (at? s i) fun c_6 =>
    if c_6 = 45 then
      M_signpostref09_Part_k3 i false
    else
    Option.bind (at? s i) fun c_7 =>
    M_signpostref09_Part_k3 i (!(decide (c_7 = 95)))
  else
    some (.inr (.inl ()))
noncomputable def M_signpostref09_Part (s : List UInt8) : Option Bool :=
  Option.bind (loopO (fun z_ => M_signpostref09_Part_b1 s z_) 0) fun o =>
  match o with
  | .inl () =>
    if (1 : Int) ≤ (s.length : Int) then
      if (s.length : Int) ≤ 63 then
        Option.bind (at? s 0) fun c_8 =>
        if c_8 = 45 then
          some false
        else
        if ok64 ((s.length : Int) - 1) then
          Option.bind (at? s ((s.length : Int) - 1)) fun c_9 =>
          some (!(decide (c_9 = 45)))
        else none
      else
        some false
    else
      some false
  | .inr r =>
    some r
noncomputable def M_signpostref09_Good_b1 (r3_2 : List (List UInt8)) (i : Int) : Option (Int ⊕ (Unit ⊕ (Bool))) :=
  if i < (r3_2.length : Int) then
    Option.bind (at? r3_2 i) fun x =>
    Option.bind (M_signpostref09_Part x) fun r1_2 =>
    if r1_2 = true then
      if ok64 (i + 1) then
        some (.inl (i + 1))
      else none
    else
      some (.inr (.inr false))
  else
    some (.inr (.inl ()))
noncomputable def M_signpostref09_Good (s : List UInt8) : Option Bool :=
  Option.bind (M_signpostref09_Parts s) fun r3_2 =>
  Option.bind (loopO (fun z_ => M_signpostref09_Good_b1 r3_2 z_) 0) fun o =>
  match o with
  | .inl () =>
    if ok64 ((s.length : Int) + 2) then
      some (decide (((s.length : Int) + 2) ≤ 255))
    else none
  | .inr r =>
    some r
noncomputable def M_signpostref09_Fold_k2 (b : List UInt8) (i : Int) (t24 : Bool) : Option ((List UInt8 × Int) ⊕ (List UInt8)) :=
  if t24 = true then
    Option.bind (at? b i) fun x_2 =>
    if ok64 (i + 1) then
      some (.inl (b.set i.toNat ((x_2 + 97) - 65), i + 1))
    else none
  else
  if ok64 (i + 1) then
    some (.inl (b, i + 1))
  else none
noncomputable def M_signpostref09_Fold_b1 (s : List UInt8) (b : List UInt8) (i : Int) : Option ((List UInt8 × Int) ⊕ (List UInt8)) :=
  if i < (s.length : Int) then
    Option.bind (at? b i) fun x =>
    if (65 : UInt8) ≤ x then
      M_signpostref09_Fold_k2 b i (decide (x ≤ 90))
    else
      M_signpostref09_Fold_k2 b i false
  else
    some (.inr b)
noncomputable def M_signpostref09_Fold (s : List UInt8) : Option (List UInt8) :=
  if s.length ≤ 140737488355328 then
    Option.bind (loopO (fun z_ => M_signpostref09_Fold_b1 s z_.1 z_.2) (s, 0)) fun o =>
    match o with
    | b_2 =>
      some b_2
  else none
noncomputable def M_signpostref11_Good_k2 (t2 : Bool) : Option (Bool) :=
  some t2
noncomputable def M_signpostref11_Good_k1 (i : G_api_Instance) (t10 : Bool) : Option (Bool) :=
  if t10 = true then
    some false
  else
  if i.Gone = true then
    if i.Priority = 0 then
      if i.Weight = 0 then
        if i.Port = 0 then
          M_signpostref11_Good_k2 (decide (i.Target = ([] : List UInt8)))
        else
          M_signpostref11_Good_k2 false
      else
        M_signpostref11_Good_k2 false
    else
      M_signpostref11_Good_k2 false
  else
  if i.Port = 0 then
    some false
  else
  Option.bind (M_signpostref09_Good i.Target) fun r1_2 =>
  if r1_2 = true then
    Option.bind (M_signpostref09_Fold i.Target) fun r1_3 =>
    some (decide (r1_3 = i.Target))
  else
    some false
noncomputable def M_signpostref11_Good (i : G_api_Instance) : Option Bool :=
  if i.Life < 1 then
    M_signpostref11_Good_k1 i true
  else
    M_signpostref11_Good_k1 i (decide ((2147483647 : UInt32) < i.Life))
noncomputable def M_signpostref11_Read_pv_k2 (At_2 : Int) (B : List UInt8) (Bad_2 : Bool) (i : G_api_Instance) (t55 : Bool) : Option (G_api_Instance × Bool × Int × Bool) :=
  if t55 = true then
    Option.bind (M_signpostref01_Reader_Take_pv B At_2 Bad_2 (-1)) fun (r3_11, r4_3, r5_3) =>
    some ((G_api_Instance.mk (fun _ => 0) 0 0 0 false 0 0 0 ([] : List UInt8)), false, r4_3, r5_3)
  else
    some (i, true, At_2, Bad_2)
noncomputable def M_signpostref11_Read_pv_k1 (B : List UInt8) (r1_5 : UInt64) (At_2 : Int) (Bad_2 : Bool) (i : G_api_Instance) : Option (G_api_Instance × Bool × Int × Bool) :=
  if Bad_2 = true then
    M_signpostref11_Read_pv_k2 At_2 B Bad_2 i true
  else
  if (1 : UInt64) < r1_5 then
    M_signpostref11_Read_pv_k2 At_2 B Bad_2 i true
  else
  Option.bind (M_signpostref11_Good i) fun r1_10 =>
  M_signpostref11_Read_pv_k2 At_2 B Bad_2 i (!r1_10)
noncomputable def M_signpostref11_Read_pv (B : List UInt8) (At : Int) (Bad : Bool) : Option (G_api_Instance × Bool × Int × Bool) :=
  Option.bind (M_signpostref01_Reader_Take_pv B At Bad 20) fun (r3_2, r4_2, r5_2) =>
  Option.bind (M_signpostref01_Reader_Num_pv B r4_2 r5_2 8) fun (r1_2, r2_2, r3_3) =>
  Option.bind (M_signpostref01_Reader_Num_pv B r2_2 r3_3 8) fun (r1_3, r2_3, r3_4) =>
  Option.bind (M_signpostref01_Reader_Num_pv B r2_3 r3_4 4) fun (r1_4, r2_4, r3_5) =>
  Option.bind (M_signpostref01_Reader_Num_pv B r2_4 r3_5 1) fun (r1_5, r2_5, r3_6) =>
  if r1_5 = 0 then
    Option.bind (M_signpostref01_Reader_Num_pv B r2_5 r3_6 2) fun (r1_6, r2_6, r3_7) =>
    Option.bind (M_signpostref01_Reader_Num_pv B r2_6 r3_7 2) fun (r1_7, r2_7, r3_8) =>
    Option.bind (M_signpostref01_Reader_Num_pv B r2_7 r3_8 2) fun (r1_8, r2_8, r3_9) =>
    Option.bind (M_signpostref01_Reader_Text_pv B r2_8 r3_9 1024) fun (r1_9, r2_9, r3_10) =>
    M_signpostref11_Read_pv_k1 B r1_5 r2_9 r3_10 (G_api_Instance.mk (copyA (fun _ => 0) r3_2) r1_2 r1_3 r1_4.toUInt32 (decide (r1_5 = 1)) r1_6.toUInt16 r1_7.toUInt16 r1_8.toUInt16 r1_9)
  else
    M_signpostref11_Read_pv_k1 B r1_5 r2_5 r3_6 (G_api_Instance.mk (copyA (fun _ => 0) r3_2) r1_2 r1_3 r1_4.toUInt32 (decide (r1_5 = 1)) 0 0 0 ([] : List UInt8))
noncomputable def M_signpostref12_before (a : G_api_Instance) (b : G_api_Instance) : Option Unit :=
  some ()
noncomputable def M_signpostref12_Good_v_b1 (l : List G_api_Instance) (i : Int) : Option (Int ⊕ (Unit ⊕ (Bool))) :=
  if i < (l.length : Int) then
    Option.bind (at? l i) fun x =>
    Option.bind (M_signpostref11_Good x) fun r1_2 =>
    if r1_2 = true then
      if (0 : Int) < i then
        if ok64 (i - 1) then
          Option.bind (at? l (i - 1)) fun x_2 =>
          Option.bind (M_signpostref12_before x_2 x) fun () =>
          if (ltS (List.ofFn x_2.Publisher) (List.ofFn x.Publisher)) = true then
            if ok64 (i + 1) then
              some (.inl (i + 1))
            else none
          else
            some (.inr (.inr false))
        else none
      else
      if ok64 (i + 1) then
        some (.inl (i + 1))
      else none
    else
      some (.inr (.inr false))
  else
    some (.inr (.inl ()))
noncomputable def M_signpostref12_Good_v (l : List G_api_Instance) : Option Bool :=
  Option.bind (loopO (fun z_ => M_signpostref12_Good_v_b1 l z_) 0) fun o =>
  match o with
  | .inl () =>
    some (decide ((l.length : Int) ≤ 16))
  | .inr r =>
    some r
noncomputable def M_signpostref12_Read_pv_k2 (At_2 : Int) (B : List UInt8) (Bad_2 : Bool) (i : Int) (out : List G_api_Instance) (t20 : Bool) : Option ((Int × Bool × List G_api_Instance × Int) ⊕ (Int × Bool × List G_api_Instance)) :=
  if t20 = true then
    Option.bind (M_signpostref11_Read_pv B At_2 Bad_2) fun (r1_3, r2_3, r3_3, r4_2) =>
    if (out.length + 1) * 72 ≤ 140737488355328 then
      if ok64 (i + 1) then
        some (.inl (r3_3, r4_2, out ++ [r1_3], i + 1))
      else none
    else none
  else
    some (.inr (At_2, Bad_2, out))
noncomputable def M_signpostref12_Read_pv_b1 (B : List UInt8) (r1_2 : UInt64) (At_2 : Int) (Bad_2 : Bool) (out : List G_api_Instance) (i : Int) : Option ((Int × Bool × List G_api_Instance × Int) ⊕ (Int × Bool × List G_api_Instance)) :=
  if i < (r1_2.toNat : Int) then
    M_signpostref12_Read_pv_k2 At_2 B Bad_2 i out (!Bad_2)
  else
    M_signpostref12_Read_pv_k2 At_2 B Bad_2 i out false
noncomputable def M_signpostref12_Read_pv (B : List UInt8) (At : Int) (Bad : Bool) : Option (List G_api_Instance × Int × Bool) :=
  Option.bind (M_signpostref01_Reader_Num_pv B At Bad 1) fun (r1_2, r2_2, r3_2) =>
  if r1_2.toNat < 9223372036854775808 then
    Option.bind (loopO (fun z_ => M_signpostref12_Read_pv_b1 B r1_2 z_.1 z_.2.1 z_.2.2.1 z_.2.2.2) (r2_2, r3_2, ([] : List G_api_Instance), 0)) fun o =>
    match o with
    | (At_3, Bad_3, out_2) =>
      if Bad_3 = true then
        Option.bind (M_signpostref01_Reader_Take_pv B At_3 Bad_3 (-1)) fun (r3_4, r4_3, r5_2) =>
        some (([] : List G_api_Instance), r4_3, r5_2)
      else
      Option.bind (M_signpostref12_Good_v out_2) fun r1_4 =>
      if r1_4 = true then
        some (out_2, At_3, Bad_3)
      else
      Option.bind (M_signpostref01_Reader_Take_pv B At_3 Bad_3 (-1)) fun (r3_5, r4_4, r5_3) =>
      some (([] : List G_api_Instance), r4_4, r5_3)
  else none
noncomputable def M_signpostref01_Reader_Left_pv (B : List UInt8) (At : Int) (Bad : Bool) : Option Unit :=
  if ok64 ((B.length : Int) - At) then
    some ()
  else none
noncomputable def M_signpostref01_Reader_Done_pv (B : List UInt8) (At : Int) (Bad : Bool) : Option Int :=
  if Bad = true then
    some 10
  else
  Option.bind (M_signpostref01_Reader_Left_pv B At Bad) fun () =>
  if (0 : Int) < ((B.length : Int) - At) then
    some 10
  else
    some 0
noncomputable def M_signpostref14_Plain_v_b1 (l : List G_api_Contact) (out : List G_signpostref08_Contact) (i : Int) : Option ((List G_signpostref08_Contact × Int) ⊕ (List G_signpostref08_Contact)) :=
  if i < (l.length : Int) then
    Option.bind (at? l i) fun x =>
    if (out.length + 1) * 28 ≤ 140737488355328 then
      if ok64 (i + 1) then
        some (.inl (out ++ [(G_signpostref08_Contact.mk x.ID (G_signpostref06_Addr.mk x.Addr.Host x.Addr.Port))], i + 1))
      else none
    else none
  else
    some (.inr out)
noncomputable def M_signpostref14_Plain_v (l : List G_api_Contact) : Option (List G_signpostref08_Contact) :=
  Option.bind (loopO (fun z_ => M_signpostref14_Plain_v_b1 l z_.1 z_.2) (([] : List G_signpostref08_Contact), 0)) fun o =>
  match o with
  | out_2 =>
    some out_2
noncomputable def M_signpostref14_Good_vv_k3 (Kind : Int) (Roster : List G_api_Instance) : Option (Bool) :=
  Option.bind (M_signpostref14_listed Kind) fun r1_4 =>
  if r1_4 = true then
    if (0 : Int) < (Roster.length : Int) then
      Option.bind (M_signpostref12_Good_v Roster) fun r1_5 =>
      some r1_5
    else
      some false
  else
    some (decide ((Roster.length : Int) = 0))
noncomputable def M_signpostref14_Good_vv_k2 (Contacts : List G_api_Contact) (Kind : Int) (Roster : List G_api_Instance) : Option (Bool) :=
  if Kind = 6 then
    Option.bind (M_signpostref14_Plain_v Contacts) fun r3_2 =>
    Option.bind (M_signpostref08_GoodList_v r3_2) fun r1_3 =>
    if r1_3 = true then
      M_signpostref14_Good_vv_k3 Kind Roster
    else
      some false
  else
  if (0 : Int) < (Contacts.length : Int) then
    some false
  else
    M_signpostref14_Good_vv_k3 Kind Roster
noncomputable def M_signpostref14_Good_vv_k1 (Contacts : List G_api_Contact) (Key : Fin 20 → UInt8) (Kind : Int) (Roster : List G_api_Instance) (t10 : Bool) : Option (Bool) :=
  if t10 = true then
    some false
  else
  Option.bind (M_signpostref14_keyed Kind) fun r1_2 =>
  if r1_2 = true then
    M_signpostref14_Good_vv_k2 Contacts Kind Roster
  else
  if Key = (fun _ => 0) then
    M_signpostref14_Good_vv_k2 Contacts Kind Roster
  else
    some false
noncomputable def M_signpostref14_Good_vv (Kind : Int) (Txn : UInt32) (From : Fin 20 → UInt8) (Key : Fin 20 → UInt8) (Contacts : List G_api_Contact) (Roster : List G_api_Instance) : Option Bool :=
  if Kind < 1 then
    M_signpostref14_Good_vv_k1 Contacts Key Kind Roster true
  else
    M_signpostref14_Good_vv_k1 Contacts Key Kind Roster (decide ((9 : Int) < Kind))
noncomputable def M_signpostref14_Decode_v_k3 (Contacts : List G_api_Contact) (Key : Fin 20 → UInt8) (b : List UInt8) (r1_2 : UInt64) (r1_3 : UInt64) (r1_4 : UInt64) (r3_5 : List UInt8) (At_3 : Int) (Bad_3 : Bool) (Roster : List G_api_Instance) : Option (Int × UInt32 × (Fin 20 → UInt8) × (Fin 20 → UInt8) × List G_api_Contact × List G_api_Instance × Int) :=
  if r1_2 = 1 then
    Option.bind (M_signpostref01_Reader_Done_pv b At_3 Bad_3) fun r1_7 =>
    if r1_7 = 0 then
      Option.bind (M_signpostref14_Good_vv (r1_3.toNat : Int) r1_4.toUInt32 (copyA (fun _ => 0) r3_5) Key Contacts Roster) fun r1_8 =>
      if r1_8 = true then
        some ((r1_3.toNat : Int), r1_4.toUInt32, copyA (fun _ => 0) r3_5, Key, Contacts, Roster, 0)
      else
        some (0, 0, (fun _ => 0), (fun _ => 0), ([] : List G_api_Contact), ([] : List G_api_Instance), 10)
    else
      some (0, 0, (fun _ => 0), (fun _ => 0), ([] : List G_api_Contact), ([] : List G_api_Instance), 10)
  else
    some (0, 0, (fun _ => 0), (fun _ => 0), ([] : List G_api_Contact), ([] : List G_api_Instance), 10)
noncomputable def M_signpostref14_Decode_v_k2 (Key : Fin 20 → UInt8) (b : List UInt8) (r1_2 : UInt64) (r1_3 : UInt64) (r1_4 : UInt64) (r3_5 : List UInt8) (At_2 : Int) (Bad_2 : Bool) (Contacts : List G_api_Contact) : Option (Int × UInt32 × (Fin 20 → UInt8) × (Fin 20 → UInt8) × List G_api_Contact × List G_api_Instance × Int) :=
  Option.bind (M_signpostref14_listed (r1_3.toNat : Int)) fun r1_6 =>
  if r1_6 = true then
    Option.bind (M_signpostref12_Read_pv b At_2 Bad_2) fun (r3_9, r4_5, r5_5) =>
    M_signpostref14_Decode_v_k3 Contacts Key b r1_2 r1_3 r1_4 r3_5 r4_5 r5_5 r3_9
  else
    M_signpostref14_Decode_v_k3 Contacts Key b r1_2 r1_3 r1_4 r3_5 At_2 Bad_2 ([] : List G_api_Instance)
noncomputable def M_signpostref14_Decode_v_k1 (b : List UInt8) (r1_2 : UInt64) (r1_3 : UInt64) (r1_4 : UInt64) (r3_5 : List UInt8) (At : Int) (Bad : Bool) (Key : Fin 20 → UInt8) : Option (Int × UInt32 × (Fin 20 → UInt8) × (Fin 20 → UInt8) × List G_api_Contact × List G_api_Instance × Int) :=
  if (r1_3.toNat : Int) = 6 then
    Option.bind (M_signpostref08_ReadList_pv b At Bad) fun (r3_7, r4_4, r5_4) =>
    Option.bind (M_signpostref14_Back_v r3_7) fun r3_8 =>
    M_signpostref14_Decode_v_k2 Key b r1_2 r1_3 r1_4 r3_5 r4_4 r5_4 r3_8
  else
    M_signpostref14_Decode_v_k2 Key b r1_2 r1_3 r1_4 r3_5 At Bad ([] : List G_api_Contact)
noncomputable def M_signpostref14_Decode_v (b : List UInt8) : Option (Int × UInt32 × (Fin 20 → UInt8) × (Fin 20 → UInt8) × List G_api_Contact × List G_api_Instance × Int) :=
  Option.bind (M_signpostref01_Reader_Num_pv b 0 false 1) fun (r1_2, r2_2, r3_2) =>
  Option.bind (M_signpostref01_Reader_Num_pv b r2_2 r3_2 1) fun (r1_3, r2_3, r3_3) =>
  if r1_3.toNat < 9223372036854775808 then
    Option.bind (M_signpostref01_Reader_Num_pv b r2_3 r3_3 4) fun (r1_4, r2_4, r3_4) =>
    Option.bind (M_signpostref01_Reader_Take_pv b r2_4 r3_4 20) fun (r3_5, r4_2, r5_2) =>
    Option.bind (M_signpostref14_keyed (r1_3.toNat : Int)) fun r1_5 =>
    if r1_5 = true then
      Option.bind (M_signpostref01_Reader_Take_pv b r4_2 r5_2 20) fun (r3_6, r4_3, r5_3) =>
      M_signpostref14_Decode_v_k1 b r1_2 r1_3 r1_4 r3_5 r4_3 r5_3 (copyA (fun _ => 0) r3_6)
    else
      M_signpostref14_Decode_v_k1 b r1_2 r1_3 r1_4 r3_5 r4_2 r5_2 (fun _ => 0)
  else none
noncomputable def M_signpostref12_Same_vv_b1 (a2 : List G_api_Instance) (b : List G_api_Instance) (i : Int) : Option (Int ⊕ (Unit ⊕ (Bool))) :=
  if i < (a2.length : Int) then
    Option.bind (at? a2 i) fun x =>
    Option.bind (at? b i) fun x_2 =>
    if x.Target.length ≤ maxLen then
      if x_2.Target.length ≤ maxLen then
        if x = x_2 then
          if ok64 (i + 1) then
            some (.inl (i + 1))
          else none
        else
          some (.inr (.inr false))
      else none
    else none
  else
    some (.inr (.inl ()))
noncomputable def M_signpostref12_Same_vv (a2 : List G_api_Instance) (b : List G_api_Instance) : Option Bool :=
  if (a2.length : Int) = (b.length : Int) then
    Option.bind (loopO (fun z_ => M_signpostref12_Same_vv_b1 a2 b z_) 0) fun o =>
    match o with
    | .inl () =>
      some true
    | .inr r =>
      some r
  else
    some false
noncomputable def M_signpostref14_Same_vvvv_b2 (Contacts : List G_api_Contact) (Contacts2 : List G_api_Contact) (i : Int) : Option (Int ⊕ (Unit ⊕ (Bool))) :=
  if i < (Contacts.length : Int) then
    Option.bind (at? Contacts i) fun x =>
    Option.bind (at? Contacts2 i) fun x_2 =>
    if x = x_2 then
      if ok64 (i + 1) then
        some (.inl (i + 1))
      else none
    else
      some (.inr (.inr false))
  else
    some (.inr (.inl ()))
noncomputable def M_signpostref14_Same_vvvv_k1 (Contacts : List G_api_Contact) (Contacts2 : List G_api_Contact) (Roster : List G_api_Instance) (Roster2 : List G_api_Instance) (t40 : Bool) : Option (Bool) :=
  if t40 = true then
    some false
  else
  Option.bind (loopO (fun z_ => M_signpostref14_Same_vvvv_b2 Contacts Contacts2 z_) 0) fun o =>
  match o with
  | .inl () =>
    Option.bind (M_signpostref12_Same_vv Roster Roster2) fun r1_2 =>
    some r1_2
  | .inr r =>
    some r
noncomputable def M_signpostref14_Same_vvvv (Kind : Int) (Txn : UInt32) (From : Fin 20 → UInt8) (Key : Fin 20 → UInt8) (Contacts : List G_api_Contact) (Roster : List G_api_Instance) (Kind2 : Int) (Txn2 : UInt32) (From2 : Fin 20 → UInt8) (Key2 : Fin 20 → UInt8) (Contacts2 : List G_api_Contact) (Roster2 : List G_api_Instance) : Option Bool :=
  if Kind = Kind2 then
    if Txn = Txn2 then
      if From = From2 then
        if Key = Key2 then
          M_signpostref14_Same_vvvv_k1 Contacts Contacts2 Roster Roster2 (!(decide ((Contacts.length : Int) = (Contacts2.length : Int))))
        else
          M_signpostref14_Same_vvvv_k1 Contacts Contacts2 Roster Roster2 true
      else
        M_signpostref14_Same_vvvv_k1 Contacts Contacts2 Roster Roster2 true
    else
      M_signpostref14_Same_vvvv_k1 Contacts Contacts2 Roster Roster2 true
  else
    M_signpostref14_Same_vvvv_k1 Contacts Contacts2 Roster Roster2 true
noncomputable def M_wire_Encode_vv_2_k2 (Roster : List G_api_Instance) (r1_3 : G_wire_parts) (out_2 : List UInt8) : Option (List UInt8 × Int) :=
  if r1_3.roster = true then
    Option.bind (M_roster_Bytes_v Roster) fun (r3_7, r4_3) =>
    if (out_2.length + r3_7.length) * 1 ≤ 140737488355328 then
      some (out_2 ++ r3_7, 0)
    else none
  else
    some (out_2, 0)
noncomputable def M_wire_Encode_vv_2_k1 (Contacts : List G_api_Contact) (Roster : List G_api_Instance) (r1_3 : G_wire_parts) (out : List UInt8) : Option (List UInt8 × Int) :=
  if r1_3.contacts = true then
    Option.bind (M_contact_List_v Contacts) fun (r3_6, r4_2) =>
    if (out.length + r3_6.length) * 1 ≤ 140737488355328 then
      M_wire_Encode_vv_2_k2 Roster r1_3 (out ++ r3_6)
    else none
  else
    M_wire_Encode_vv_2_k2 Roster r1_3 out
noncomputable def M_wire_Encode_vv_2 (Kind : Int) (Txn : UInt32) (From : Fin 20 → UInt8) (Key : Fin 20 → UInt8) (Contacts : List G_api_Contact) (Roster : List G_api_Instance) : Option (List UInt8 × Int) :=
  Option.bind (M_wire_Good_vv_2 Kind Txn From Key Contacts Roster) fun r1_2 =>
  if r1_2 = true then
    Option.bind (M_wire_has Kind) fun (r1_3, r2_2) =>
    Option.bind (M_octet_Put_v ([] : List UInt8) 1 1) fun r3_2 =>
    Option.bind (M_octet_Put_v r3_2 (UInt64.ofInt Kind) 1) fun r3_3 =>
    Option.bind (M_octet_Put_v r3_3 Txn.toUInt64 4) fun r3_4 =>
    Option.bind (M_slices_Concat_byte_s2ov r3_4 (List.ofFn From)) fun r3_5 =>
    if r1_3.key = true then
      if (r3_5.length + 20) * 1 ≤ 140737488355328 then
        M_wire_Encode_vv_2_k1 Contacts Roster r1_3 (r3_5 ++ (List.ofFn Key))
      else none
    else
      M_wire_Encode_vv_2_k1 Contacts Roster r1_3 r3_5
  else
    some (([] : List UInt8), 2)
noncomputable def M_signpostlaw14_WireDecodes_v_k1 (b : List UInt8) (r10_2 : List G_api_Instance) (r11_2 : Int) (r1_3 : Int) (r2_2 : UInt32) (r3_2 : Fin 20 → UInt8) (r4_2 : Fin 20 → UInt8) (r7_2 : List G_api_Contact) (t31 : Bool) : Option (Bool) :=
  if t31 = true then
    some false
  else
  if r11_2 = 0 then
    Option.bind (M_wire_Encode_vv_2 r1_3 r2_2 r3_2 r4_2 r7_2 r10_2) fun (r3_4, r4_4) =>
    if r4_4 = 0 then
      if r3_4 = b then
        Option.bind (M_wire_Good_vv_2 r1_3 r2_2 r3_2 r4_2 r7_2 r10_2) fun r1_6 =>
        if r1_6 = true then
          Option.bind (M_signpostlaw14_lives) fun r1_7 =>
          some r1_7
        else
          some false
      else
        some false
    else
      some false
  else
  Option.bind (M_signpostlaw14_lives) fun r1_8 =>
  some r1_8
noncomputable def M_signpostlaw14_WireDecodes_v (b : List UInt8) : Option Bool :=
  if (6000 : Int) < (b.length : Int) then
    Option.bind (M_signpostlaw14_lives) fun r1_2 =>
    some r1_2
  else
  Option.bind (M_wire_Decode_v b) fun (r1_3, r2_2, r3_2, r4_2, r7_2, r10_2, r11_2) =>
  Option.bind (M_signpostref14_Decode_v b) fun (r1_4, r2_3, r3_3, r4_3, r7_3, r10_3, r11_3) =>
  Option.bind (M_signpostref14_Same_vvvv r1_3 r2_2 r3_2 r4_2 r7_2 r10_2 r1_4 r2_3 r3_3 r4_3 r7_3 r10_3) fun r1_5 =>
  if r1_5 = true then
    M_signpostlaw14_WireDecodes_v_k1 b r10_2 r11_2 r1_3 r2_2 r3_2 r4_2 r7_2 (!(decide (r11_2 = r11_3)))
  else
    M_signpostlaw14_WireDecodes_v_k1 b r10_2 r11_2 r1_3 r2_2 r3_2 r4_2 r7_2 true
end Go.Proofs.Ytleemokneeoikaa
