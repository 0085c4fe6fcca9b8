/-
  What the functions that the statement WireBack reaches compute, each as a Lean function. No condition.
-/
import Derived.Test.YtleemokneeoikaaBRange
import Derived.Test.YtleemokneeoikaaBIns
namespace Go.Proofs.Ytleemokneeoikaa
open Go Go.RowKit
set_option linter.unusedVariables false
set_option linter.unusedSimpArgs false
set_option linter.unnecessarySimpa false
structure G_api_Addr where
  Host : UInt32
  Port : UInt16
  deriving DecidableEq
def el_G_api_Addr : El G_api_Addr := ⟨fun x => [(v32 x.Host), (v16 x.Port)], 2, fun x => by simp [bytesV_length], fun x => (List.forall_mem_cons.2 ⟨rfl, (List.forall_mem_cons.2 ⟨rfl, (fun _ hh => by cases hh)⟩)⟩)⟩
structure G_api_Contact where
  ID : Fin 20 → UInt8
  Addr : G_api_Addr
  deriving DecidableEq
def el_G_api_Contact : El G_api_Contact := ⟨fun x => (bytesV (List.ofFn (n := 20) x.ID) ++ (([(v32 x.Addr.Host), (v16 x.Addr.Port)] : List Value))), 22, fun x => by simp [bytesV_length], fun x => (List.forall_mem_append.2 ⟨(bytesV_one _), (List.forall_mem_cons.2 ⟨rfl, (List.forall_mem_cons.2 ⟨rfl, (fun _ hh => by cases hh)⟩)⟩)⟩)⟩
structure G_api_Instance where
  Publisher : Fin 20 → UInt8
  Seq : UInt64
  Born : UInt64
  Life : UInt32
  Gone : Bool
  Priority : UInt16
  Weight : UInt16
  Port : UInt16
  Target : List UInt8
  deriving DecidableEq
def el_G_api_Instance : El G_api_Instance := ⟨fun x => (bytesV (List.ofFn (n := 20) x.Publisher) ++ (([(v64 x.Seq), (v64 x.Born), (v32 x.Life), (.bool x.Gone), (v16 x.Priority), (v16 x.Weight), (v16 x.Port), (.string (str x.Target))] : List Value))), 28, fun x => by simp [bytesV_length], fun x => (List.forall_mem_append.2 ⟨(bytesV_one _), (List.forall_mem_cons.2 ⟨rfl, (List.forall_mem_cons.2 ⟨rfl, (List.forall_mem_cons.2 ⟨rfl, (List.forall_mem_cons.2 ⟨rfl, (List.forall_mem_cons.2 ⟨rfl, (List.forall_mem_cons.2 ⟨rfl, (List.forall_mem_cons.2 ⟨rfl, (List.forall_mem_cons.2 ⟨rfl, (fun _ hh => by cases hh)⟩)⟩)⟩)⟩)⟩)⟩)⟩)⟩)⟩)⟩
structure G_wire_parts where
  key : Bool
  contacts : Bool
  roster : Bool
  deriving DecidableEq
def el_G_wire_parts : El G_wire_parts := ⟨fun x => [(.bool x.key), (.bool x.contacts), (.bool x.roster)], 3, fun x => by simp [bytesV_length], fun x => (List.forall_mem_cons.2 ⟨rfl, (List.forall_mem_cons.2 ⟨rfl, (List.forall_mem_cons.2 ⟨rfl, (fun _ hh => by cases hh)⟩)⟩)⟩)⟩
def G_api_Addr_wf (x : G_api_Addr) : Prop := True
def G_api_Contact_wf (x : G_api_Contact) : Prop := G_api_Addr_wf x.Addr
def G_api_Instance_wf (x : G_api_Instance) : Prop := x.Target.length ≤ 140737488351232
def G_wire_parts_wf (x : G_wire_parts) : Prop := True
noncomputable def M_signpostlaw12_Light_v_b1 (l : List G_api_Instance) (t7 : Int) : Option (Int ⊕ (Unit ⊕ (Bool))) :=
  if t7 < (l.length : Int) then
    Option.bind (at? l t7) fun x =>
    if (300 : Int) < (x.Target.length : Int) then
      some (.inr (.inr false))
    else
    if ok64 (t7 + 1) then
      some (.inl (t7 + 1))
    else none
  else
    some (.inr (.inl ()))
noncomputable def M_signpostlaw12_Light_v (l : List G_api_Instance) : Option Bool :=
  Option.bind (loopO (fun z_ => M_signpostlaw12_Light_v_b1 l z_) 0) fun o =>
  match o with
  | .inl () =>
    some (decide ((l.length : Int) ≤ 40))
  | .inr r =>
    some r
noncomputable def M_signpostlaw14_Light_vv (Kind : Int) (Txn : UInt32) (From : Fin 20 → UInt8) (Key : Fin 20 → UInt8) (Contacts : List G_api_Contact) (Roster : List G_api_Instance) : Option Bool :=
  if (Contacts.length : Int) ≤ 80 then
    Option.bind (M_signpostlaw12_Light_v Roster) fun r1_2 =>
    some r1_2
  else
    some false
noncomputable def M_wire_has_k3 (t14 : Bool) : Option (G_wire_parts × Bool) :=
  if t14 = true then
    some ((G_wire_parts.mk true false false), true)
  else
    some ((G_wire_parts.mk false false false), false)
noncomputable def M_wire_has_k2 (kind : Int) (t11 : Bool) : Option (G_wire_parts × Bool) :=
  if t11 = true then
    some ((G_wire_parts.mk false false false), true)
  else
  if kind = 2 then
    M_wire_has_k3 (decide (kind = 2))
  else
  if kind = 3 then
    M_wire_has_k3 (decide (kind = 3))
  else
  if kind = 8 then
    M_wire_has_k3 (decide (kind = 8))
  else
    M_wire_has_k3 (decide (kind = 9))
noncomputable def M_wire_has_k1  : Option (G_wire_parts × Bool) :=
  some ((G_wire_parts.mk true false true), true)
noncomputable def M_wire_has (kind : Int) : Option (G_wire_parts × Bool) :=
  if kind = 4 then
    M_wire_has_k1
  else
  if kind = 7 then
    M_wire_has_k1
  else
  if kind = 6 then
    some ((G_wire_parts.mk true true false), true)
  else
  if kind = 1 then
    M_wire_has_k2 kind (decide (kind = 1))
  else
    M_wire_has_k2 kind (decide (kind = 5))
noncomputable def M_addr_Good (a : G_api_Addr) : Option Bool :=
  if a.Host = 0 then
    some false
  else
  if a.Port = 0 then
    some false
  else
    some (!(decide (a = (G_api_Addr.mk 0 0))))
noncomputable def M_contact_Good (c : G_api_Contact) : Option Bool :=
  Option.bind (M_addr_Good c.Addr) fun r1_2 =>
  some r1_2
noncomputable def M_contact_Find_1_p (c : G_api_Contact) (x : Fin 20 → UInt8) : Option Unit :=
  some ()
noncomputable def M_slices_IndexFunc_Contact_v_contact_Find_1p_b1 (f : Fin 20 → UInt8) (s : List G_api_Contact) (t8 : Int) : Option (Int ⊕ (Unit ⊕ (Int))) :=
  if t8 < (s.length : Int) then
    Option.bind (at? s t8) fun x =>
    Option.bind (M_contact_Find_1_p x f) fun () =>
    if x.ID = f then
      some (.inr (.inr t8))
    else
    if ok64 (t8 + 1) then
      some (.inl (t8 + 1))
    else none
  else
    some (.inr (.inl ()))
noncomputable def M_slices_IndexFunc_Contact_v_contact_Find_1p (s : List G_api_Contact) (f : Fin 20 → UInt8) : Option Int :=
  Option.bind (loopO (fun z_ => M_slices_IndexFunc_Contact_v_contact_Find_1p_b1 f s z_) 0) fun o =>
  match o with
  | .inl () =>
    some (-1)
  | .inr r =>
    some r
noncomputable def M_contact_Find_v (l : List G_api_Contact) (id : Fin 20 → UInt8) : Option Int :=
  Option.bind (M_slices_IndexFunc_Contact_v_contact_Find_1p l id) fun r1_2 =>
  some r1_2
noncomputable def M_contact_good_v_b1 (l : List G_api_Contact) (t7 : Int) : Option (Int ⊕ (Unit ⊕ (Bool))) :=
  if t7 < (l.length : Int) then
    Option.bind (at? l t7) fun x =>
    Option.bind (M_contact_Good x) fun r1_2 =>
    if r1_2 = true then
      Option.bind (M_contact_Find_v l x.ID) fun r1_3 =>
      if r1_3 = t7 then
        if ok64 (t7 + 1) then
          some (.inl (t7 + 1))
        else none
      else
        some (.inr (.inr false))
    else
      some (.inr (.inr false))
  else
    some (.inr (.inl ()))
noncomputable def M_contact_good_v (l : List G_api_Contact) : Option Bool :=
  Option.bind (loopO (fun z_ => M_contact_good_v_b1 l z_) 0) fun o =>
  match o with
  | .inl () =>
    some (decide ((l.length : Int) ≤ 64))
  | .inr r =>
    some r
noncomputable def M_octet_may (width : Int) : Option Bool :=
  if (1 : Int) ≤ width then
    some (decide (width ≤ 8))
  else
    some false
noncomputable def M_octet_Put_v_b1 (n : UInt64) (width : Int) (out : List UInt8) (t17 : Int) : Option ((List UInt8 × Int) ⊕ (List UInt8)) :=
  if t17 < width then
    if ok64 (width - 1) then
      if ok64 ((width - 1) - t17) then
        if ok64 (8 * ((width - 1) - t17)) then
          if (out.length + 1) * 1 ≤ 140737488355328 then
            if ok64 (t17 + 1) then
              some (.inl (out ++ [(shr64 n ((UInt64.ofInt (8 * ((width - 1) - t17))).toNat)).toUInt8], t17 + 1))
            else none
          else none
        else none
      else none
    else none
  else
    some (.inr out)
noncomputable def M_octet_Put_v (b : List UInt8) (n : UInt64) (width : Int) : Option (List UInt8) :=
  if (0 + b.length) * 1 ≤ 140737488355328 then
    Option.bind (M_octet_may width) fun r1_2 =>
    if r1_2 = true then
      Option.bind (loopO (fun z_ => M_octet_Put_v_b1 n width z_.1 z_.2) (([] : List UInt8) ++ b, 0)) fun o =>
      match o with
      | out_2 =>
        some out_2
    else
      some (([] : List UInt8) ++ b)
  else none
noncomputable def M_addr_Bytes (a : G_api_Addr) : Option (List UInt8) :=
  Option.bind (M_octet_Put_v ([] : List UInt8) a.Host.toUInt64 4) fun r3_2 =>
  Option.bind (M_octet_Put_v r3_2 a.Port.toUInt64 2) fun r3_3 =>
  some r3_3
noncomputable def M_slices_Grow_byte_n (n : Int) : Option (List UInt8) :=
  if n < 0 then
    none
  else
  if ok64 (n - 0) then
    if (0 : Int) < (n - 0) then
      if (0 : Int) ≤ 0 ∧ (0 : Int) ≤ 0 then
        if (0 : Int) ≤ (n - 0) ∧ (((([] : List UInt8).take 0).length : Int) + (n - 0)) * 1 ≤ 140737488355328 then
          if (0 : Int) ≤ 0 ∧ (0 : Int) ≤ (((([] : List UInt8).take 0) ++ (List.replicate ((n - 0).toNat) (0 : UInt8))).length : Int) then
            some (((([] : List UInt8).take 0) ++ (List.replicate ((n - 0).toNat) (0 : UInt8))).take 0)
          else none
        else none
      else none
    else
      some ([] : List UInt8)
  else none
noncomputable def M_slices_Concat_byte_s2vo (slices : List UInt8) (slices2 : List UInt8) : Option (List UInt8) :=
  if ok64 (0 + (slices.length : Int)) then
    if (0 + (slices.length : Int)) < 0 then
      none
    else
    if ok64 ((0 + (slices.length : Int)) + (slices2.length : Int)) then
      if ((0 + (slices.length : Int)) + (slices2.length : Int)) < 0 then
        none
      else
      Option.bind (M_slices_Grow_byte_n ((0 + (slices.length : Int)) + (slices2.length : Int))) fun r3_2 =>
      if (r3_2.length + slices.length) * 1 ≤ 140737488355328 then
        if ((r3_2 ++ slices).length + slices2.length) * 1 ≤ 140737488355328 then
          some ((r3_2 ++ slices) ++ slices2)
        else none
      else none
    else none
  else none
noncomputable def M_contact_Bytes (c : G_api_Contact) : Option (List UInt8) :=
  Option.bind (M_addr_Bytes c.Addr) fun r3_2 =>
  Option.bind (M_slices_Concat_byte_s2vo (List.ofFn c.ID) r3_2) fun r3_3 =>
  some r3_3
noncomputable def M_contact_List_v_b1 (l : List G_api_Contact) (out : List UInt8) (t16 : Int) : Option ((List UInt8 × Int) ⊕ (List UInt8)) :=
  if t16 < (l.length : Int) then
    Option.bind (at? l t16) fun x =>
    Option.bind (M_contact_Bytes x) fun r3_3 =>
    if (out.length + r3_3.length) * 1 ≤ 140737488355328 then
      if ok64 (t16 + 1) then
        some (.inl (out ++ r3_3, t16 + 1))
      else none
    else none
  else
    some (.inr out)
noncomputable def M_contact_List_v (l : List G_api_Contact) : Option (List UInt8 × Int) :=
  Option.bind (M_contact_good_v l) fun r1_2 =>
  if r1_2 = true then
    Option.bind (M_octet_Put_v ([] : List UInt8) (UInt64.ofInt (l.length : Int)) 1) fun r3_2 =>
    Option.bind (loopO (fun z_ => M_contact_List_v_b1 l z_.1 z_.2) (r3_2, 0)) fun o =>
    match o with
    | out_2 =>
      some (out_2, 0)
  else
    some (([] : List UInt8), 2)
noncomputable def M_label_parts (s : List UInt8) : Option Unit :=
  some ()
noncomputable def M_stringslite_IndexByte (s : List UInt8) (c : UInt8) : Option Unit :=
  some ()
noncomputable def M_stringslite_Index (s : List UInt8) : Option Int :=
  if ([46] : List UInt8) = s then
    some 0
  else
  Option.bind (at? ([46] : List UInt8) 0) fun c =>
  Option.bind (M_stringslite_IndexByte s c) fun () =>
  some (Lib.indexByte s c)
noncomputable def M_stringslite_Cut (s : List UInt8) : Option (List UInt8 × List UInt8 × Bool) :=
  Option.bind (M_stringslite_Index s) fun r1_2 =>
  if (0 : Int) ≤ r1_2 then
    if ((0 : Int) ≤ 0 ∧ (0 : Int) ≤ r1_2) ∧ r1_2 ≤ (s.length : Int) then
      if ok64 (r1_2 + 1) then
        if ((0 : Int) ≤ (r1_2 + 1) ∧ (r1_2 + 1) ≤ (s.length : Int)) ∧ (s.length : Int) ≤ (s.length : Int) then
          some (s.take r1_2.toNat, s.drop ((r1_2 + 1).toNat), true)
        else none
      else none
    else none
  else
    some (s, ([] : List UInt8), false)
noncomputable def M_strings_Cut (s : List UInt8) : Option (List UInt8 × List UInt8 × Bool) :=
  Option.bind (M_stringslite_Cut s) fun (r1_2, r2_2, r3_2) =>
  some (r1_2, r2_2, r3_2)
noncomputable def M_label_parts_1_p_b1 {σ_ ρ_ : Type} (f_ : σ_ → (List UInt8) → Option (σ_ ⊕ ρ_)) (z : σ_) (t1 : List UInt8) : Option ((σ_ × List UInt8) ⊕ (σ_ ⊕ ρ_)) :=
  Option.bind (M_strings_Cut t1) fun (r1, r2, r3) =>
  Option.bind (f_ z r1) fun y__2 =>
  match y__2 with
  | .inl z_2 =>
    if r3 = true then
      some (.inl (z_2, r2))
    else
      some (.inr (.inl z_2))
  | .inr x_2 =>
    some (.inr (.inr x_2))
noncomputable def M_label_parts_1_p {σ_ ρ_ : Type} (f_ : σ_ → (List UInt8) → Option (σ_ ⊕ ρ_)) (x : List UInt8) (z_ : σ_) : Option (σ_ ⊕ ρ_) :=
  Option.bind (loopO (fun z_ => M_label_parts_1_p_b1 f_ z_.1 z_.2) (z_, x)) fun o =>
  match o with
  | r =>
    some r
noncomputable def M_label_plain_k2 (c : UInt8) : Option (Bool) :=
  if (48 : UInt8) ≤ c then
    if c ≤ 57 then
      some true
    else
    if c = 45 then
      some true
    else
      some (decide (c = 95))
  else
  if c = 45 then
    some true
  else
    some (decide (c = 95))
noncomputable def M_label_plain_k1 (c : UInt8) : Option (Bool) :=
  if (65 : UInt8) ≤ c then
    if c ≤ 90 then
      some true
    else
      M_label_plain_k2 c
  else
    M_label_plain_k2 c
noncomputable def M_label_plain (c : UInt8) : Option Bool :=
  if (97 : UInt8) ≤ c then
    if c ≤ 122 then
      some true
    else
      M_label_plain_k1 c
  else
    M_label_plain_k1 c
noncomputable def M_label_Part_b2 (s : List UInt8) (t29 : Int) : Option (Int ⊕ (Unit ⊕ (Bool))) :=
  if t29 < (s.length : Int) then
    Option.bind (at? s t29) fun x =>
    Option.bind (M_label_plain x) fun r1_2 =>
    if r1_2 = true then
      if ok64 (t29 + 1) then
        some (.inl (t29 + 1))
      else none
    else
      some (.inr (.inr false))
  else
    some (.inr (.inl ()))
noncomputable def M_label_Part_k1 (s : List UInt8) (t25 : Bool) : Option (Bool) :=
  if t25 = true then
    some false
  else
  if s.length ≤ 140737488355328 then
    Option.bind (loopO (fun z_ => M_label_Part_b2 s z_) 0) fun o =>
    match o with
    | .inl () =>
      some true
    | .inr r =>
      some r
  else none
noncomputable def M_label_Part (s : List UInt8) : Option Bool :=
  if (s.length : Int) < 1 then
    M_label_Part_k1 s true
  else
  if (63 : Int) < (s.length : Int) then
    M_label_Part_k1 s true
  else
  Option.bind (at? s 0) fun c =>
  if c = 45 then
    M_label_Part_k1 s true
  else
  if ok64 ((s.length : Int) - 1) then
    Option.bind (at? s ((s.length : Int) - 1)) fun c_2 =>
    M_label_Part_k1 s (decide (c_2 = 45))
  else none
noncomputable def M_label_Good_r1 (x : List UInt8) : Option (Unit ⊕ Unit) :=
  Option.bind (M_label_Part x) fun r1_2 =>
  if r1_2 = true then
    some (.inl ())
  else
    some (.inr ())
noncomputable def M_label_Good (s : List UInt8) : Option Bool :=
  if (253 : Int) < (s.length : Int) then
    some false
  else
  Option.bind (M_label_parts s) fun () =>
  Option.bind (M_label_parts_1_p (fun (_ : Unit) x => M_label_Good_r1 x) s ()) fun o =>
  match o with
  | .inl () =>
    some true
  | .inr () =>
    some false
noncomputable def M_label_Fold_k2 (b : List UInt8) (t10 : Int) (x : UInt8) (t20 : Bool) : Option ((List UInt8 × Int) ⊕ (List UInt8)) :=
  if t20 = true then
    Option.bind (at? b t10) fun x_2 =>
    if ok64 (t10 + 1) then
      some (.inl (b.set t10.toNat (x ||| 32), t10 + 1))
    else none
  else
  if ok64 (t10 + 1) then
    some (.inl (b, t10 + 1))
  else none
noncomputable def M_label_Fold_b1 (s : List UInt8) (b : List UInt8) (t10 : Int) : Option ((List UInt8 × Int) ⊕ (List UInt8)) :=
  if t10 < (s.length : Int) then
    Option.bind (at? b t10) fun x =>
    if (65 : UInt8) ≤ x then
      M_label_Fold_k2 b t10 x (decide (x ≤ 90))
    else
      M_label_Fold_k2 b t10 x false
  else
    some (.inr b)
noncomputable def M_label_Fold (s : List UInt8) : Option (List UInt8) :=
  if s.length ≤ 140737488355328 then
    Option.bind (loopO (fun z_ => M_label_Fold_b1 s z_.1 z_.2) (s, 0)) fun o =>
    match o with
    | b_2 =>
      some b_2
  else none
noncomputable def M_inst_Good_k1 (i : G_api_Instance) (t11 : Bool) : Option (Bool) :=
  if t11 = true then
    some false
  else
  if i.Gone = true then
    if i.Target.length ≤ maxLen then
      some (decide ((G_api_Instance.mk i.Publisher i.Seq i.Born i.Life i.Gone 0 0 0 ([] : List UInt8)) = i))
    else none
  else
  if i.Port = 0 then
    some false
  else
  Option.bind (M_label_Good i.Target) fun r1_2 =>
  if r1_2 = true then
    Option.bind (M_label_Fold i.Target) fun r1_3 =>
    some (decide (r1_3 = i.Target))
  else
    some false
noncomputable def M_inst_Good (i : G_api_Instance) : Option Bool :=
  if i.Life < 1 then
    M_inst_Good_k1 i true
  else
    M_inst_Good_k1 i (decide ((2147483647 : UInt32) < i.Life))
noncomputable def M_bytes_Compare_vv (a2 : List UInt8) (b : List UInt8) : Option Unit :=
  some ()
noncomputable def M_roster_order (i : G_api_Instance) (publisher : Fin 20 → UInt8) : Option Unit :=
  Option.bind (M_bytes_Compare_vv (List.ofFn i.Publisher) (List.ofFn publisher)) fun () =>
  some ()
noncomputable def M_roster_Good_v_b1 (l : List G_api_Instance) (t7 : Int) : Option (Int ⊕ (Unit ⊕ (Bool))) :=
  if t7 < (l.length : Int) then
    Option.bind (at? l t7) fun x =>
    Option.bind (M_inst_Good x) fun r1_2 =>
    if r1_2 = true then
      if (0 : Int) < t7 then
        if ok64 (t7 - 1) then
          Option.bind (at? l (t7 - 1)) fun x_2 =>
          Option.bind (M_roster_order x_2 x.Publisher) fun () =>
          if (0 : Int) ≤ (Lib.compareBytes (List.ofFn x_2.Publisher) (List.ofFn x.Publisher)) then
            some (.inr (.inr false))
          else
          if ok64 (t7 + 1) then
            some (.inl (t7 + 1))
          else none
        else none
      else
      if ok64 (t7 + 1) then
        some (.inl (t7 + 1))
      else none
    else
      some (.inr (.inr false))
  else
    some (.inr (.inl ()))
noncomputable def M_roster_Good_v (l : List G_api_Instance) : Option Bool :=
  Option.bind (loopO (fun z_ => M_roster_Good_v_b1 l z_) 0) fun o =>
  match o with
  | .inl () =>
    some (decide ((l.length : Int) ≤ 16))
  | .inr r =>
    some r
noncomputable def M_wire_Good_vv_k3 (Contacts : List G_api_Contact) (Roster : List G_api_Instance) (r1_2 : G_wire_parts) : Option (Bool) :=
  if r1_2.contacts = true then
    if r1_2.roster = true then
      some true
    else
      some (decide ((Roster.length : Int) = 0))
  else
  if (Contacts.length : Int) = 0 then
    if r1_2.roster = true then
      some true
    else
      some (decide ((Roster.length : Int) = 0))
  else
    some false
noncomputable def M_wire_Good_vv_k2 (Contacts : List G_api_Contact) (Roster : List G_api_Instance) (r1_2 : G_wire_parts) : Option (Bool) :=
  if r1_2.roster = true then
    if (Roster.length : Int) = 0 then
      some false
    else
    Option.bind (M_roster_Good_v Roster) fun r1_3 =>
    if r1_3 = true then
      M_wire_Good_vv_k3 Contacts Roster r1_2
    else
      some false
  else
    M_wire_Good_vv_k3 Contacts Roster r1_2
noncomputable def M_wire_Good_vv_k1 (Contacts : List G_api_Contact) (Roster : List G_api_Instance) (r1_2 : G_wire_parts) : Option (Bool) :=
  if r1_2.contacts = true then
    Option.bind (M_contact_List_v Contacts) fun (r3_2, r4_2) =>
    if r4_2 = 0 then
      M_wire_Good_vv_k2 Contacts Roster r1_2
    else
      some false
  else
    M_wire_Good_vv_k2 Contacts Roster r1_2
noncomputable def M_wire_Good_vv (Kind : Int) (Txn : UInt32) (From : Fin 20 → UInt8) (Contacts : List G_api_Contact) (Roster : List G_api_Instance) : Option Bool :=
  Option.bind (M_wire_has Kind) fun (r1_2, r2_2) =>
  if r2_2 = true then
    if r1_2.key = true then
      M_wire_Good_vv_k1 Contacts Roster r1_2
    else
    if From = (fun _ => 0) then
      M_wire_Good_vv_k1 Contacts Roster r1_2
    else
      some false
  else
    some false
noncomputable def M_slices_Concat_byte_s2ov (slices : List UInt8) (slices2 : List UInt8) : Option (List UInt8) :=
  if ok64 (0 + (slices.length : Int)) then
    if (0 + (slices.length : Int)) < 0 then
      none
    else
    if ok64 ((0 + (slices.length : Int)) + (slices2.length : Int)) then
      if ((0 + (slices.length : Int)) + (slices2.length : Int)) < 0 then
        none
      else
      Option.bind (M_slices_Grow_byte_n ((0 + (slices.length : Int)) + (slices2.length : Int))) fun r3_2 =>
      if (r3_2.length + slices.length) * 1 ≤ 140737488355328 then
        if ((r3_2 ++ slices).length + slices2.length) * 1 ≤ 140737488355328 then
          some ((r3_2 ++ slices) ++ slices2)
        else none
      else none
    else none
  else none
noncomputable def M_bytes_Clone_v (b : List UInt8) : Option (List UInt8) :=
  if (0 + b.length) * 1 ≤ 140737488355328 then
    some (([] : List UInt8) ++ b)
  else none
noncomputable def M_inst_Bytes_1_po (n : UInt64) (width : Int) (x : List UInt8) : Option (List UInt8) :=
  Option.bind (M_octet_Put_v x n width) fun r3_2 =>
  some r3_2
noncomputable def M_octet_Text_v (b : List UInt8) (s : List UInt8) : Option (List UInt8 × Int) :=
  if (1024 : Int) < (s.length : Int) then
    some (([] : List UInt8), 11)
  else
  Option.bind (M_octet_Put_v b (UInt64.ofInt (s.length : Int)) 2) fun r3_2 =>
  if (r3_2.length + s.length) * 1 ≤ 140737488355328 then
    some (r3_2 ++ s, 0)
  else none
noncomputable def M_inst_Bytes (i : G_api_Instance) : Option (List UInt8 × Int) :=
  Option.bind (M_inst_Good i) fun r1_2 =>
  if r1_2 = true then
    Option.bind (M_bytes_Clone_v (List.ofFn i.Publisher)) fun r3_2 =>
    Option.bind (M_inst_Bytes_1_po i.Seq 8 r3_2) fun r3_3 =>
    Option.bind (M_inst_Bytes_1_po i.Born 8 r3_3) fun r3_4 =>
    Option.bind (M_inst_Bytes_1_po i.Life.toUInt64 4 r3_4) fun r3_5 =>
    if i.Gone = true then
      Option.bind (M_inst_Bytes_1_po 1 1 r3_5) fun r3_6 =>
      some (r3_6, 0)
    else
    Option.bind (M_inst_Bytes_1_po 0 1 r3_5) fun r3_7 =>
    Option.bind (M_inst_Bytes_1_po i.Priority.toUInt64 2 r3_7) fun r3_8 =>
    Option.bind (M_inst_Bytes_1_po i.Weight.toUInt64 2 r3_8) fun r3_9 =>
    Option.bind (M_inst_Bytes_1_po i.Port.toUInt64 2 r3_9) fun r3_10 =>
    Option.bind (M_octet_Text_v r3_10 i.Target) fun (r3_11, r4_2) =>
    some (r3_11, r4_2)
  else
    some (([] : List UInt8), 2)
noncomputable def M_roster_Bytes_v_b1 (l : List G_api_Instance) (out : List UInt8) (t18 : Int) : Option ((List UInt8 × Int) ⊕ (List UInt8)) :=
  if t18 < (l.length : Int) then
    Option.bind (at? l t18) fun x =>
    Option.bind (M_inst_Bytes x) fun (r3_3, r4_2) =>
    if (out.length + r3_3.length) * 1 ≤ 140737488355328 then
      if ok64 (t18 + 1) then
        some (.inl (out ++ r3_3, t18 + 1))
      else none
    else none
  else
    some (.inr out)
noncomputable def M_roster_Bytes_v (l : List G_api_Instance) : Option (List UInt8 × Int) :=
  Option.bind (M_roster_Good_v l) fun r1_2 =>
  if r1_2 = true then
    Option.bind (M_octet_Put_v ([] : List UInt8) (UInt64.ofInt (l.length : Int)) 1) fun r3_2 =>
    Option.bind (loopO (fun z_ => M_roster_Bytes_v_b1 l z_.1 z_.2) (r3_2, 0)) fun o =>
    match o with
    | out_2 =>
      some (out_2, 0)
  else
    some (([] : List UInt8), 2)
noncomputable def M_wire_Encode_vv_k2 (Roster : List G_api_Instance) (r1_3 : G_wire_parts) (out_2 : List UInt8) : Option (List UInt8 × Int) :=
  if r1_3.roster = true then
    Option.bind (M_roster_Bytes_v Roster) fun (r3_7, r4_3) =>
    if (out_2.length + r3_7.length) * 1 ≤ 140737488355328 then
      some (out_2 ++ r3_7, 0)
    else none
  else
    some (out_2, 0)
noncomputable def M_wire_Encode_vv_k1 (Contacts : List G_api_Contact) (Roster : List G_api_Instance) (r1_3 : G_wire_parts) (out : List UInt8) : Option (List UInt8 × Int) :=
  if r1_3.contacts = true then
    Option.bind (M_contact_List_v Contacts) fun (r3_6, r4_2) =>
    if (out.length + r3_6.length) * 1 ≤ 140737488355328 then
      M_wire_Encode_vv_k2 Roster r1_3 (out ++ r3_6)
    else none
  else
    M_wire_Encode_vv_k2 Roster r1_3 out
noncomputable def M_wire_Encode_vv (Kind : Int) (Txn : UInt32) (From : Fin 20 → UInt8) (Contacts : List G_api_Contact) (Roster : List G_api_Instance) : Option (List UInt8 × Int) :=
  Option.bind (M_wire_Good_vv Kind Txn From Contacts Roster) fun r1_2 =>
  if r1_2 = true then
    Option.bind (M_wire_has Kind) fun (r1_3, r2_2) =>
    Option.bind (M_octet_Put_v ([] : List UInt8) 1 1) fun r3_2 =>
    Option.bind (M_octet_Put_v r3_2 (UInt64.ofInt Kind) 1) fun r3_3 =>
    Option.bind (M_octet_Put_v r3_3 Txn.toUInt64 4) fun r3_4 =>
    Option.bind (M_slices_Concat_byte_s2ov r3_4 (List.ofFn From)) fun r3_5 =>
    if r1_3.key = true then
      if (r3_5.length + 20) * 1 ≤ 140737488355328 then
        M_wire_Encode_vv_k1 Contacts Roster r1_3 (r3_5 ++ (List.ofFn From))
      else none
    else
      M_wire_Encode_vv_k1 Contacts Roster r1_3 r3_5
  else
    some (([] : List UInt8), 2)
noncomputable def M_wire_Answers (request : Int) (kind : Int) : Option Bool :=
  if request = 1 then
    some (decide (kind = 5))
  else
  if request = 2 then
    some (decide (kind = 6))
  else
  if request = 3 then
    if kind = 6 then
      some true
    else
      some (decide (kind = 7))
  else
  if request = 4 then
    if kind = 8 then
      some true
    else
      some (decide (kind = 9))
  else
    some false
noncomputable def M_signpostlaw14_lives  : Option Bool :=
  Option.bind (M_wire_Encode_vv 1 1 (fun _ => 0) ([] : List G_api_Contact) ([] : List G_api_Instance)) fun (r3_2, r4_2) =>
  if (r3_2.length : Int) = 26 then
    if (0 : Int) ≤ 6 ∧ (6 : Int) ≤ (r3_2.length : Int) then
      if (r3_2.take 6) = ([1, 1, 0, 0, 0, 1] : List UInt8) then
        if r4_2 = 0 then
          Option.bind (M_wire_Answers 1 5) fun r1_2 =>
          some r1_2
        else
          some false
      else
        some false
    else none
  else
    some false
noncomputable def M_wire_Good_vv_2_k3 (Contacts : List G_api_Contact) (Roster : List G_api_Instance) (r1_2 : G_wire_parts) : Option (Bool) :=
  if r1_2.contacts = true then
    if r1_2.roster = true then
      some true
    else
      some (decide ((Roster.length : Int) = 0))
  else
  if (Contacts.length : Int) = 0 then
    if r1_2.roster = true then
      some true
    else
      some (decide ((Roster.length : Int) = 0))
  else
    some false
noncomputable def M_wire_Good_vv_2_k2 (Contacts : List G_api_Contact) (Roster : List G_api_Instance) (r1_2 : G_wire_parts) : Option (Bool) :=
  if r1_2.roster = true then
    if (Roster.length : Int) = 0 then
      some false
    else
    Option.bind (M_roster_Good_v Roster) fun r1_3 =>
    if r1_3 = true then
      M_wire_Good_vv_2_k3 Contacts Roster r1_2
    else
      some false
  else
    M_wire_Good_vv_2_k3 Contacts Roster r1_2
noncomputable def M_wire_Good_vv_2_k1 (Contacts : List G_api_Contact) (Roster : List G_api_Instance) (r1_2 : G_wire_parts) : Option (Bool) :=
  if r1_2.contacts = true then
    Option.bind (M_contact_List_v Contacts) fun (r3_2, r4_2) =>
    if r4_2 = 0 then
      M_wire_Good_vv_2_k2 Contacts Roster r1_2
    else
      some false
  else
    M_wire_Good_vv_2_k2 Contacts Roster r1_2
noncomputable def M_wire_Good_vv_2 (Kind : Int) (Txn : UInt32) (From : Fin 20 → UInt8) (Key : Fin 20 → UInt8) (Contacts : List G_api_Contact) (Roster : List G_api_Instance) : Option Bool :=
  Option.bind (M_wire_has Kind) fun (r1_2, r2_2) =>
  if r2_2 = true then
    if r1_2.key = true then
      M_wire_Good_vv_2_k1 Contacts Roster r1_2
    else
    if Key = (fun _ => 0) then
      M_wire_Good_vv_2_k1 Contacts Roster r1_2
    else
      some false
  else
    some false
noncomputable def M_wire_Encode_vv_2_k2 (Roster : List G_api_Instance) (r1_3 : G_wire_parts) (out_2 : List UInt8) : Option (List UInt8 × Int) :=
  if r1_3.roster = true then
    Option.bind (M_roster_Bytes_v Roster) fun (r3_7, r4_3) =>
    if (out_2.length + r3_7.length) * 1 ≤ 140737488355328 then
      some (out_2 ++ r3_7, 0)
    else none
  else
    some (out_2, 0)
noncomputable def M_wire_Encode_vv_2_k1 (Contacts : List G_api_Contact) (Roster : List G_api_Instance) (r1_3 : G_wire_parts) (out : List UInt8) : Option (List UInt8 × Int) :=
  if r1_3.contacts = true then
    Option.bind (M_contact_List_v Contacts) fun (r3_6, r4_2) =>
    if (out.length + r3_6.length) * 1 ≤ 140737488355328 then
      M_wire_Encode_vv_2_k2 Roster r1_3 (out ++ r3_6)
    else none
  else
    M_wire_Encode_vv_2_k2 Roster r1_3 out
noncomputable def M_wire_Encode_vv_2 (Kind : Int) (Txn : UInt32) (From : Fin 20 → UInt8) (Key : Fin 20 → UInt8) (Contacts : List G_api_Contact) (Roster : List G_api_Instance) : Option (List UInt8 × Int) :=
  Option.bind (M_wire_Good_vv_2 Kind Txn From Key Contacts Roster) fun r1_2 =>
  if r1_2 = true then
    Option.bind (M_wire_has Kind) fun (r1_3, r2_2) =>
    Option.bind (M_octet_Put_v ([] : List UInt8) 1 1) fun r3_2 =>
    Option.bind (M_octet_Put_v r3_2 (UInt64.ofInt Kind) 1) fun r3_3 =>
    Option.bind (M_octet_Put_v r3_3 Txn.toUInt64 4) fun r3_4 =>
    Option.bind (M_slices_Concat_byte_s2ov r3_4 (List.ofFn From)) fun r3_5 =>
    if r1_3.key = true then
      if (r3_5.length + 20) * 1 ≤ 140737488355328 then
        M_wire_Encode_vv_2_k1 Contacts Roster r1_3 (r3_5 ++ (List.ofFn Key))
      else none
    else
      M_wire_Encode_vv_2_k1 Contacts Roster r1_3 r3_5
  else
    some (([] : List UInt8), 2)
noncomputable def M_octet_Open_v (b : List UInt8) : Option Unit :=
  if (0 + b.length) * 1 ≤ 140737488355328 then
    some ()
  else none
noncomputable def M_octet_Reader_none_po (b2 : List UInt8) (open_ : Bool) (bad : Bool) : Option Unit :=
  some ()
noncomputable def M_octet_rest_fail_po (b2 : List UInt8) (open_ : Bool) (bad : Bool) : Option Unit :=
  some ()
noncomputable def M_octet_rest_cut_po_k1 (b2 : List UInt8) (bad : Bool) (n : Int) (open_ : Bool) (t23 : Bool) : Option (Unit ⊕ Unit) :=
  if t23 = true then
    Option.bind (M_octet_rest_fail_po b2 open_ bad) fun () =>
    some (.inl ())
  else
  if (0 : Int) ≤ n ∧ n ≤ (b2.length : Int) then
    if (0 : Int) ≤ n ∧ n ≤ (b2.length : Int) then
      some (.inr ())
    else none
  else none
noncomputable def M_octet_rest_cut_po (b2 : List UInt8) (open_ : Bool) (bad : Bool) (n : Int) : Option (Unit ⊕ Unit) :=
  if bad = true then
    M_octet_rest_cut_po_k1 b2 bad n open_ true
  else
  if n < 0 then
    M_octet_rest_cut_po_k1 b2 bad n open_ true
  else
    M_octet_rest_cut_po_k1 b2 bad n open_ (decide ((b2.length : Int) < n))
noncomputable def M_octet_Get_v_b2 (at_ : Int) (b : List UInt8) (width : Int) (n : UInt64) (t39 : Int) : Option ((UInt64 × Int) ⊕ UInt64) :=
  if t39 < (((b.take ((at_ + width).toNat)).drop at_.toNat).length : Int) then
    Option.bind (at? ((b.take ((at_ + width).toNat)).drop at_.toNat) t39) fun x =>
    if ok64 (t39 + 1) then
      some (.inl ((shl64 n 8) ||| x.toUInt64, t39 + 1))
    else none
  else
    some (.inr n)
noncomputable def M_octet_Get_v_k1 (at_ : Int) (b : List UInt8) (width : Int) (t31 : Bool) : Option (UInt64 × Bool) :=
  if t31 = true then
    some (0, false)
  else
  if ok64 (at_ + width) then
    if ((0 : Int) ≤ at_ ∧ at_ ≤ (at_ + width)) ∧ (at_ + width) ≤ (b.length : Int) then
      Option.bind (loopO (fun z_ => M_octet_Get_v_b2 at_ b width z_.1 z_.2) (0, 0)) fun o =>
      match o with
      | n_2 =>
        some (n_2, true)
    else none
  else none
noncomputable def M_octet_Get_v (b : List UInt8) (at_ : Int) (width : Int) : Option (UInt64 × Bool) :=
  Option.bind (M_octet_may width) fun r1_2 =>
  if r1_2 = true then
    if at_ < 0 then
      M_octet_Get_v_k1 at_ b width true
    else
    if (b.length : Int) < at_ then
      M_octet_Get_v_k1 at_ b width true
    else
    if ok64 ((b.length : Int) - at_) then
      M_octet_Get_v_k1 at_ b width (decide (((b.length : Int) - at_) < width))
    else none
  else
    M_octet_Get_v_k1 at_ b width true
noncomputable def M_octet_Reader_Num_po (b2 : List UInt8) (open_ : Bool) (bad : Bool) (width : Int) : Option (UInt64 × List UInt8 × Bool) :=
  Option.bind (M_octet_Reader_none_po b2 open_ bad) fun () =>
  if open_ = true then
    Option.bind (M_octet_may width) fun r1_2 =>
    if r1_2 = true then
      Option.bind (M_octet_rest_cut_po b2 open_ bad width) fun y_ =>
      match y_ with
      | .inl () =>
        some (0, ([] : List UInt8), true)
      | .inr () =>
        Option.bind (M_octet_Get_v (b2.take width.toNat) 0 width) fun (r1_3, r2_2) =>
        some (r1_3, b2.drop width.toNat, bad)
    else
    Option.bind (M_octet_rest_fail_po b2 open_ bad) fun () =>
    some (0, ([] : List UInt8), true)
  else
    some (0, b2, bad)
noncomputable def M_octet_Reader_Take_po (b2 : List UInt8) (open_ : Bool) (bad : Bool) (n : Int) : Option (List UInt8 × List UInt8 × Bool) :=
  Option.bind (M_octet_Reader_none_po b2 open_ bad) fun () =>
  if open_ = true then
    Option.bind (M_octet_rest_cut_po b2 open_ bad n) fun y_ =>
    match y_ with
    | .inl () =>
      some (([] : List UInt8), ([] : List UInt8), true)
    | .inr () =>
      if (0 + (b2.take n.toNat).length) * 1 ≤ 140737488355328 then
        some (([] : List UInt8) ++ (b2.take n.toNat), b2.drop n.toNat, bad)
      else none
  else
    some (([] : List UInt8), b2, bad)
noncomputable def M_addr_Read_v (b : List UInt8) : Option (G_api_Addr × Int) :=
  if (b.length : Int) = 6 then
    Option.bind (M_octet_Open_v b) fun () =>
    Option.bind (M_octet_Reader_Num_po (([] : List UInt8) ++ b) true false 4) fun (r1_2, r4_2, r5_2) =>
    Option.bind (M_octet_Reader_Num_po r4_2 true r5_2 2) fun (r1_3, r4_3, r5_3) =>
    Option.bind (M_addr_Good (G_api_Addr.mk r1_2.toUInt32 r1_3.toUInt16)) fun r1_4 =>
    if r1_4 = true then
      some ((G_api_Addr.mk r1_2.toUInt32 r1_3.toUInt16), 0)
    else
      some ((G_api_Addr.mk 0 0), 10)
  else
    some ((G_api_Addr.mk 0 0), 10)
noncomputable def M_contact_Read_v (b : List UInt8) : Option (G_api_Contact × Int) :=
  if (b.length : Int) = 26 then
    if (0 : Int) ≤ 20 ∧ (20 : Int) ≤ (b.length : Int) then
      Option.bind (M_addr_Read_v (b.drop 20)) fun (r1_2, r2_2) =>
      if r2_2 = 0 then
        if (G_api_Contact.mk (copyA (fun _ => 0) b) r1_2) = (G_api_Contact.mk (fun _ => 0) (G_api_Addr.mk 0 0)) then
          some ((G_api_Contact.mk (fun _ => 0) (G_api_Addr.mk 0 0)), 10)
        else
          some ((G_api_Contact.mk (copyA (fun _ => 0) b) r1_2), 0)
      else
        some ((G_api_Contact.mk (fun _ => 0) (G_api_Addr.mk 0 0)), 10)
    else none
  else
    some ((G_api_Contact.mk (fun _ => 0) (G_api_Addr.mk 0 0)), 10)
noncomputable def M_contact_ReadList_po_b1 (open_ : Bool) (r1_2 : UInt64) (out : List G_api_Contact) (b_2 : List UInt8) (bad_2 : Bool) (t10 : UInt64) : Option ((List G_api_Contact × List UInt8 × Bool × UInt64) ⊕ ((List G_api_Contact × List UInt8 × Bool) ⊕ (List G_api_Contact × List UInt8 × Bool))) :=
  if t10 < r1_2 then
    Option.bind (M_octet_Reader_Take_po b_2 open_ bad_2 26) fun (r3_2, r6_2, r7_2) =>
    Option.bind (M_contact_Read_v r3_2) fun (r1_3, r2_2) =>
    if r2_2 = 0 then
      if (out.length + 1) * 28 ≤ 140737488355328 then
        some (.inl (out ++ [r1_3], r6_2, r7_2, t10 + 1))
      else none
    else
    Option.bind (M_octet_Reader_Take_po r6_2 open_ r7_2 (-1)) fun (r3_3, r6_3, r7_3) =>
    some (.inr (.inr (([] : List G_api_Contact), r6_3, r7_3)))
  else
    some (.inr (.inl (out, b_2, bad_2)))
noncomputable def M_contact_ReadList_po (b2 : List UInt8) (open_ : Bool) (bad : Bool) : Option (List G_api_Contact × List UInt8 × Bool) :=
  Option.bind (M_octet_Reader_Num_po b2 open_ bad 1) fun (r1_2, r4_2, r5_2) =>
  Option.bind (loopO (fun z_ => M_contact_ReadList_po_b1 open_ r1_2 z_.1 z_.2.1 z_.2.2.1 z_.2.2.2) (([] : List G_api_Contact), r4_2, r5_2, 0)) fun o =>
  match o with
  | .inl (out_2, b_3, bad_3) =>
    Option.bind (M_contact_good_v out_2) fun r1_4 =>
    if r1_4 = true then
      some (out_2, b_3, bad_3)
    else
    Option.bind (M_octet_Reader_Take_po b_3 open_ bad_3 (-1)) fun (r3_4, r6_4, r7_4) =>
    some (([] : List G_api_Contact), r6_4, r7_4)
  | .inr r =>
    some r
noncomputable def M_octet_Reader_Text_po_k1 (open_ : Bool) (r1_2 : UInt64) (r4_2 : List UInt8) (r5_2 : Bool) (t24 : Bool) : Option (List UInt8 × List UInt8 × Bool) :=
  if t24 = true then
    Option.bind (M_octet_rest_fail_po r4_2 open_ r5_2) fun () =>
    some (([] : List UInt8), ([] : List UInt8), true)
  else
  Option.bind (M_octet_Reader_Take_po r4_2 open_ r5_2 (r1_2.toNat : Int)) fun (r3_2, r6_2, r7_2) =>
  some (r3_2, r6_2, r7_2)
noncomputable def M_octet_Reader_Text_po (b2 : List UInt8) (open_ : Bool) (bad : Bool) (most : Int) : Option (List UInt8 × List UInt8 × Bool) :=
  Option.bind (M_octet_Reader_none_po b2 open_ bad) fun () =>
  if open_ = true then
    Option.bind (M_octet_Reader_Num_po b2 open_ bad 2) fun (r1_2, r4_2, r5_2) =>
    if r1_2.toNat < 9223372036854775808 then
      if r5_2 = true then
        M_octet_Reader_Text_po_k1 open_ r1_2 r4_2 r5_2 true
      else
      if most < (r1_2.toNat : Int) then
        M_octet_Reader_Text_po_k1 open_ r1_2 r4_2 r5_2 true
      else
        M_octet_Reader_Text_po_k1 open_ r1_2 r4_2 r5_2 (decide ((1024 : Int) < (r1_2.toNat : Int)))
    else none
  else
    some (([] : List UInt8), b2, bad)
noncomputable def M_octet_Reader_Bad_po (b2 : List UInt8) (open_ : Bool) (bad : Bool) : Option Bool :=
  Option.bind (M_octet_Reader_none_po b2 open_ bad) fun () =>
  if open_ = true then
    some bad
  else
    some true
noncomputable def M_inst_Read_po_k2 (b_2 : List UInt8) (bad_2 : Bool) (i : G_api_Instance) (open_ : Bool) (t53 : Bool) : Option (G_api_Instance × Bool × List UInt8 × Bool) :=
  if t53 = true then
    Option.bind (M_octet_Reader_Take_po b_2 open_ bad_2 (-1)) fun (r3_3, r6_3, r7_3) =>
    some ((G_api_Instance.mk (fun _ => 0) 0 0 0 false 0 0 0 ([] : List UInt8)), false, r6_3, r7_3)
  else
    some (i, true, b_2, bad_2)
noncomputable def M_inst_Read_po_k1 (open_ : Bool) (r1_5 : UInt64) (b_2 : List UInt8) (bad_2 : Bool) (i : G_api_Instance) : Option (G_api_Instance × Bool × List UInt8 × Bool) :=
  Option.bind (M_octet_Reader_Bad_po b_2 open_ bad_2) fun r1_10 =>
  if r1_10 = true then
    M_inst_Read_po_k2 b_2 bad_2 i open_ true
  else
  if (1 : UInt64) < r1_5 then
    M_inst_Read_po_k2 b_2 bad_2 i open_ true
  else
  Option.bind (M_inst_Good i) fun r1_11 =>
  M_inst_Read_po_k2 b_2 bad_2 i open_ (!r1_11)
noncomputable def M_inst_Read_po (b2 : List UInt8) (open_ : Bool) (bad : Bool) : Option (G_api_Instance × Bool × List UInt8 × Bool) :=
  Option.bind (M_octet_Reader_Take_po b2 open_ bad 20) fun (r3_2, r6_2, r7_2) =>
  Option.bind (M_octet_Reader_Num_po r6_2 open_ r7_2 8) fun (r1_2, r4_2, r5_2) =>
  Option.bind (M_octet_Reader_Num_po r4_2 open_ r5_2 8) fun (r1_3, r4_3, r5_3) =>
  Option.bind (M_octet_Reader_Num_po r4_3 open_ r5_3 4) fun (r1_4, r4_4, r5_4) =>
  Option.bind (M_octet_Reader_Num_po r4_4 open_ r5_4 1) fun (r1_5, r4_5, r5_5) =>
  if r1_5 = 0 then
    Option.bind (M_octet_Reader_Num_po r4_5 open_ r5_5 2) fun (r1_6, r4_6, r5_6) =>
    Option.bind (M_octet_Reader_Num_po r4_6 open_ r5_6 2) fun (r1_7, r4_7, r5_7) =>
    Option.bind (M_octet_Reader_Num_po r4_7 open_ r5_7 2) fun (r1_8, r4_8, r5_8) =>
    Option.bind (M_octet_Reader_Text_po r4_8 open_ r5_8 1024) fun (r1_9, r4_9, r5_9) =>
    M_inst_Read_po_k1 open_ r1_5 r4_9 r5_9 (G_api_Instance.mk (copyA (fun _ => 0) r3_2) r1_2 r1_3 r1_4.toUInt32 (decide (r1_5 = 1)) r1_6.toUInt16 r1_7.toUInt16 r1_8.toUInt16 r1_9)
  else
    M_inst_Read_po_k1 open_ r1_5 r4_5 r5_5 (G_api_Instance.mk (copyA (fun _ => 0) r3_2) r1_2 r1_3 r1_4.toUInt32 (decide (r1_5 = 1)) 0 0 0 ([] : List UInt8))
noncomputable def M_roster_Read_po_b1 (open_ : Bool) (r1_2 : UInt64) (b_2 : List UInt8) (bad_2 : Bool) (out : List G_api_Instance) (t7 : UInt64) : Option ((List UInt8 × Bool × List G_api_Instance × UInt64) ⊕ ((List UInt8 × Bool × List G_api_Instance) ⊕ (List G_api_Instance × List UInt8 × Bool))) :=
  if t7 < r1_2 then
    Option.bind (M_inst_Read_po b_2 open_ bad_2) fun (r1_3, r2_2, r5_3, r6_2) =>
    if r2_2 = true then
      if (out.length + 1) * 72 ≤ 140737488355328 then
        some (.inl (r5_3, r6_2, out ++ [r1_3], t7 + 1))
      else none
    else
      some (.inr (.inr (([] : List G_api_Instance), r5_3, r6_2)))
  else
    some (.inr (.inl (b_2, bad_2, out)))
noncomputable def M_roster_Read_po (b2 : List UInt8) (open_ : Bool) (bad : Bool) : Option (List G_api_Instance × List UInt8 × Bool) :=
  Option.bind (M_octet_Reader_Num_po b2 open_ bad 1) fun (r1_2, r4_2, r5_2) =>
  Option.bind (loopO (fun z_ => M_roster_Read_po_b1 open_ r1_2 z_.1 z_.2.1 z_.2.2.1 z_.2.2.2) (r4_2, r5_2, ([] : List G_api_Instance), 0)) fun o =>
  match o with
  | .inl (b_3, bad_3, out_2) =>
    Option.bind (M_roster_Good_v out_2) fun r1_4 =>
    if r1_4 = true then
      some (out_2, b_3, bad_3)
    else
    Option.bind (M_octet_Reader_Take_po b_3 open_ bad_3 (-1)) fun (r3_2, r6_3, r7_2) =>
    some (([] : List G_api_Instance), r6_3, r7_2)
  | .inr r =>
    some r
noncomputable def M_octet_rest_left_po (b2 : List UInt8) (open_ : Bool) (bad : Bool) : Option Unit :=
  some ()
noncomputable def M_octet_Reader_Done_po (b2 : List UInt8) (open_ : Bool) (bad : Bool) : Option Int :=
  Option.bind (M_octet_Reader_none_po b2 open_ bad) fun () =>
  if open_ = true then
    if bad = true then
      some 10
    else
    Option.bind (M_octet_rest_left_po b2 open_ bad) fun () =>
    if (0 : Int) < (b2.length : Int) then
      some 10
    else
      some 0
  else
    some 1
noncomputable def M_wire_Decode_v_k3 (Contacts : List G_api_Contact) (Key : Fin 20 → UInt8) (r1_2 : UInt64) (r1_3 : UInt64) (r1_4 : UInt64) (r3_2 : List UInt8) (b_4 : List UInt8) (bad_3 : Bool) (Roster : List G_api_Instance) : Option (Int × UInt32 × (Fin 20 → UInt8) × (Fin 20 → UInt8) × List G_api_Contact × List G_api_Instance × Int) :=
  if r1_2 = 1 then
    Option.bind (M_octet_Reader_Done_po b_4 true bad_3) fun r1_6 =>
    if r1_6 = 0 then
      Option.bind (M_wire_Good_vv_2 (r1_3.toNat : Int) r1_4.toUInt32 (copyA (fun _ => 0) r3_2) Key Contacts Roster) fun r1_7 =>
      if r1_7 = true then
        some ((r1_3.toNat : Int), r1_4.toUInt32, copyA (fun _ => 0) r3_2, Key, Contacts, Roster, 0)
      else
        some (0, 0, (fun _ => 0), (fun _ => 0), ([] : List G_api_Contact), ([] : List G_api_Instance), 10)
    else
      some (0, 0, (fun _ => 0), (fun _ => 0), ([] : List G_api_Contact), ([] : List G_api_Instance), 10)
  else
    some (0, 0, (fun _ => 0), (fun _ => 0), ([] : List G_api_Contact), ([] : List G_api_Instance), 10)
noncomputable def M_wire_Decode_v_k2 (Key : Fin 20 → UInt8) (r1_2 : UInt64) (r1_3 : UInt64) (r1_4 : UInt64) (r1_5 : G_wire_parts) (r3_2 : List UInt8) (b_3 : List UInt8) (bad_2 : Bool) (Contacts : List G_api_Contact) : Option (Int × UInt32 × (Fin 20 → UInt8) × (Fin 20 → UInt8) × List G_api_Contact × List G_api_Instance × Int) :=
  if r1_5.roster = true then
    Option.bind (M_roster_Read_po b_3 true bad_2) fun (r3_5, r6_5, r7_5) =>
    M_wire_Decode_v_k3 Contacts Key r1_2 r1_3 r1_4 r3_2 r6_5 r7_5 r3_5
  else
    M_wire_Decode_v_k3 Contacts Key r1_2 r1_3 r1_4 r3_2 b_3 bad_2 ([] : List G_api_Instance)
noncomputable def M_wire_Decode_v_k1 (r1_2 : UInt64) (r1_3 : UInt64) (r1_4 : UInt64) (r1_5 : G_wire_parts) (r3_2 : List UInt8) (b_2 : List UInt8) (bad : Bool) (Key : Fin 20 → UInt8) : Option (Int × UInt32 × (Fin 20 → UInt8) × (Fin 20 → UInt8) × List G_api_Contact × List G_api_Instance × Int) :=
  if r1_5.contacts = true then
    Option.bind (M_contact_ReadList_po b_2 true bad) fun (r3_4, r6_4, r7_4) =>
    M_wire_Decode_v_k2 Key r1_2 r1_3 r1_4 r1_5 r3_2 r6_4 r7_4 r3_4
  else
    M_wire_Decode_v_k2 Key r1_2 r1_3 r1_4 r1_5 r3_2 b_2 bad ([] : List G_api_Contact)
noncomputable def M_wire_Decode_v (b : List UInt8) : Option (Int × UInt32 × (Fin 20 → UInt8) × (Fin 20 → UInt8) × List G_api_Contact × List G_api_Instance × Int) :=
  Option.bind (M_octet_Open_v b) fun () =>
  Option.bind (M_octet_Reader_Num_po (([] : List UInt8) ++ b) true false 1) fun (r1_2, r4_2, r5_2) =>
  Option.bind (M_octet_Reader_Num_po r4_2 true r5_2 1) fun (r1_3, r4_3, r5_3) =>
  if r1_3.toNat < 9223372036854775808 then
    Option.bind (M_octet_Reader_Num_po r4_3 true r5_3 4) fun (r1_4, r4_4, r5_4) =>
    Option.bind (M_octet_Reader_Take_po r4_4 true r5_4 20) fun (r3_2, r6_2, r7_2) =>
    Option.bind (M_wire_has (r1_3.toNat : Int)) fun (r1_5, r2_2) =>
    if r1_5.key = true then
      Option.bind (M_octet_Reader_Take_po r6_2 true r7_2 20) fun (r3_3, r6_3, r7_3) =>
      M_wire_Decode_v_k1 r1_2 r1_3 r1_4 r1_5 r3_2 r6_3 r7_3 (copyA (fun _ => 0) r3_3)
    else
      M_wire_Decode_v_k1 r1_2 r1_3 r1_4 r1_5 r3_2 r6_2 r7_2 (fun _ => 0)
  else none
noncomputable def M_signpostref12_Same_vv_b1 (a2 : List G_api_Instance) (b : List G_api_Instance) (i : Int) : Option (Int ⊕ (Unit ⊕ (Bool))) :=
  if i < (a2.length : Int) then
    Option.bind (at? a2 i) fun x =>
    Option.bind (at? b i) fun x_2 =>
    if x.Target.length ≤ maxLen then
      if x_2.Target.length ≤ maxLen then
        if x = x_2 then
          if ok64 (i + 1) then
            some (.inl (i + 1))
          else none
        else
          some (.inr (.inr false))
      else none
    else none
  else
    some (.inr (.inl ()))
noncomputable def M_signpostref12_Same_vv (a2 : List G_api_Instance) (b : List G_api_Instance) : Option Bool :=
  if (a2.length : Int) = (b.length : Int) then
    Option.bind (loopO (fun z_ => M_signpostref12_Same_vv_b1 a2 b z_) 0) fun o =>
    match o with
    | .inl () =>
      some true
    | .inr r =>
      some r
  else
    some false
noncomputable def M_signpostref14_Same_vvvv_b2 (Contacts : List G_api_Contact) (Contacts2 : List G_api_Contact) (i : Int) : Option (Int ⊕ (Unit ⊕ (Bool))) :=
  if i < (Contacts.length : Int) then
    Option.bind (at? Contacts i) fun x =>
    Option.bind (at? Contacts2 i) fun x_2 =>
    if x = x_2 then
      if ok64 (i + 1) then
        some (.inl (i + 1))
      else none
    else
      some (.inr (.inr false))
  else
    some (.inr (.inl ()))
noncomputable def M_signpostref14_Same_vvvv_k1 (Contacts : List G_api_Contact) (Contacts2 : List G_api_Contact) (Roster : List G_api_Instance) (Roster2 : List G_api_Instance) (t40 : Bool) : Option (Bool) :=
  if t40 = true then
    some false
  else
  Option.bind (loopO (fun z_ => M_signpostref14_Same_vvvv_b2 Contacts Contacts2 z_) 0) fun o =>
  match o with
  | .inl () =>
    Option.bind (M_signpostref12_Same_vv Roster Roster2) fun r1_2 =>
    some r1_2
  | .inr r =>
    some r
noncomputable def M_signpostref14_Same_vvvv (Kind : Int) (Txn : UInt32) (From : Fin 20 → UInt8) (Key : Fin 20 → UInt8) (Contacts : List G_api_Contact) (Roster : List G_api_Instance) (Kind2 : Int) (Txn2 : UInt32) (From2 : Fin 20 → UInt8) (Key2 : Fin 20 → UInt8) (Contacts2 : List G_api_Contact) (Roster2 : List G_api_Instance) : Option Bool :=
  if Kind = Kind2 then
    if Txn = Txn2 then
      if From = From2 then
        if Key = Key2 then
          M_signpostref14_Same_vvvv_k1 Contacts Contacts2 Roster Roster2 (!(decide ((Contacts.length : Int) = (Contacts2.length : Int))))
        else
          M_signpostref14_Same_vvvv_k1 Contacts Contacts2 Roster Roster2 true
      else
        M_signpostref14_Same_vvvv_k1 Contacts Contacts2 Roster Roster2 true
    else
      M_signpostref14_Same_vvvv_k1 Contacts Contacts2 Roster Roster2 true
  else
    M_signpostref14_Same_vvvv_k1 Contacts Contacts2 Roster Roster2 true
noncomputable def M_signpostlaw14_WireBack_vvvv_k2 (t4 : Bool) : Option (Bool) :=
  some t4
noncomputable def M_signpostlaw14_WireBack_vvvv_k1 (Contacts : List G_api_Contact) (Contacts2 : List G_api_Contact) (From : Fin 20 → UInt8) (From2 : Fin 20 → UInt8) (Key : Fin 20 → UInt8) (Key2 : Fin 20 → UInt8) (Kind : Int) (Kind2 : Int) (Roster : List G_api_Instance) (Roster2 : List G_api_Instance) (Txn : UInt32) (Txn2 : UInt32) (t18 : Bool) : Option (Bool) :=
  if t18 = true then
    Option.bind (M_signpostlaw14_lives) fun r1_4 =>
    some r1_4
  else
  Option.bind (M_wire_Encode_vv_2 Kind Txn From Key Contacts Roster) fun (r3_2, r4_2) =>
  Option.bind (M_wire_Encode_vv_2 Kind2 Txn2 From2 Key2 Contacts2 Roster2) fun (r3_3, r4_3) =>
  if r4_2 = 0 then
    Option.bind (M_wire_Decode_v r3_2) fun (r1_5, r2_2, r3_4, r4_4, r7_2, r10_2, r11_2) =>
    if r11_2 = 0 then
      Option.bind (M_signpostref14_Same_vvvv r1_5 r2_2 r3_4 r4_4 r7_2 r10_2 Kind Txn From Key Contacts Roster) fun r1_6 =>
      if r1_6 = true then
        if (r3_2.length : Int) ≤ 8192 then
          if r4_3 = 0 then
            Option.bind (M_signpostref14_Same_vvvv Kind Txn From Key Contacts Roster Kind2 Txn2 From2 Key2 Contacts2 Roster2) fun r1_7 =>
            if (decide (r3_2 = r3_3)) = r1_7 then
              Option.bind (M_signpostlaw14_lives) fun r1_8 =>
              some r1_8
            else
              some false
          else
          Option.bind (M_signpostlaw14_lives) fun r1_9 =>
          some r1_9
        else
          some false
      else
        some false
    else
      some false
  else
  Option.bind (M_wire_Good_vv_2 Kind Txn From Key Contacts Roster) fun r1_10 =>
  if r1_10 = true then
    M_signpostlaw14_WireBack_vvvv_k2 false
  else
  if (r3_2.length : Int) = 0 then
    Option.bind (M_signpostlaw14_lives) fun r1_11 =>
    M_signpostlaw14_WireBack_vvvv_k2 r1_11
  else
    M_signpostlaw14_WireBack_vvvv_k2 false
noncomputable def M_signpostlaw14_WireBack_vvvv (Kind : Int) (Txn : UInt32) (From : Fin 20 → UInt8) (Key : Fin 20 → UInt8) (Contacts : List G_api_Contact) (Roster : List G_api_Instance) (Kind2 : Int) (Txn2 : UInt32) (From2 : Fin 20 → UInt8) (Key2 : Fin 20 → UInt8) (Contacts2 : List G_api_Contact) (Roster2 : List G_api_Instance) : Option Bool :=
  Option.bind (M_signpostlaw14_Light_vv Kind Txn From Key Contacts Roster) fun r1_2 =>
  if r1_2 = true then
    Option.bind (M_signpostlaw14_Light_vv Kind2 Txn2 From2 Key2 Contacts2 Roster2) fun r1_3 =>
    M_signpostlaw14_WireBack_vvvv_k1 Contacts Contacts2 From From2 Key Key2 Kind Kind2 Roster Roster2 Txn Txn2 (!r1_3)
  else
    M_signpostlaw14_WireBack_vvvv_k1 Contacts Contacts2 From From2 Key Key2 Kind Kind2 Roster Roster2 Txn Txn2 true
end Go.Proofs.Ytleemokneeoikaa
