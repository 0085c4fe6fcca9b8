/-
  What the functions that the statement ContactBack reaches compute, each as a Lean function. No condition.
-/
import Derived.Test.YtaaahjcldomnbaaBExt
namespace Go.Proofs.Ytaaahjcldomnbaa
open Go Go.RowKit
set_option linter.unusedVariables false
set_option linter.unusedSimpArgs false
set_option linter.unnecessarySimpa false
structure G_api_Addr where
  Host : UInt32
  Port : UInt16
  deriving DecidableEq
def el_G_api_Addr : El G_api_Addr := ⟨fun x => [(v32 x.Host), (v16 x.Port)], 2, fun x => by simp [bytesV_length], fun x => (List.forall_mem_cons.2 ⟨rfl, (List.forall_mem_cons.2 ⟨rfl, (fun _ hh => by cases hh)⟩)⟩)⟩
structure G_api_Contact where
  ID : Fin 20 → UInt8
  Addr : G_api_Addr
  deriving DecidableEq
def el_G_api_Contact : El G_api_Contact := ⟨fun x => (bytesV (List.ofFn (n := 20) x.ID) ++ ([(v32 x.Addr.Host), (v16 x.Addr.Port)] : List Value)), 22, fun x => by simp [bytesV_length], fun x => (List.forall_mem_append.2 ⟨(bytesV_one _), (List.forall_mem_cons.2 ⟨rfl, (List.forall_mem_cons.2 ⟨rfl, (fun _ hh => by cases hh)⟩)⟩)⟩)⟩
structure G_signpostref06_Addr where
  Host : UInt32
  Port : UInt16
  deriving DecidableEq
def el_G_signpostref06_Addr : El G_signpostref06_Addr := ⟨fun x => [(v32 x.Host), (v16 x.Port)], 2, fun x => by simp [bytesV_length], fun x => (List.forall_mem_cons.2 ⟨rfl, (List.forall_mem_cons.2 ⟨rfl, (fun _ hh => by cases hh)⟩)⟩)⟩
structure G_signpostref08_Contact where
  ID : Fin 20 → UInt8
  Addr : G_signpostref06_Addr
  deriving DecidableEq
def el_G_signpostref08_Contact : El G_signpostref08_Contact := ⟨fun x => (bytesV (List.ofFn (n := 20) x.ID) ++ ([(v32 x.Addr.Host), (v16 x.Addr.Port)] : List Value)), 22, fun x => by simp [bytesV_length], fun x => (List.forall_mem_append.2 ⟨(bytesV_one _), (List.forall_mem_cons.2 ⟨rfl, (List.forall_mem_cons.2 ⟨rfl, (fun _ hh => by cases hh)⟩)⟩)⟩)⟩
def G_api_Addr_wf (x : G_api_Addr) : Prop := True
def G_api_Contact_wf (x : G_api_Contact) : Prop := G_api_Addr_wf x.Addr
def G_signpostref06_Addr_wf (x : G_signpostref06_Addr) : Prop := True
def G_signpostref08_Contact_wf (x : G_signpostref08_Contact) : Prop := G_signpostref06_Addr_wf x.Addr
noncomputable def M_addr_Good (a : G_api_Addr) : Option Bool :=
  if a.Host = 0 then
    some false
  else
  if a.Port = 0 then
    some false
  else
    some (!(decide (a = (G_api_Addr.mk 0 0))))
noncomputable def M_contact_Good (c : G_api_Contact) : Option Bool :=
  Option.bind (M_addr_Good c.Addr) fun r1_2 =>
  some r1_2
noncomputable def M_contact_Find_1_p (c : G_api_Contact) (x : Fin 20 → UInt8) : Option Unit :=
  some ()
noncomputable def M_slices_IndexFunc_Contact_v_contact_Find_1p_b1 (f : Fin 20 → UInt8) (s : List G_api_Contact) (t8 : Int) : Option (Int ⊕ (Unit ⊕ (Int))) :=
  if t8 < (s.length : Int) then
    Option.bind (at? s t8) fun x =>
    Option.bind (M_contact_Find_1_p x f) fun () =>
    if x.ID = f then
      some (.inr (.inr t8))
    else
    if ok64 (t8 + 1) then
      some (.inl (t8 + 1))
    else none
  else
    some (.inr (.inl ()))
noncomputable def M_slices_IndexFunc_Contact_v_contact_Find_1p (s : List G_api_Contact) (f : Fin 20 → UInt8) : Option Int :=
  Option.bind (loopO (fun z_ => M_slices_IndexFunc_Contact_v_contact_Find_1p_b1 f s z_) 0) fun o =>
  match o with
  | .inl () =>
    some (-1)
  | .inr r =>
    some r
noncomputable def M_contact_Find_v (l : List G_api_Contact) (id : Fin 20 → UInt8) : Option Int :=
  Option.bind (M_slices_IndexFunc_Contact_v_contact_Find_1p l id) fun r1_2 =>
  some r1_2
noncomputable def M_contact_good_v_b1 (l : List G_api_Contact) (t7 : Int) : Option (Int ⊕ (Unit ⊕ (Bool))) :=
  if t7 < (l.length : Int) then
    Option.bind (at? l t7) fun x =>
    Option.bind (M_contact_Good x) fun r1_2 =>
    if r1_2 = true then
      Option.bind (M_contact_Find_v l x.ID) fun r1_3 =>
      if r1_3 = t7 then
        if ok64 (t7 + 1) then
          some (.inl (t7 + 1))
        else none
      else
        some (.inr (.inr false))
    else
      some (.inr (.inr false))
  else
    some (.inr (.inl ()))
noncomputable def M_contact_good_v (l : List G_api_Contact) : Option Bool :=
  Option.bind (loopO (fun z_ => M_contact_good_v_b1 l z_) 0) fun o =>
  match o with
  | .inl () =>
    some (decide ((l.length : Int) ≤ 64))
  | .inr r =>
    some r
noncomputable def M_octet_may (width : Int) : Option Bool :=
  if (1 : Int) ≤ width then
    some (decide (width ≤ 8))
  else
    some false
noncomputable def M_octet_Put_v_b1 (n : UInt64) (width : Int) (out : List UInt8) (t17 : Int) : Option ((List UInt8 × Int) ⊕ (List UInt8)) :=
  if t17 < width then
    if ok64 (width - 1) then
      if ok64 ((width - 1) - t17) then
        if ok64 (8 * ((width - 1) - t17)) then
          if (out.length + 1) * 1 ≤ 140737488355328 then
            if ok64 (t17 + 1) then
              some (.inl (out ++ [(shr64 n ((UInt64.ofInt (8 * ((width - 1) - t17))).toNat)).toUInt8], t17 + 1))
            else none
          else none
        else none
      else none
    else none
  else
    some (.inr out)
noncomputable def M_octet_Put_v (b : List UInt8) (n : UInt64) (width : Int) : Option (List UInt8) :=
  if (0 + b.length) * 1 ≤ 140737488355328 then
    Option.bind (M_octet_may width) fun r1_2 =>
    if r1_2 = true then
      Option.bind (loopO (fun z_ => M_octet_Put_v_b1 n width z_.1 z_.2) (([] : List UInt8) ++ b, 0)) fun o =>
      match o with
      | out_2 =>
        some out_2
    else
      some (([] : List UInt8) ++ b)
  else none
noncomputable def M_addr_Bytes (a : G_api_Addr) : Option (List UInt8) :=
  Option.bind (M_octet_Put_v ([] : List UInt8) a.Host.toUInt64 4) fun r3_2 =>
  Option.bind (M_octet_Put_v r3_2 a.Port.toUInt64 2) fun r3_3 =>
  some r3_3
noncomputable def M_slices_Grow_byte_n (n : Int) : Option (List UInt8) :=
  if n < 0 then
    none
  else
  if ok64 (n - 0) then
    if (0 : Int) < (n - 0) then
      if (0 : Int) ≤ 0 ∧ (0 : Int) ≤ 0 then
        if (0 : Int) ≤ (n - 0) ∧ (((([] : List UInt8).take 0).length : Int) + (n - 0)) * 1 ≤ 140737488355328 then
          if (0 : Int) ≤ 0 ∧ (0 : Int) ≤ (((([] : List UInt8).take 0) ++ (List.replicate ((n - 0).toNat) (0 : UInt8))).length : Int) then
            some (((([] : List UInt8).take 0) ++ (List.replicate ((n - 0).toNat) (0 : UInt8))).take 0)
          else none
        else none
      else none
    else
      some ([] : List UInt8)
  else none
noncomputable def M_slices_Concat_byte_s2vo (slices : List UInt8) (slices2 : List UInt8) : Option (List UInt8) :=
  if ok64 (0 + (slices.length : Int)) then
    if (0 + (slices.length : Int)) < 0 then
      none
    else
    if ok64 ((0 + (slices.length : Int)) + (slices2.length : Int)) then
      if ((0 + (slices.length : Int)) + (slices2.length : Int)) < 0 then
        none
      else
      Option.bind (M_slices_Grow_byte_n ((0 + (slices.length : Int)) + (slices2.length : Int))) fun r3_2 =>
      if (r3_2.length + slices.length) * 1 ≤ 140737488355328 then
        if ((r3_2 ++ slices).length + slices2.length) * 1 ≤ 140737488355328 then
          some ((r3_2 ++ slices) ++ slices2)
        else none
      else none
    else none
  else none
noncomputable def M_contact_Bytes (c : G_api_Contact) : Option (List UInt8) :=
  Option.bind (M_addr_Bytes c.Addr) fun r3_2 =>
  Option.bind (M_slices_Concat_byte_s2vo (List.ofFn c.ID) r3_2) fun r3_3 =>
  some r3_3
noncomputable def M_contact_List_v_b1 (l : List G_api_Contact) (out : List UInt8) (t16 : Int) : Option ((List UInt8 × Int) ⊕ (List UInt8)) :=
  if t16 < (l.length : Int) then
    Option.bind (at? l t16) fun x =>
    Option.bind (M_contact_Bytes x) fun r3_3 =>
    if (out.length + r3_3.length) * 1 ≤ 140737488355328 then
      if ok64 (t16 + 1) then
        some (.inl (out ++ r3_3, t16 + 1))
      else none
    else none
  else
    some (.inr out)
noncomputable def M_contact_List_v (l : List G_api_Contact) : Option (List UInt8 × Int) :=
  Option.bind (M_contact_good_v l) fun r1_2 =>
  if r1_2 = true then
    Option.bind (M_octet_Put_v ([] : List UInt8) (UInt64.ofInt (l.length : Int)) 1) fun r3_2 =>
    Option.bind (loopO (fun z_ => M_contact_List_v_b1 l z_.1 z_.2) (r3_2, 0)) fun o =>
    match o with
    | out_2 =>
      some (out_2, 0)
  else
    some (([] : List UInt8), 2)
noncomputable def M_octet_Open_v (b : List UInt8) : Option Unit :=
  if (0 + b.length) * 1 ≤ 140737488355328 then
    some ()
  else none
noncomputable def M_octet_Reader_none_po (b2 : List UInt8) (open_ : Bool) (bad : Bool) : Option Unit :=
  some ()
noncomputable def M_octet_rest_fail_po (b2 : List UInt8) (open_ : Bool) (bad : Bool) : Option Unit :=
  some ()
noncomputable def M_octet_rest_cut_po_k1 (b2 : List UInt8) (bad : Bool) (n : Int) (open_ : Bool) (t23 : Bool) : Option (Unit ⊕ Unit) :=
  if t23 = true then
    Option.bind (M_octet_rest_fail_po b2 open_ bad) fun () =>
    some (.inl ())
  else
  if (0 : Int) ≤ n ∧ n ≤ (b2.length : Int) then
    if (0 : Int) ≤ n ∧ n ≤ (b2.length : Int) then
      some (.inr ())
    else none
  else none
noncomputable def M_octet_rest_cut_po (b2 : List UInt8) (open_ : Bool) (bad : Bool) (n : Int) : Option (Unit ⊕ Unit) :=
  if bad = true then
    M_octet_rest_cut_po_k1 b2 bad n open_ true
  else
  if n < 0 then
    M_octet_rest_cut_po_k1 b2 bad n open_ true
  else
    M_octet_rest_cut_po_k1 b2 bad n open_ (decide ((b2.length : Int) < n))
noncomputable def M_octet_Get_v_b2 (at_ : Int) (b : List UInt8) (width : Int) (n : UInt64) (t39 : Int) : Option ((UInt64 × Int) ⊕ UInt64) :=
  if t39 < (((b.take ((at_ + width).toNat)).drop at_.toNat).length : Int) then
    Option.bind (at? ((b.take ((at_ + width).toNat)).drop at_.toNat) t39) fun x =>
    if ok64 (t39 + 1) then
      some (.inl ((shl64 n 8) ||| x.toUInt64, t39 + 1))
    else none
  else
    some (.inr n)
noncomputable def M_octet_Get_v_k1 (at_ : Int) (b : List UInt8) (width : Int) (t31 : Bool) : Option (UInt64 × Bool) :=
  if t31 = true then
    some (0, false)
  else
  if ok64 (at_ + width) then
    if ((0 : Int) ≤ at_ ∧ at_ ≤ (at_ + width)) ∧ (at_ + width) ≤ (b.length : Int) then
      Option.bind (loopO (fun z_ => M_octet_Get_v_b2 at_ b width z_.1 z_.2) (0, 0)) fun o =>
      match o with
      | n_2 =>
        some (n_2, true)
    else none
  else none
noncomputable def M_octet_Get_v (b : List UInt8) (at_ : Int) (width : Int) : Option (UInt64 × Bool) :=
  Option.bind (M_octet_may width) fun r1_2 =>
  if r1_2 = true then
    if at_ < 0 then
      M_octet_Get_v_k1 at_ b width true
    else
    if (b.length : Int) < at_ then
      M_octet_Get_v_k1 at_ b width true
    else
    if ok64 ((b.length : Int) - at_) then
      M_octet_Get_v_k1 at_ b width (decide (((b.length : Int) - at_) < width))
    else none
  else
    M_octet_Get_v_k1 at_ b width true
noncomputable def M_octet_Reader_Num_po (b2 : List UInt8) (open_ : Bool) (bad : Bool) (width : Int) : Option (UInt64 × List UInt8 × Bool) :=
  Option.bind (M_octet_Reader_none_po b2 open_ bad) fun () =>
  if open_ = true then
    Option.bind (M_octet_may width) fun r1_2 =>
    if r1_2 = true then
      Option.bind (M_octet_rest_cut_po b2 open_ bad width) fun y_ =>
      match y_ with
      | .inl () =>
        some (0, ([] : List UInt8), true)
      | .inr () =>
        Option.bind (M_octet_Get_v (b2.take width.toNat) 0 width) fun (r1_3, r2_2) =>
        some (r1_3, b2.drop width.toNat, bad)
    else
    Option.bind (M_octet_rest_fail_po b2 open_ bad) fun () =>
    some (0, ([] : List UInt8), true)
  else
    some (0, b2, bad)
noncomputable def M_addr_Read_v (b : List UInt8) : Option (G_api_Addr × Int) :=
  if (b.length : Int) = 6 then
    Option.bind (M_octet_Open_v b) fun () =>
    Option.bind (M_octet_Reader_Num_po (([] : List UInt8) ++ b) true false 4) fun (r1_2, r4_2, r5_2) =>
    Option.bind (M_octet_Reader_Num_po r4_2 true r5_2 2) fun (r1_3, r4_3, r5_3) =>
    Option.bind (M_addr_Good (G_api_Addr.mk r1_2.toUInt32 r1_3.toUInt16)) fun r1_4 =>
    if r1_4 = true then
      some ((G_api_Addr.mk r1_2.toUInt32 r1_3.toUInt16), 0)
    else
      some ((G_api_Addr.mk 0 0), 10)
  else
    some ((G_api_Addr.mk 0 0), 10)
noncomputable def M_contact_Read_v (b : List UInt8) : Option (G_api_Contact × Int) :=
  if (b.length : Int) = 26 then
    if (0 : Int) ≤ 20 ∧ (20 : Int) ≤ (b.length : Int) then
      Option.bind (M_addr_Read_v (b.drop 20)) fun (r1_2, r2_2) =>
      if r2_2 = 0 then
        if (G_api_Contact.mk (copyA (fun _ => 0) b) r1_2) = (G_api_Contact.mk (fun _ => 0) (G_api_Addr.mk 0 0)) then
          some ((G_api_Contact.mk (fun _ => 0) (G_api_Addr.mk 0 0)), 10)
        else
          some ((G_api_Contact.mk (copyA (fun _ => 0) b) r1_2), 0)
      else
        some ((G_api_Contact.mk (fun _ => 0) (G_api_Addr.mk 0 0)), 10)
    else none
  else
    some ((G_api_Contact.mk (fun _ => 0) (G_api_Addr.mk 0 0)), 10)
noncomputable def M_signpostlaw08_lives  : Option Bool :=
  Option.bind (M_contact_List_v ([] : List G_api_Contact)) fun (r3_2, r4_2) =>
  Option.bind (M_contact_Bytes (G_api_Contact.mk (fun _ => 0) (G_api_Addr.mk 1 1))) fun r3_3 =>
  Option.bind (M_contact_Read_v r3_3) fun (r1_2, r2_2) =>
  if r3_2 = ([0] : List UInt8) then
    if r4_2 = 0 then
      if r1_2 = (G_api_Contact.mk (fun _ => 0) (G_api_Addr.mk 1 1)) then
        if r2_2 = 0 then
          Option.bind (M_contact_Find_v ([] : List G_api_Contact) (fun _ => 0)) fun r1_3 =>
          some (decide (r1_3 = (-1)))
        else
          some false
      else
        some false
    else
      some false
  else
    some false
noncomputable def M_signpostlaw08_One (c : G_api_Contact) : Option Unit :=
  some ()
noncomputable def M_signpostlaw08_Plain_v_b1 (l : List G_api_Contact) (out : List G_signpostref08_Contact) (t8 : Int) : Option ((List G_signpostref08_Contact × Int) ⊕ (List G_signpostref08_Contact)) :=
  if t8 < (l.length : Int) then
    Option.bind (at? l t8) fun x =>
    Option.bind (M_signpostlaw08_One x) fun () =>
    if (out.length + 1) * 28 ≤ 140737488355328 then
      if ok64 (t8 + 1) then
        some (.inl (out ++ [(G_signpostref08_Contact.mk x.ID (G_signpostref06_Addr.mk x.Addr.Host x.Addr.Port))], t8 + 1))
      else none
    else none
  else
    some (.inr out)
noncomputable def M_signpostlaw08_Plain_v (l : List G_api_Contact) : Option (List G_signpostref08_Contact) :=
  Option.bind (loopO (fun z_ => M_signpostlaw08_Plain_v_b1 l z_.1 z_.2) (([] : List G_signpostref08_Contact), 0)) fun o =>
  match o with
  | out_2 =>
    some out_2
noncomputable def M_signpostref06_Good (a : G_signpostref06_Addr) : Option Bool :=
  if a.Host = 0 then
    some false
  else
    some (!(decide (a.Port = 0)))
noncomputable def M_signpostref08_Good (c : G_signpostref08_Contact) : Option Bool :=
  Option.bind (M_signpostref06_Good c.Addr) fun r1_2 =>
  some r1_2
noncomputable def M_signpostref08_Find_v_b1 (id : Fin 20 → UInt8) (l : List G_signpostref08_Contact) (i : Int) : Option (Int ⊕ (Unit ⊕ (Int))) :=
  if i < (l.length : Int) then
    Option.bind (at? l i) fun x =>
    if x.ID = id then
      some (.inr (.inr i))
    else
    if ok64 (i + 1) then
      some (.inl (i + 1))
    else none
  else
    some (.inr (.inl ()))
noncomputable def M_signpostref08_Find_v (l : List G_signpostref08_Contact) (id : Fin 20 → UInt8) : Option Int :=
  Option.bind (loopO (fun z_ => M_signpostref08_Find_v_b1 id l z_) 0) fun o =>
  match o with
  | .inl () =>
    some (-1)
  | .inr r =>
    some r
noncomputable def M_signpostref08_GoodList_v_b1 (l : List G_signpostref08_Contact) (i : Int) : Option (Int ⊕ (Unit ⊕ (Bool))) :=
  if i < (l.length : Int) then
    Option.bind (at? l i) fun x =>
    Option.bind (M_signpostref08_Good x) fun r1_2 =>
    if r1_2 = true then
      Option.bind (M_signpostref08_Find_v l x.ID) fun r1_3 =>
      if r1_3 = i then
        if ok64 (i + 1) then
          some (.inl (i + 1))
        else none
      else
        some (.inr (.inr false))
    else
      some (.inr (.inr false))
  else
    some (.inr (.inl ()))
noncomputable def M_signpostref08_GoodList_v (l : List G_signpostref08_Contact) : Option Bool :=
  Option.bind (loopO (fun z_ => M_signpostref08_GoodList_v_b1 l z_) 0) fun o =>
  match o with
  | .inl () =>
    some (decide ((l.length : Int) ≤ 64))
  | .inr r =>
    some r
noncomputable def M_octet_Reader_Take_po (b2 : List UInt8) (open_ : Bool) (bad : Bool) (n : Int) : Option (List UInt8 × List UInt8 × Bool) :=
  Option.bind (M_octet_Reader_none_po b2 open_ bad) fun () =>
  if open_ = true then
    Option.bind (M_octet_rest_cut_po b2 open_ bad n) fun y_ =>
    match y_ with
    | .inl () =>
      some (([] : List UInt8), ([] : List UInt8), true)
    | .inr () =>
      if (0 + (b2.take n.toNat).length) * 1 ≤ 140737488355328 then
        some (([] : List UInt8) ++ (b2.take n.toNat), b2.drop n.toNat, bad)
      else none
  else
    some (([] : List UInt8), b2, bad)
noncomputable def M_contact_ReadList_po_b1 (open_ : Bool) (r1_2 : UInt64) (out : List G_api_Contact) (b_2 : List UInt8) (bad_2 : Bool) (t10 : UInt64) : Option ((List G_api_Contact × List UInt8 × Bool × UInt64) ⊕ ((List G_api_Contact × List UInt8 × Bool) ⊕ (List G_api_Contact × List UInt8 × Bool))) :=
  if t10 < r1_2 then
    Option.bind (M_octet_Reader_Take_po b_2 open_ bad_2 26) fun (r3_2, r6_2, r7_2) =>
    Option.bind (M_contact_Read_v r3_2) fun (r1_3, r2_2) =>
    if r2_2 = 0 then
      if (out.length + 1) * 28 ≤ 140737488355328 then
        some (.inl (out ++ [r1_3], r6_2, r7_2, t10 + 1))
      else none
    else
    Option.bind (M_octet_Reader_Take_po r6_2 open_ r7_2 (-1)) fun (r3_3, r6_3, r7_3) =>
    some (.inr (.inr (([] : List G_api_Contact), r6_3, r7_3)))
  else
    some (.inr (.inl (out, b_2, bad_2)))
noncomputable def M_contact_ReadList_po (b2 : List UInt8) (open_ : Bool) (bad : Bool) : Option (List G_api_Contact × List UInt8 × Bool) :=
  Option.bind (M_octet_Reader_Num_po b2 open_ bad 1) fun (r1_2, r4_2, r5_2) =>
  Option.bind (loopO (fun z_ => M_contact_ReadList_po_b1 open_ r1_2 z_.1 z_.2.1 z_.2.2.1 z_.2.2.2) (([] : List G_api_Contact), r4_2, r5_2, 0)) fun o =>
  match o with
  | .inl (out_2, b_3, bad_3) =>
    Option.bind (M_contact_good_v out_2) fun r1_4 =>
    if r1_4 = true then
      some (out_2, b_3, bad_3)
    else
    Option.bind (M_octet_Reader_Take_po b_3 open_ bad_3 (-1)) fun (r3_4, r6_4, r7_4) =>
    some (([] : List G_api_Contact), r6_4, r7_4)
  | .inr r =>
    some r
noncomputable def M_signpostlaw08_Same_vv_b1 (a2 : List G_api_Contact) (b : List G_signpostref08_Contact) (t14 : Int) : Option (Int ⊕ (Unit ⊕ (Bool))) :=
  if t14 < (a2.length : Int) then
    Option.bind (at? a2 t14) fun x =>
    Option.bind (at? b t14) fun x_2 =>
    Option.bind (M_signpostlaw08_One x) fun () =>
    if (G_signpostref08_Contact.mk x.ID (G_signpostref06_Addr.mk x.Addr.Host x.Addr.Port)) = x_2 then
      if ok64 (t14 + 1) then
        some (.inl (t14 + 1))
      else none
    else
      some (.inr (.inr false))
  else
    some (.inr (.inl ()))
noncomputable def M_signpostlaw08_Same_vv (a2 : List G_api_Contact) (b : List G_signpostref08_Contact) : Option Bool :=
  if (a2.length : Int) = (b.length : Int) then
    Option.bind (loopO (fun z_ => M_signpostlaw08_Same_vv_b1 a2 b z_) 0) fun o =>
    match o with
    | .inl () =>
      some true
    | .inr r =>
      some r
  else
    some false
noncomputable def M_octet_rest_left_po (b2 : List UInt8) (open_ : Bool) (bad : Bool) : Option Unit :=
  some ()
noncomputable def M_octet_Reader_Left_po (b2 : List UInt8) (open_ : Bool) (bad : Bool) : Option Int :=
  Option.bind (M_octet_Reader_none_po b2 open_ bad) fun () =>
  if open_ = true then
    Option.bind (M_octet_rest_left_po b2 open_ bad) fun () =>
    some (b2.length : Int)
  else
    some 0
noncomputable def M_octet_Reader_Bad_po (b2 : List UInt8) (open_ : Bool) (bad : Bool) : Option Bool :=
  Option.bind (M_octet_Reader_none_po b2 open_ bad) fun () =>
  if open_ = true then
    some bad
  else
    some true
noncomputable def M_signpostlaw08_ContactBack_vvv_k3 (t6 : Bool) : Option (Bool) :=
  some t6
noncomputable def M_signpostlaw08_ContactBack_vvv_k2 (behind : List UInt8) (t71 : Bool) : Option (Bool) :=
  if t71 = true then
    some false
  else
  Option.bind (M_octet_Open_v behind) fun () =>
  Option.bind (M_contact_ReadList_po (([] : List UInt8) ++ behind) true false) fun (r3_6, r6_4, r7_4) =>
  Option.bind (M_octet_Reader_Bad_po r6_4 true r7_4) fun r1_5 =>
  if r1_5 = true then
    if (r3_6.length : Int) = 0 then
      Option.bind (M_signpostlaw08_lives) fun r1_6 =>
      M_signpostlaw08_ContactBack_vvv_k3 r1_6
    else
      M_signpostlaw08_ContactBack_vvv_k3 false
  else
  Option.bind (M_contact_List_v r3_6) fun (r3_7, r4_3) =>
  if r4_3 = 0 then
    Option.bind (M_octet_Reader_Left_po r6_4 true r7_4) fun r1_7 =>
    if ok64 ((r3_7.length : Int) + r1_7) then
      if ((r3_7.length : Int) + r1_7) = (behind.length : Int) then
        if (0 : Int) ≤ (r3_7.length : Int) ∧ (r3_7.length : Int) ≤ (behind.length : Int) then
          if r3_7 = (behind.take r3_7.length) then
            Option.bind (M_signpostlaw08_lives) fun r1_8 =>
            some r1_8
          else
            some false
        else none
      else
        some false
    else none
  else
    some false
noncomputable def M_signpostlaw08_ContactBack_vvv_k4 (t6_2 : Bool) : Option (Bool) :=
  some t6_2
noncomputable def M_signpostlaw08_ContactBack_vvv_k1 (ahead : List UInt8) (behind : List UInt8) (l : List G_api_Contact) (t24 : Bool) : Option (Bool) :=
  if t24 = true then
    Option.bind (M_signpostlaw08_lives) fun r1_2 =>
    some r1_2
  else
  Option.bind (M_contact_List_v l) fun (r3_2, r4_2) =>
  if r4_2 = 0 then
    if (0 + ahead.length) * 1 ≤ 140737488355328 then
      if ((([] : List UInt8) ++ ahead).length + r3_2.length) * 1 ≤ 140737488355328 then
        if (((([] : List UInt8) ++ ahead) ++ r3_2).length + behind.length) * 1 ≤ 140737488355328 then
          Option.bind (M_octet_Open_v (((([] : List UInt8) ++ ahead) ++ r3_2) ++ behind)) fun () =>
          Option.bind (M_octet_Reader_Take_po (([] : List UInt8) ++ (((([] : List UInt8) ++ ahead) ++ r3_2) ++ behind)) true false (ahead.length : Int)) fun (r3_3, r6_2, r7_2) =>
          Option.bind (M_contact_ReadList_po r6_2 true r7_2) fun (r3_4, r6_3, r7_3) =>
          Option.bind (M_signpostlaw08_Plain_v l) fun r3_5 =>
          Option.bind (M_signpostlaw08_Same_vv r3_4 r3_5) fun r1_3 =>
          if r1_3 = true then
            Option.bind (M_octet_Reader_Left_po r6_3 true r7_3) fun r1_4 =>
            M_signpostlaw08_ContactBack_vvv_k2 behind (!(decide (r1_4 = (behind.length : Int))))
          else
            M_signpostlaw08_ContactBack_vvv_k2 behind true
        else none
      else none
    else none
  else
  Option.bind (M_signpostlaw08_Plain_v l) fun r3_8 =>
  Option.bind (M_signpostref08_GoodList_v r3_8) fun r1_9 =>
  if r1_9 = true then
    M_signpostlaw08_ContactBack_vvv_k4 false
  else
  if (r3_2.length : Int) = 0 then
    Option.bind (M_signpostlaw08_lives) fun r1_10 =>
    M_signpostlaw08_ContactBack_vvv_k4 r1_10
  else
    M_signpostlaw08_ContactBack_vvv_k4 false
noncomputable def M_signpostlaw08_ContactBack_vvv (l : List G_api_Contact) (ahead : List UInt8) (behind : List UInt8) : Option Bool :=
  if (80 : Int) < (l.length : Int) then
    M_signpostlaw08_ContactBack_vvv_k1 ahead behind l true
  else
  if ok64 ((ahead.length : Int) + (behind.length : Int)) then
    M_signpostlaw08_ContactBack_vvv_k1 ahead behind l (decide ((3000 : Int) < ((ahead.length : Int) + (behind.length : Int))))
  else none
end Go.Proofs.Ytaaahjcldomnbaa
