/-
  Facts of the program, a row each. No condition.
-/
import Derived.Test.YtaaahjcldomnbaaContactBackMod
import Derived.Test.YtaaahjcldomnbaaProg
namespace Go.Proofs.Ytaaahjcldomnbaa
open Go Go.RowKit
set_option linter.unusedVariables false
set_option linter.unusedSimpArgs false
set_option linter.unnecessarySimpa false
theorem en31 : Enters Try.prog 31 := fun l w => Try.call31 l w
theorem en32 : Enters Try.prog 32 := fun l w => Try.call32 l w
theorem en34 : Enters Try.prog 34 := fun l w => Try.call34 l w
theorem en35 : Enters Try.prog 35 := fun l w => Try.call35 l w
theorem en37 : Enters Try.prog 37 := fun l w => Try.call37 l w
theorem en39 : Enters Try.prog 39 := fun l w => Try.call39 l w
theorem en40 : Enters Try.prog 40 := fun l w => Try.call40 l w
theorem en41 : Enters Try.prog 41 := fun l w => Try.call41 l w
theorem en43 : Enters Try.prog 43 := fun l w => Try.call43 l w
theorem en44 : Enters Try.prog 44 := fun l w => Try.call44 l w
theorem en45 : Enters Try.prog 45 := fun l w => Try.call45 l w
theorem en46 : Enters Try.prog 46 := fun l w => Try.call46 l w
theorem en56 : Enters Try.prog 56 := fun l w => Try.call56 l w
theorem en57 : Enters Try.prog 57 := fun l w => Try.call57 l w
theorem en58 : Enters Try.prog 58 := fun l w => Try.call58 l w
theorem en62 : Enters Try.prog 62 := fun l w => Try.call62 l w
theorem en63 : Enters Try.prog 63 := fun l w => Try.call63 l w
theorem en70 : Enters Try.prog 70 := fun l w => Try.call70 l w
theorem en71 : Enters Try.prog 71 := fun l w => Try.call71 l w
theorem en73 : Enters Try.prog 73 := fun l w => Try.call73 l w
theorem en74 : Enters Try.prog 74 := fun l w => Try.call74 l w
theorem en76 : Enters Try.prog 76 := fun l w => Try.call76 l w
theorem en77 : Enters Try.prog 77 := fun l w => Try.call77 l w
theorem en79 : Enters Try.prog 79 := fun l w => Try.call79 l w
theorem en80 : Enters Try.prog 80 := fun l w => Try.call80 l w
theorem en91 : Enters Try.prog 91 := fun l w => Try.call91 l w
theorem en92 : Enters Try.prog 92 := fun l w => Try.call92 l w
theorem en93 : Enters Try.prog 93 := fun l w => Try.call93 l w
theorem en101 : Enters Try.prog 101 := fun l w => Try.call101 l w
theorem en102 : Enters Try.prog 102 := fun l w => Try.call102 l w
theorem en106 : Enters Try.prog 106 := fun l w => Try.call106 l w
theorem en108 : Enters Try.prog 108 := fun l w => Try.call108 l w
theorem en109 : Enters Try.prog 109 := fun l w => Try.call109 l w
theorem en110 : Enters Try.prog 110 := fun l w => Try.call110 l w
theorem sl74 : SlT Try.prog 74 22 := ⟨by kernel_rfl, by kernel_rfl⟩
theorem ag60 : aggB Try.prog 60 = some true := by kernel_rfl
theorem sz60 : szOf Try.prog 60 = some 22 := by kernel_rfl
theorem z60 : zeroOf Try.prog 60 = some (.agg #[.int .u8 0, .int .u8 0, .int .u8 0, .int .u8 0, .int .u8 0, .int .u8 0, .int .u8 0, .int .u8 0, .int .u8 0, .int .u8 0, .int .u8 0, .int .u8 0, .int .u8 0, .int .u8 0, .int .u8 0, .int .u8 0, .int .u8 0, .int .u8 0, .int .u8 0, .int .u8 0, .int .u32 0, .int .u16 0]) := by kernel_rfl
theorem fo60_1 : fieldOff Try.prog 60 1 = some 20 := by kernel_rfl
theorem ag58 : aggB Try.prog 58 = some true := by kernel_rfl
theorem sz58 : szOf Try.prog 58 = some 2 := by kernel_rfl
theorem fo58_0 : fieldOff Try.prog 58 0 = some 0 := by kernel_rfl
theorem ag41 : aggB Try.prog 41 = some false := by kernel_rfl
theorem fo58_1 : fieldOff Try.prog 58 1 = some 1 := by kernel_rfl
theorem ag56 : aggB Try.prog 56 = some false := by kernel_rfl
theorem eqT58 : EqT Try.prog 58 ([Leaf.int .u32, Leaf.int .u16]) := ⟨by kernel_rfl, by kernel_rfl, by kernel_rfl, by kernel_rfl, by kernel_rfl⟩
theorem fo60_0 : fieldOff Try.prog 60 0 = some 0 := by kernel_rfl
theorem ag55 : aggB Try.prog 55 = some true := by kernel_rfl
theorem sz55 : szOf Try.prog 55 = some 20 := by kernel_rfl
theorem eqT55 : EqT Try.prog 55 (List.replicate 20 (Leaf.int .u8)) := ⟨by kernel_rfl, by kernel_rfl, by kernel_rfl, by kernel_rfl, by kernel_rfl⟩
theorem us3 : (Try.prog.underlying 3).isSome = true := by kernel_rfl
theorem el5 : elI Try.prog 5 = some (1, 1, 1) := by kernel_rfl
theorem us112 : (Try.prog.underlying 112).isSome = true := by kernel_rfl
theorem us41 : (Try.prog.underlying 41).isSome = true := by kernel_rfl
theorem us56 : (Try.prog.underlying 56).isSome = true := by kernel_rfl
theorem sl150 : SlT Try.prog 150 1 := ⟨by kernel_rfl, by kernel_rfl⟩
theorem ag22 : aggB Try.prog 22 = some false := by kernel_rfl
theorem sl22 : SlT Try.prog 22 1 := ⟨by kernel_rfl, by kernel_rfl⟩
theorem z5 : zeroOf Try.prog 5 = some (.int .u8 0) := by kernel_rfl
theorem sz5 : szOf Try.prog 5 = some 1 := by kernel_rfl
theorem z58 : zeroOf Try.prog 58 = some (.agg #[.int .u32 0, .int .u16 0]) := by kernel_rfl
theorem np69 : Try.prog.underlying 69 = some (.pointer (Try.prog.pointee 69)) := by kernel_rfl
theorem fo122_0 : fieldOff Try.prog 122 0 = some 0 := by kernel_rfl
theorem fo120_1 : fieldOff Try.prog 120 1 = some 1 := by kernel_rfl
theorem ag4 : aggB Try.prog 4 = some false := by kernel_rfl
theorem fo120_0 : fieldOff Try.prog 120 0 = some 0 := by kernel_rfl
theorem sz22 : szOf Try.prog 22 = some 1 := by kernel_rfl
theorem fo120_2 : fieldOff Try.prog 120 2 = some 2 := by kernel_rfl
theorem sz4 : szOf Try.prog 4 = some 1 := by kernel_rfl
theorem ag5 : aggB Try.prog 5 = some false := by kernel_rfl
theorem us5 : (Try.prog.underlying 5).isSome = true := by kernel_rfl
theorem eqT60 : EqT Try.prog 60 (List.replicate 20 (Leaf.int .u8) ++ [Leaf.int .u32, Leaf.int .u16]) := ⟨by kernel_rfl, by kernel_rfl, by kernel_rfl, by kernel_rfl, by kernel_rfl⟩
theorem z66 : zeroOf Try.prog 66 = some (.agg #[.int .u8 0, .int .u8 0, .int .u8 0, .int .u8 0, .int .u8 0, .int .u8 0, .int .u8 0, .int .u8 0, .int .u8 0, .int .u8 0, .int .u8 0, .int .u8 0, .int .u8 0, .int .u8 0, .int .u8 0, .int .u8 0, .int .u8 0, .int .u8 0, .int .u8 0, .int .u8 0, .int .u32 0, .int .u16 0]) := by kernel_rfl
theorem sz66 : szOf Try.prog 66 = some 22 := by kernel_rfl
theorem ag66 : aggB Try.prog 66 = some true := by kernel_rfl
theorem el66 : elI Try.prog 66 = some (22, 28, 22) := by kernel_rfl
theorem sl76 : SlT Try.prog 76 22 := ⟨by kernel_rfl, by kernel_rfl⟩
theorem fo66_1 : fieldOff Try.prog 66 1 = some 20 := by kernel_rfl
theorem ag64 : aggB Try.prog 64 = some true := by kernel_rfl
theorem sz64 : szOf Try.prog 64 = some 2 := by kernel_rfl
theorem fo64_0 : fieldOff Try.prog 64 0 = some 0 := by kernel_rfl
theorem fo64_1 : fieldOff Try.prog 64 1 = some 1 := by kernel_rfl
theorem fo66_0 : fieldOff Try.prog 66 0 = some 0 := by kernel_rfl
theorem ag63 : aggB Try.prog 63 = some true := by kernel_rfl
theorem sz63 : szOf Try.prog 63 = some 20 := by kernel_rfl
theorem eqT63 : EqT Try.prog 63 (List.replicate 20 (Leaf.int .u8)) := ⟨by kernel_rfl, by kernel_rfl, by kernel_rfl, by kernel_rfl, by kernel_rfl⟩
theorem el60 : elI Try.prog 60 = some (22, 28, 22) := by kernel_rfl
theorem eqT66 : EqT Try.prog 66 (List.replicate 20 (Leaf.int .u8) ++ [Leaf.int .u32, Leaf.int .u16]) := ⟨by kernel_rfl, by kernel_rfl, by kernel_rfl, by kernel_rfl, by kernel_rfl⟩
theorem G_api_Addr_fits (x : G_api_Addr)  : Fits ([Leaf.int .u32, Leaf.int .u16]) (el_G_api_Addr.f x) := by
  show Fits _ [(v32 x.Host), (v16 x.Port)]
  exact (show Fits [Leaf.int .u32, Leaf.int .u16] [(v32 x.Host), (v16 x.Port)] from ⟨leaf_u32 _, ⟨leaf_u16 _, trivial⟩⟩)
theorem G_api_Addr_inj {x y : G_api_Addr} : x = y ↔ el_G_api_Addr.f x = el_G_api_Addr.f y := by
  constructor
  · rintro rfl; rfl
  · intro h
    have h : [(v32 x.Host), (v16 x.Port)] = [(v32 y.Host), (v16 y.Port)] := h
    obtain ⟨p0, p1⟩ := x
    obtain ⟨q0, q1⟩ := y
    simp only [span_append, span_only, List.append_assoc, List.cons_append, List.nil_append, List.cons.injEq, Value.int.injEq, Value.bool.injEq, Value.string.injEq, true_and, and_true, ofFn_inj', str_inj, Int.natCast_inj, UInt8.toNat_inj, UInt16.toNat_inj, UInt32.toNat_inj, UInt64.toNat_inj] at h
    simp only [h]
theorem G_api_Contact_fits (x : G_api_Contact)  : Fits (List.replicate 20 (Leaf.int .u8) ++ [Leaf.int .u32, Leaf.int .u16]) (el_G_api_Contact.f x) := by
  show Fits _ (bytesV (List.ofFn (n := 20) x.ID) ++ ([(v32 x.Addr.Host), (v16 x.Addr.Port)] : List Value))
  exact (Fits.append (fits_span _) (show Fits [Leaf.int .u32, Leaf.int .u16] [(v32 x.Addr.Host), (v16 x.Addr.Port)] from ⟨leaf_u32 _, ⟨leaf_u16 _, trivial⟩⟩))
theorem G_api_Contact_inj {x y : G_api_Contact} : x = y ↔ el_G_api_Contact.f x = el_G_api_Contact.f y := by
  constructor
  · rintro rfl; rfl
  · intro h
    have h : (bytesV (List.ofFn (n := 20) x.ID) ++ ([(v32 x.Addr.Host), (v16 x.Addr.Port)] : List Value)) = (bytesV (List.ofFn (n := 20) y.ID) ++ ([(v32 y.Addr.Host), (v16 y.Addr.Port)] : List Value)) := h
    obtain ⟨p0, ⟨p1_0, p1_1⟩⟩ := x
    obtain ⟨q0, ⟨q1_0, q1_1⟩⟩ := y
    simp only [span_append, span_only, List.append_assoc, List.cons_append, List.nil_append, List.cons.injEq, Value.int.injEq, Value.bool.injEq, Value.string.injEq, true_and, and_true, ofFn_inj', str_inj, Int.natCast_inj, UInt8.toNat_inj, UInt16.toNat_inj, UInt32.toNat_inj, UInt64.toNat_inj] at h
    simp only [h]
theorem G_signpostref08_Contact_fits (x : G_signpostref08_Contact)  : Fits (List.replicate 20 (Leaf.int .u8) ++ [Leaf.int .u32, Leaf.int .u16]) (el_G_signpostref08_Contact.f x) := by
  show Fits _ (bytesV (List.ofFn (n := 20) x.ID) ++ ([(v32 x.Addr.Host), (v16 x.Addr.Port)] : List Value))
  exact (Fits.append (fits_span _) (show Fits [Leaf.int .u32, Leaf.int .u16] [(v32 x.Addr.Host), (v16 x.Addr.Port)] from ⟨leaf_u32 _, ⟨leaf_u16 _, trivial⟩⟩))
theorem G_signpostref08_Contact_inj {x y : G_signpostref08_Contact} : x = y ↔ el_G_signpostref08_Contact.f x = el_G_signpostref08_Contact.f y := by
  constructor
  · rintro rfl; rfl
  · intro h
    have h : (bytesV (List.ofFn (n := 20) x.ID) ++ ([(v32 x.Addr.Host), (v16 x.Addr.Port)] : List Value)) = (bytesV (List.ofFn (n := 20) y.ID) ++ ([(v32 y.Addr.Host), (v16 y.Addr.Port)] : List Value)) := h
    obtain ⟨p0, ⟨p1_0, p1_1⟩⟩ := x
    obtain ⟨q0, ⟨q1_0, q1_1⟩⟩ := y
    simp only [span_append, span_only, List.append_assoc, List.cons_append, List.nil_append, List.cons.injEq, Value.int.injEq, Value.bool.injEq, Value.string.injEq, true_and, and_true, ofFn_inj', str_inj, Int.natCast_inj, UInt8.toNat_inj, UInt16.toNat_inj, UInt32.toNat_inj, UInt64.toNat_inj] at h
    simp only [h]
end Go.Proofs.Ytaaahjcldomnbaa
