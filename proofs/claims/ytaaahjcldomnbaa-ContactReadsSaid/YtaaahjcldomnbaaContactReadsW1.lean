/-
  That the functions of the program compute what their Lean functions say, part 1. No condition.
-/
import Derived.Test.YtaaahjcldomnbaaContactReadsW0
namespace Go.Proofs.Ytaaahjcldomnbaa
open Go Go.RowKit
set_option linter.unusedVariables false
set_option linter.unusedSimpArgs false
set_option linter.unnecessarySimpa false
set_option maxRecDepth 20000 in
theorem M_signpostlaw08_lives_w {W : Base} {w : World}   (h : Sat W w []) {r1 : Bool} (hm : M_signpostlaw08_lives = some r1) :
    Calls Try.prog 31 #[] w (Ret fun v w' => v = (.bool r1) ∧ Sat W w' []) := by
  unfold M_signpostlaw08_lives at hm
  refine C.enter (N := 39) Try.func31 rfl Try.ntmps31 rfl ?_
  show C _ _ _ [] _ _
  refine C.seq ?_
  refine C.region ?_
  refine G.yl (yl_assign rfl) rfl rfl rfl ?_
  refine G.nil ?_
  refine QA.then_normal ?_
  refine C.seq ?_
  refine C.region ?_
  obtain ⟨⟨r3_2, r4_2⟩, hy1, hm⟩ := sp_bind hm
  refine G.does (does_fn 0 rfl rfl rfl en44 h (fun U hU hp hr hs => M_contact_List_v_w (l := ([] : List G_api_Contact)) (V.nil _ _) (Nat.zero_le _) hp hy1)) rfl rfl rfl ?_
  rintro _ w4 ⟨U7, hb8, r12, r23, rfl, h6⟩
  have h5 : Sat W w4 [ow elU8 r12 r23 5 r3_2] := hb8 h6
  refine G.yl (yl_move rfl) rfl rfl rfl ?_
  refine G.yl (yl_extract rfl rfl) rfl rfl rfl ?_
  refine G.yl (yl_extract rfl rfl) rfl rfl rfl ?_
  refine G.yl (yl_assign rfl) rfl rfl rfl ?_
  refine G.yl (yl_assign rfl) rfl rfl rfl ?_
  refine G.nil ?_
  refine QA.then_normal ?_
  refine C.seq ?_
  refine C.region ?_
  refine G.yl (yl_build (vs := [(.int .u32 1), (.int .u16 1)]) (cells := #[(.int .u32 1), (.int .u16 1)]) rfl (by kernel_rfl)) rfl rfl rfl ?_
  refine G.yl (yl_build (vs := [(.agg #[(.int .u32 1), (.int .u16 1)])]) (cells := (bytesV (List.ofFn (n := 20) (fun _ => 0)) ++ ([(.int .u32 1), (.int .u16 1)] : List Value)).toArray) rfl (by kernel_rfl)) rfl rfl rfl ?_
  refine G.does (does_alloc (cs := (bytesV (List.ofFn (n := 20) (fun _ => 0)) ++ ([(.int .u32 0), (.int .u16 0)] : List Value))) h5 z60 rfl) rfl rfl rfl ?_
  rintro _ w10 ⟨b9, rfl, h11⟩
  refine G.unit (does_store (vs := (bytesV (List.ofFn (n := 20) (fun _ => 0)) ++ ([(.int .u32 1), (.int .u16 1)] : List Value))) h11 sz60 rfl rfl rfl (by simp [bytesV_length]) (List.forall_mem_append.2 ⟨(bytesV_one _), (List.forall_mem_cons.2 ⟨rfl, (List.forall_mem_cons.2 ⟨rfl, (fun _ hh => by cases hh)⟩)⟩)⟩) (by simp [bytesV_length])) rfl rfl ?_
  rintro _ w12 h14
  have h13 : Sat W w12 [blk b9 (bytesV (List.ofFn (n := 20) (fun _ => 0)) ++ ([(.int .u32 1), (.int .u16 1)] : List Value)) 60, ow elU8 r12 r23 5 r3_2] := sl_blk (setN_all _ _ (by simp [bytesV_length])) h14
  refine G.nil ?_
  refine QA.then_normal ?_
  refine C.seq ?_
  refine C.region ?_
  refine G.yl (yl_loadN (vs := (bytesV (List.ofFn (n := 20) (fun _ => 0)) ++ ([(.int .u32 1), (.int .u16 1)] : List Value))) ag60 sz60 (by simp [bytesV_length]) rfl (h13.isBlk.view0)) rfl rfl rfl ?_
  obtain ⟨r3_3, hy15, hm⟩ := sp_bind hm
  refine G.does (does_fn 0 rfl rfl rfl en58 h13 (fun U hU hp hr hs => M_contact_Bytes_w (c := (G_api_Contact.mk (fun _ => 0) (G_api_Addr.mk 1 1))) hp hy15)) rfl rfl rfl ?_
  rintro _ w18 ⟨U21, hb22, r116, r217, rfl, h20⟩
  have h19 : Sat W w18 [ow elU8 r116 r217 5 r3_3, blk b9 (bytesV (List.ofFn (n := 20) (fun _ => 0)) ++ ([(.int .u32 1), (.int .u16 1)] : List Value)) 60, ow elU8 r12 r23 5 r3_2] := hb22 h20
  obtain ⟨⟨r1_2, r2_2⟩, hy23, hm⟩ := sp_bind hm
  refine G.does (does_fn 0 rfl rfl rfl en32 h19 (fun U hU hp hr hs => M_contact_Read_v_w (Rest.view hr) (Sat.own_cap h19).1 hp hy23)) rfl rfl rfl ?_
  rintro _ w24 ⟨U27, hb28, rfl, h26⟩
  have h25 : Sat W w24 [ow elU8 r116 r217 5 r3_3, blk b9 (bytesV (List.ofFn (n := 20) (fun _ => 0)) ++ ([(.int .u32 1), (.int .u16 1)] : List Value)) 60, ow elU8 r12 r23 5 r3_2] := hb28 h26
  refine G.yl (yl_move rfl) rfl rfl rfl ?_
  refine G.yl (yl_extract rfl rfl) rfl rfl rfl ?_
  refine G.yl (yl_extract rfl rfl) rfl rfl rfl ?_
  refine G.does (does_alloc (cs := (bytesV (List.ofFn (n := 20) (fun _ => 0)) ++ ([(.int .u32 0), (.int .u16 0)] : List Value))) h25 z60 rfl) rfl rfl rfl ?_
  rintro _ w30 ⟨b29, rfl, h31⟩
  refine G.unit (does_store (vs := (bytesV (List.ofFn (n := 20) r1_2.ID) ++ ([(v32 r1_2.Addr.Host), (v16 r1_2.Addr.Port)] : List Value))) h31 sz60 rfl rfl rfl (by simp [bytesV_length]) (List.forall_mem_append.2 ⟨(bytesV_one _), (List.forall_mem_cons.2 ⟨rfl, (List.forall_mem_cons.2 ⟨rfl, (fun _ hh => by cases hh)⟩)⟩)⟩) (by simp [bytesV_length])) rfl rfl ?_
  rintro _ w32 h34
  have h33 : Sat W w32 [blk b29 (bytesV (List.ofFn (n := 20) r1_2.ID) ++ ([(v32 r1_2.Addr.Host), (v16 r1_2.Addr.Port)] : List Value)) 60, ow elU8 r116 r217 5 r3_3, blk b9 (bytesV (List.ofFn (n := 20) (fun _ => 0)) ++ ([(.int .u32 1), (.int .u16 1)] : List Value)) 60, ow elU8 r12 r23 5 r3_2] := sl_blk (setN_all _ _ (by simp [bytesV_length])) h34
  refine G.yl (yl_assign rfl) rfl rfl rfl ?_
  refine G.nil ?_
  refine QA.then_normal ?_
  refine C.seq ?_
  refine C.region ?_
  refine G.yl (yl_move rfl) rfl rfl rfl ?_
  refine G.yl (yl_strE Try.underlying22 Try.underlying5 Try.underlying9 rfl rfl (Sat.own_view (Sat.pick [3] h33))) rfl rfl rfl ?_
  refine G.yl (yl_eqS rfl rfl) rfl rfl rfl ?_
  refine G.yl (yl_move rfl) rfl rfl rfl ?_
  rcases sp_ite hm with ⟨hc35, hm⟩ | ⟨hc35, hm⟩
  · refine G.on rfl rfl (dec_t hc35) ?_
    refine G.yl (yl_move rfl) rfl rfl rfl ?_
    refine G.on rfl rfl (dec_t hc35) ?_
    refine G.yl (yl_eqI rfl rfl) rfl rfl rfl ?_
    refine G.yl (yl_pick_t rfl (dec_t hc35) rfl) rfl rfl rfl ?_
    refine G.yl (yl_move rfl) rfl rfl rfl ?_
    rcases sp_ite hm with ⟨hc36, hm⟩ | ⟨hc36, hm⟩
    · refine G.on rfl rfl (dec_t hc36) ?_
      refine G.yl (yl_loadN (vs := (bytesV (List.ofFn (n := 20) r1_2.ID) ++ ([(v32 r1_2.Addr.Host), (v16 r1_2.Addr.Port)] : List Value))) ag60 sz60 (by simp [bytesV_length]) rfl (h33.isBlk.view0)) rfl rfl rfl ?_
      refine G.on rfl rfl (dec_t hc36) ?_
      refine G.yl (yl_loadN (vs := (bytesV (List.ofFn (n := 20) (fun _ => 0)) ++ ([(.int .u32 1), (.int .u16 1)] : List Value))) ag60 sz60 (by simp [bytesV_length]) rfl ((Sat.pick [2] h33).isBlk.view0)) rfl rfl rfl ?_
      refine G.on rfl rfl (dec_t hc36) ?_
      refine G.yl (yl_eq_agg (r := decide (r1_2 = (G_api_Contact.mk (fun _ => 0) (G_api_Addr.mk 1 1)))) (vs := (el_G_api_Contact.f r1_2)) (us := (el_G_api_Contact.f (G_api_Contact.mk (fun _ => 0) (G_api_Addr.mk 1 1)))) rfl rfl (by rw [decide_eq_true_eq]; exact G_api_Contact_inj) eqT60.1 eqT60.2.1 eqT60.2.2.1 eqT60.2.2.2.1 eqT60.2.2.2.2 (G_api_Contact_fits r1_2) (G_api_Contact_fits (G_api_Contact.mk (fun _ => 0) (G_api_Addr.mk 1 1)))) rfl rfl rfl ?_
      refine G.yl (yl_pick_t rfl (dec_t hc36) rfl) rfl rfl rfl ?_
      refine G.yl (yl_move rfl) rfl rfl rfl ?_
      rcases sp_ite hm with ⟨hc37, hm⟩ | ⟨hc37, hm⟩
      · refine G.on rfl rfl (dec_t hc37) ?_
        refine G.yl (yl_move rfl) rfl rfl rfl ?_
        refine G.on rfl rfl (dec_t hc37) ?_
        refine G.yl (yl_eqI rfl rfl) rfl rfl rfl ?_
        refine G.yl (yl_pick_t rfl (dec_t hc37) rfl) rfl rfl rfl ?_
        refine G.yl (yl_move rfl) rfl rfl rfl ?_
        rcases sp_ite hm with ⟨hc38, hm⟩ | ⟨hc38, hm⟩
        · refine G.on rfl rfl (dec_t hc38) ?_
          refine G.yl (yl_build (vs := []) (cells := (bytesV (List.ofFn (n := 20) (fun _ => 0))).toArray) rfl (by kernel_rfl)) rfl rfl rfl ?_
          refine G.on rfl rfl (dec_t hc38) ?_
          obtain ⟨r1_3, hy39, hm⟩ := sp_bind hm
          refine G.does (does_fn 0 rfl rfl rfl en62 h33 (fun U hU hp hr hs => M_contact_Find_v_w (l := ([] : List G_api_Contact)) (V.nil _ _) (Nat.zero_le _) hp hy39)) rfl rfl rfl ?_
          rintro _ w40 ⟨U43, hb44, rfl, h42⟩
          have h41 : Sat W w40 [blk b29 (bytesV (List.ofFn (n := 20) r1_2.ID) ++ ([(v32 r1_2.Addr.Host), (v16 r1_2.Addr.Port)] : List Value)) 60, ow elU8 r116 r217 5 r3_3, blk b9 (bytesV (List.ofFn (n := 20) (fun _ => 0)) ++ ([(.int .u32 1), (.int .u16 1)] : List Value)) 60, ow elU8 r12 r23 5 r3_2] := hb44 h42
          refine G.on rfl rfl (dec_t hc38) ?_
          refine G.yl (yl_eqI rfl rfl) rfl rfl rfl ?_
          refine G.yl (yl_pick_t rfl (dec_t hc38) rfl) rfl rfl rfl ?_
          refine G.yl (yl_assign rfl) rfl rfl rfl ?_
          refine G.nil ?_
          refine QA.then_normal ?_
          refine C.ret ?_
          refine QA.ret1 rfl rfl ?_
          obtain rfl := sp_ret1 hm
          exact ⟨rfl, (Sat.pick [] h41)⟩
        · refine G.offU rfl rfl (dec_f hc38) rfl ?_
          refine G.offU rfl rfl (dec_f hc38) rfl ?_
          refine G.offU rfl rfl (dec_f hc38) rfl ?_
          refine G.yl (yl_pick_f rfl (dec_f hc38) rfl) rfl rfl rfl ?_
          refine G.yl (yl_assign rfl) rfl rfl rfl ?_
          refine G.nil ?_
          refine QA.then_normal ?_
          refine C.ret ?_
          refine QA.ret1 rfl rfl ?_
          obtain rfl := sp_ret1 hm
          exact ⟨rfl, (Sat.pick [] h33)⟩
      · refine G.offU rfl rfl (dec_f hc37) rfl ?_
        refine G.offU rfl rfl (dec_f hc37) rfl ?_
        refine G.yl (yl_pick_f rfl (dec_f hc37) rfl) rfl rfl rfl ?_
        refine G.yl (yl_move rfl) rfl rfl rfl ?_
        refine G.offU rfl rfl rfl rfl ?_
        refine G.offU rfl rfl rfl rfl ?_
        refine G.offU rfl rfl rfl rfl ?_
        refine G.yl (yl_pick_f rfl rfl rfl) rfl rfl rfl ?_
        refine G.yl (yl_assign rfl) rfl rfl rfl ?_
        refine G.nil ?_
        refine QA.then_normal ?_
        refine C.ret ?_
        refine QA.ret1 rfl rfl ?_
        obtain rfl := sp_ret1 hm
        exact ⟨rfl, (Sat.pick [] h33)⟩
    · refine G.offU rfl rfl (dec_f hc36) rfl ?_
      refine G.offU rfl rfl (dec_f hc36) rfl ?_
      refine G.offU rfl rfl (dec_f hc36) rfl ?_
      refine G.yl (yl_pick_f rfl (dec_f hc36) rfl) rfl rfl rfl ?_
      refine G.yl (yl_move rfl) rfl rfl rfl ?_
      refine G.offU rfl rfl rfl rfl ?_
      refine G.offU rfl rfl rfl rfl ?_
      refine G.yl (yl_pick_f rfl rfl rfl) rfl rfl rfl ?_
      refine G.yl (yl_move rfl) rfl rfl rfl ?_
      refine G.offU rfl rfl rfl rfl ?_
      refine G.offU rfl rfl rfl rfl ?_
      refine G.offU rfl rfl rfl rfl ?_
      refine G.yl (yl_pick_f rfl rfl rfl) rfl rfl rfl ?_
      refine G.yl (yl_assign rfl) rfl rfl rfl ?_
      refine G.nil ?_
      refine QA.then_normal ?_
      refine C.ret ?_
      refine QA.ret1 rfl rfl ?_
      obtain rfl := sp_ret1 hm
      exact ⟨rfl, (Sat.pick [] h33)⟩
  · refine G.offU rfl rfl (dec_f hc35) rfl ?_
    refine G.offU rfl rfl (dec_f hc35) rfl ?_
    refine G.yl (yl_pick_f rfl (dec_f hc35) rfl) rfl rfl rfl ?_
    refine G.yl (yl_move rfl) rfl rfl rfl ?_
    refine G.offU rfl rfl rfl rfl ?_
    refine G.offU rfl rfl rfl rfl ?_
    refine G.offU rfl rfl rfl rfl ?_
    refine G.yl (yl_pick_f rfl rfl rfl) rfl rfl rfl ?_
    refine G.yl (yl_move rfl) rfl rfl rfl ?_
    refine G.offU rfl rfl rfl rfl ?_
    refine G.offU rfl rfl rfl rfl ?_
    refine G.yl (yl_pick_f rfl rfl rfl) rfl rfl rfl ?_
    refine G.yl (yl_move rfl) rfl rfl rfl ?_
    refine G.offU rfl rfl rfl rfl ?_
    refine G.offU rfl rfl rfl rfl ?_
    refine G.offU rfl rfl rfl rfl ?_
    refine G.yl (yl_pick_f rfl rfl rfl) rfl rfl rfl ?_
    refine G.yl (yl_assign rfl) rfl rfl rfl ?_
    refine G.nil ?_
    refine QA.then_normal ?_
    refine C.ret ?_
    refine QA.ret1 rfl rfl ?_
    obtain rfl := sp_ret1 hm
    exact ⟨rfl, (Sat.pick [] h33)⟩
set_option maxRecDepth 20000 in
theorem M_signpostref01_Get_v_w {W : Base} {w : World} {a : Option Addr} {c : Nat} {b : List UInt8} {at_ : Int} {width : Int} (hv_b : V W a (elU8.row b)) (hq_b : b.length ≤ c) (h : Sat W w []) {r1 : UInt64} {r2 : Bool} (hm : M_signpostref01_Get_v b at_ width = some (r1, r2)) :
    Calls Try.prog 107 #[(.slice a b.length c), (vI at_), (vI width)] w (Ret fun v w' => v = (.tuple #[(v64 r1), (.bool r2)]) ∧ Sat W w' []) := by
  unfold M_signpostref01_Get_v at hm
  refine C.enter (N := 50) Try.func107 rfl Try.ntmps107 rfl ?_
  show C _ _ _ [(0, (.slice a b.length c)), (1, (vI at_)), (2, (vI width))] _ _
  refine C.seq ?_
  refine C.region ?_
  refine G.yl (yl_assign rfl) rfl rfl rfl ?_
  refine G.yl (yl_assign rfl) rfl rfl rfl ?_
  refine G.nil ?_
  refine QA.then_normal ?_
  refine C.seq ?_
  refine C.join (γ := Bool) (fun g => match g with | t33 => [(0, (.slice a b.length c)), (1, (vI at_)), (2, (vI width)), (6, (.int .u64 0)), (7, (.bool false)), (33, (.bool t33))]) (fun g ww => match g with | t33 => (M_signpostref01_Get_v_k1 at_ b width t33 = some (r1, r2)) ∧ Sat W ww []) ?_ ?_
  · refine C.region ?_
    refine G.yl (yl_move rfl) rfl rfl rfl ?_
    refine G.yl (yl_ltI rfl rfl) rfl rfl rfl ?_
    refine G.yl (yl_move rfl) rfl rfl rfl ?_
    rcases sp_ite hm with ⟨hc1, hm⟩ | ⟨hc1, hm⟩
    · refine G.offU rfl rfl (dec_t hc1) rfl ?_
      refine G.offU rfl rfl (dec_t hc1) rfl ?_
      refine G.yl (yl_pick_t rfl (dec_t hc1) rfl) rfl rfl rfl ?_
      refine G.yl (yl_move rfl) rfl rfl rfl ?_
      refine G.offU rfl rfl rfl rfl ?_
      refine G.offU rfl rfl rfl rfl ?_
      refine G.yl (yl_pick_t rfl rfl rfl) rfl rfl rfl ?_
      refine G.yl (yl_move rfl) rfl rfl rfl ?_
      refine G.offU rfl rfl rfl rfl ?_
      refine G.offU rfl rfl rfl rfl ?_
      refine G.offU rfl rfl rfl rfl ?_
      refine G.offU rfl rfl rfl rfl ?_
      refine G.yl (yl_pick_t rfl rfl rfl) rfl rfl rfl ?_
      refine G.yl (yl_move rfl) rfl rfl rfl ?_
      refine G.offU rfl rfl rfl rfl ?_
      refine G.offU rfl rfl rfl rfl ?_
      refine G.offU rfl rfl rfl rfl ?_
      refine G.offU rfl rfl rfl rfl ?_
      refine G.offU rfl rfl rfl rfl ?_
      refine G.offU rfl rfl rfl rfl ?_
      refine G.yl (yl_pick_t rfl rfl rfl) rfl rfl rfl ?_
      refine G.nil ?_
      exact QA.join true (Sub.of ⟨rfl, rfl, rfl, rfl, rfl, rfl, trivial⟩) ⟨hm, (Sat.pick [] h)⟩
    · refine G.on rfl rfl (dec_f hc1) ?_
      refine G.yl (yl_move rfl) rfl rfl rfl ?_
      refine G.on rfl rfl (dec_f hc1) ?_
      refine G.yl (yl_gtI rfl rfl) rfl rfl rfl ?_
      refine G.yl (yl_pick_f rfl (dec_f hc1) rfl) rfl rfl rfl ?_
      refine G.yl (yl_move rfl) rfl rfl rfl ?_
      rcases sp_ite hm with ⟨hc2, hm⟩ | ⟨hc2, hm⟩
      · refine G.offU rfl rfl (dec_t hc2) rfl ?_
        refine G.offU rfl rfl (dec_t hc2) rfl ?_
        refine G.yl (yl_pick_t rfl (dec_t hc2) rfl) rfl rfl rfl ?_
        refine G.yl (yl_move rfl) rfl rfl rfl ?_
        refine G.offU rfl rfl rfl rfl ?_
        refine G.offU rfl rfl rfl rfl ?_
        refine G.offU rfl rfl rfl rfl ?_
        refine G.offU rfl rfl rfl rfl ?_
        refine G.yl (yl_pick_t rfl rfl rfl) rfl rfl rfl ?_
        refine G.yl (yl_move rfl) rfl rfl rfl ?_
        refine G.offU rfl rfl rfl rfl ?_
        refine G.offU rfl rfl rfl rfl ?_
        refine G.offU rfl rfl rfl rfl ?_
        refine G.offU rfl rfl rfl rfl ?_
        refine G.offU rfl rfl rfl rfl ?_
        refine G.offU rfl rfl rfl rfl ?_
        refine G.yl (yl_pick_t rfl rfl rfl) rfl rfl rfl ?_
        refine G.nil ?_
        exact QA.join true (Sub.of ⟨rfl, rfl, rfl, rfl, rfl, rfl, trivial⟩) ⟨hm, (Sat.pick [] h)⟩
      · refine G.on rfl rfl (dec_f hc2) ?_
        refine G.yl (yl_move rfl) rfl rfl rfl ?_
        refine G.on rfl rfl (dec_f hc2) ?_
        refine G.yl (yl_ltI rfl rfl) rfl rfl rfl ?_
        refine G.yl (yl_pick_f rfl (dec_f hc2) rfl) rfl rfl rfl ?_
        refine G.yl (yl_move rfl) rfl rfl rfl ?_
        rcases sp_ite hm with ⟨hc3, hm⟩ | ⟨hc3, hm⟩
        · refine G.offU rfl rfl (dec_t hc3) rfl ?_
          refine G.offU rfl rfl (dec_t hc3) rfl ?_
          refine G.offU rfl rfl (dec_t hc3) rfl ?_
          refine G.offU rfl rfl (dec_t hc3) rfl ?_
          refine G.yl (yl_pick_t rfl (dec_t hc3) rfl) rfl rfl rfl ?_
          refine G.yl (yl_move rfl) rfl rfl rfl ?_
          refine G.offU rfl rfl rfl rfl ?_
          refine G.offU rfl rfl rfl rfl ?_
          refine G.offU rfl rfl rfl rfl ?_
          refine G.offU rfl rfl rfl rfl ?_
          refine G.offU rfl rfl rfl rfl ?_
          refine G.offU rfl rfl rfl rfl ?_
          refine G.yl (yl_pick_t rfl rfl rfl) rfl rfl rfl ?_
          refine G.nil ?_
          exact QA.join true (Sub.of ⟨rfl, rfl, rfl, rfl, rfl, rfl, trivial⟩) ⟨hm, (Sat.pick [] h)⟩
        · refine G.on rfl rfl (dec_f hc3) ?_
          refine G.yl (yl_move rfl) rfl rfl rfl ?_
          refine G.on rfl rfl (dec_f hc3) ?_
          refine G.yl (yl_move rfl) rfl rfl rfl ?_
          refine G.on rfl rfl (dec_f hc3) ?_
          refine G.yl (yl_lenE Try.underlying22 rfl) rfl rfl rfl ?_
          refine G.on rfl rfl (dec_f hc3) ?_
          refine G.yl (yl_gtI rfl rfl) rfl rfl rfl ?_
          refine G.yl (yl_pick_f rfl (dec_f hc3) rfl) rfl rfl rfl ?_
          refine G.yl (yl_move rfl) rfl rfl rfl ?_
          rcases sp_ite hm with ⟨hc4, hm⟩ | ⟨hc4, hm⟩
          · refine G.offU rfl rfl (dec_t hc4) rfl ?_
            refine G.offU rfl rfl (dec_t hc4) rfl ?_
            refine G.offU rfl rfl (dec_t hc4) rfl ?_
            refine G.offU rfl rfl (dec_t hc4) rfl ?_
            refine G.offU rfl rfl (dec_t hc4) rfl ?_
            refine G.offU rfl rfl (dec_t hc4) rfl ?_
            refine G.yl (yl_pick_t rfl (dec_t hc4) rfl) rfl rfl rfl ?_
            refine G.nil ?_
            exact QA.join true (Sub.of ⟨rfl, rfl, rfl, rfl, rfl, rfl, trivial⟩) ⟨hm, (Sat.pick [] h)⟩
          · refine G.on rfl rfl (dec_f hc4) ?_
            refine G.yl (yl_move rfl) rfl rfl rfl ?_
            refine G.on rfl rfl (dec_f hc4) ?_
            refine G.yl (yl_lenE Try.underlying22 rfl) rfl rfl rfl ?_
            refine G.on rfl rfl (dec_f hc4) ?_
            refine G.yl (yl_move rfl) rfl rfl rfl ?_
            refine G.on rfl rfl (dec_f hc4) ?_
            obtain ⟨hc5, hm⟩ := sp_chk hm
            refine G.yl (yl_subI rfl rfl hc5) rfl rfl rfl ?_
            refine G.on rfl rfl (dec_f hc4) ?_
            refine G.yl (yl_move rfl) rfl rfl rfl ?_
            refine G.on rfl rfl (dec_f hc4) ?_
            refine G.yl (yl_ltI rfl rfl) rfl rfl rfl ?_
            refine G.yl (yl_pick_f rfl (dec_f hc4) rfl) rfl rfl rfl ?_
            refine G.nil ?_
            exact QA.join (decide (((b.length : Int) - at_) < width)) (Sub.of ⟨rfl, rfl, rfl, rfl, rfl, rfl, trivial⟩) ⟨hm, (Sat.pick [] h)⟩
  · rintro t33 w6 ⟨hm, h7⟩
    show C _ _ _ [(0, (.slice a b.length c)), (1, (vI at_)), (2, (vI width)), (6, (.int .u64 0)), (7, (.bool false)), (33, (.bool t33))] _ _
    unfold M_signpostref01_Get_v_k1 at hm
    rcases sp_b hm with ⟨hc8, hm⟩ | ⟨hc8, hm⟩
    · refine C.cond_t rfl hc8 ?_
      refine C.seq ?_
      refine C.region ?_
      refine G.yl (yl_assign rfl) rfl rfl rfl ?_
      refine G.yl (yl_assign rfl) rfl rfl rfl ?_
      refine G.nil ?_
      refine QA.then_normal ?_
      refine C.ret ?_
      refine QA.then_ret ?_
      refine QA.ret2 rfl rfl rfl ?_
      obtain ⟨rfl, rfl⟩ := sp_ret2 hm
      exact ⟨rfl, (Sat.pick [] h7)⟩
    · refine C.cond_f rfl hc8 ?_
      refine C.skip ?_
      refine QA.then_normal ?_
      refine C.seq ?_
      refine C.region ?_
      refine G.yl (yl_assign rfl) rfl rfl rfl ?_
      refine G.nil ?_
      refine QA.then_normal ?_
      refine C.seq ?_
      refine C.seq ?_
      refine C.region ?_
      refine G.yl (yl_assign rfl) rfl rfl rfl ?_
      refine G.nil ?_
      refine QA.then_normal ?_
      refine C.block ?_
      obtain ⟨o, ho9, hm10⟩ := sp_bind hm
      refine C.left (γ := UInt64) (.exit 0) (fun g => match g with | n_2 => [(6, (.int .u64 0)), (7, (.bool false)), (8, (v64 n_2))]) (fun g ww => match g with | n_2 => n_2 = o ∧ Sat W ww []) ?_ ?_
      · refine C.loopO (γ := UInt64 × Int) (fun g => match g with | (n, i) => [(0, (.slice a b.length c)), (1, (vI at_)), (2, (vI width)), (6, (.int .u64 0)), (7, (.bool false)), (8, (v64 n)), (9, (vI i))]) (fun g ww => match g with | (n, i) => Sat W ww []) (fun g => match g with | (n, i) => (n, i)) (0, 0) ho9 (Sub.of ⟨rfl, rfl, rfl, rfl, rfl, rfl, rfl, trivial⟩) (Sat.pick [] h7) ?_
        rintro ⟨n, i⟩ k13 w11 y_ h12 hm hg14
        show C _ _ _ [(0, (.slice a b.length c)), (1, (vI at_)), (2, (vI width)), (6, (.int .u64 0)), (7, (.bool false)), (8, (v64 n)), (9, (vI i))] _ _
        change M_signpostref01_Get_v_b2 at_ b width n i = some y_ at hm
        unfold M_signpostref01_Get_v_b2 at hm
        refine C.seq ?_
        refine C.seq ?_
        refine C.region ?_
        refine G.yl (yl_move rfl) rfl rfl rfl ?_
        refine G.yl (yl_move rfl) rfl rfl rfl ?_
        refine G.yl (yl_ltI rfl rfl) rfl rfl rfl ?_
        refine G.nil ?_
        refine QA.then_normal ?_
        rcases sp_ite hm with ⟨hc15, hm⟩ | ⟨hc15, hm⟩
        · refine C.cond_t rfl (dec_t hc15) ?_
          refine C.skip ?_
          refine QA.then_normal ?_
          refine C.seq ?_
          refine C.block ?_
          refine C.region ?_
          refine G.yl (yl_move rfl) rfl rfl rfl ?_
          refine G.yl (yl_mul64 (b := 256) rfl rfl) rfl rfl rfl ?_
          refine G.yl (yl_move rfl) rfl rfl rfl ?_
          refine G.yl (yl_move rfl) rfl rfl rfl ?_
          refine G.yl (yl_move rfl) rfl rfl rfl ?_
          obtain ⟨hc16, hm⟩ := sp_chk hm
          refine G.yl (yl_addI rfl rfl hc16) rfl rfl rfl ?_
          obtain ⟨x, hy17, hm⟩ := sp_bind hm
          refine G.yl (yl_ixP (l := b) sl22 rfl rfl (View.isA (E := elU8) (hv_b.at_ h12) (by decide) (at?_lt hy17)) rfl (at?_lt hy17)) rfl rfl rfl ?_
          refine G.yl (yl_ld1 (E := elU8) (v := (v8 x)) ag5 rfl (hv_b.at_ h12) (at?_some hy17).2 rfl) rfl rfl rfl ?_
          refine G.yl (yl_8to64 us5 Try.underlying112 rfl) rfl rfl rfl ?_
          refine G.yl (yl_add64 rfl rfl) rfl rfl rfl ?_
          refine G.yl (yl_assign rfl) rfl rfl rfl ?_
          refine G.nil ?_
          refine QA.block_normal ?_
          refine QA.then_normal ?_
          refine C.region ?_
          refine G.yl (yl_move rfl) rfl rfl rfl ?_
          obtain ⟨hc18, hm⟩ := sp_chk hm
          refine G.yl (yl_addI rfl rfl hc18) rfl rfl rfl ?_
          refine G.yl (yl_assign rfl) rfl rfl rfl ?_
          refine G.nil ?_
          obtain rfl := sp_ret1 hm
          exact QA.againO ((n * 256) + x.toUInt64, i + 1) hg14 (Sub.of ⟨rfl, rfl, rfl, rfl, rfl, rfl, rfl, trivial⟩) (Sat.pick [] h12)
        · refine C.cond_f rfl (dec_f hc15) ?_
          refine C.exit ?_
          refine QA.then_exit ?_
          refine QA.then_exit ?_
          obtain rfl := sp_ret1 hm
          exact QA.left n (Sub.of ⟨rfl, rfl, rfl, trivial⟩) ⟨hg14, (Sat.pick [] h12)⟩
      · rintro n_2 w19 ⟨rfl, h20⟩
        have hm := hm10
        show QA _ _ [(6, (.int .u64 0)), (7, (.bool false)), (8, (v64 n_2))] _ _
        refine QA.block_here ?_
        refine QA.then_normal ?_
        refine C.seq ?_
        refine C.region ?_
        refine G.yl (yl_move rfl) rfl rfl rfl ?_
        refine G.yl (yl_assign rfl) rfl rfl rfl ?_
        refine G.yl (yl_assign rfl) rfl rfl rfl ?_
        refine G.nil ?_
        refine QA.then_normal ?_
        refine C.ret ?_
        refine QA.ret2 rfl rfl rfl ?_
        obtain ⟨rfl, rfl⟩ := sp_ret2 hm
        exact ⟨rfl, (Sat.pick [] h20)⟩
set_option maxRecDepth 20000 in
theorem M_signpostref06_Good_w {W : Base} {w : World} {a : G_signpostref06_Addr}  (h : Sat W w []) {r1 : Bool} (hm : M_signpostref06_Good a = some r1) :
    Calls Try.prog 92 #[(.agg #[(v32 a.Host), (v16 a.Port)])] w (Ret fun v w' => v = (.bool r1) ∧ Sat W w' []) := by
  unfold M_signpostref06_Good at hm
  refine C.enter (N := 11) Try.func92 rfl Try.ntmps92 rfl ?_
  show C _ _ _ [(0, (.agg #[(v32 a.Host), (v16 a.Port)]))] _ _
  refine C.seq ?_
  refine C.region ?_
  refine G.does (does_box (cs := [(v32 a.Host), (v16 a.Port)]) h rfl rfl) rfl rfl rfl ?_
  rintro _ w2 ⟨b1, rfl, h3⟩
  refine G.yl (yl_assign rfl) rfl rfl rfl ?_
  refine G.nil ?_
  refine QA.then_normal ?_
  refine C.seq ?_
  refine C.region ?_
  refine G.yl (yl_fieldAddr fo64_0 rfl) rfl rfl rfl ?_
  refine G.yl (yl_load (v := (v32 a.Host)) ag41 rfl (View.at0 (j := 0) h3.isBlk.view0 rfl)) rfl rfl rfl ?_
  refine G.yl (yl_ne32 (b := 0) rfl rfl) rfl rfl rfl ?_
  refine G.yl (yl_move rfl) rfl rfl rfl ?_
  rcases sp_ite hm with ⟨hc4, hm⟩ | ⟨hc4, hm⟩
  · refine G.offU rfl rfl (not_f (dec_t hc4)) rfl ?_
    refine G.offU rfl rfl (not_f (dec_t hc4)) rfl ?_
    refine G.offU rfl rfl (not_f (dec_t hc4)) rfl ?_
    refine G.yl (yl_pick_f rfl (not_f (dec_t hc4)) rfl) rfl rfl rfl ?_
    refine G.yl (yl_assign rfl) rfl rfl rfl ?_
    refine G.nil ?_
    refine QA.then_normal ?_
    refine C.ret ?_
    refine QA.ret1 rfl rfl ?_
    obtain rfl := sp_ret1 hm
    exact ⟨rfl, (Sat.pick [] h3)⟩
  · refine G.on rfl rfl (not_t (dec_f hc4)) ?_
    refine G.yl (yl_fieldAddr fo64_1 rfl) rfl rfl rfl ?_
    refine G.on rfl rfl (not_t (dec_f hc4)) ?_
    refine G.yl (yl_load (v := (v16 a.Port)) ag56 rfl (View.at0 (j := 1) h3.isBlk.view0 rfl)) rfl rfl rfl ?_
    refine G.on rfl rfl (not_t (dec_f hc4)) ?_
    refine G.yl (yl_ne16 (b := 0) rfl rfl) rfl rfl rfl ?_
    refine G.yl (yl_pick_t rfl (not_t (dec_f hc4)) rfl) rfl rfl rfl ?_
    refine G.yl (yl_assign rfl) rfl rfl rfl ?_
    refine G.nil ?_
    refine QA.then_normal ?_
    refine C.ret ?_
    refine QA.ret1 rfl rfl ?_
    obtain rfl := sp_ret1 hm
    exact ⟨rfl, (Sat.pick [] h3)⟩
set_option maxRecDepth 20000 in
theorem M_signpostref06_Read_v_w {W : Base} {w : World} {a : Option Addr} {c : Nat} {b : List UInt8} (hv_b : V W a (elU8.row b)) (hq_b : b.length ≤ c) (h : Sat W w []) {r1 : G_signpostref06_Addr} {r2 : Int} (hm : M_signpostref06_Read_v b = some (r1, r2)) :
    Calls Try.prog 72 #[(.slice a b.length c)] w (Ret fun v w' => v = (.tuple #[(.agg #[(v32 r1.Host), (v16 r1.Port)]), (vI r2)]) ∧ Sat W w' []) := by
  unfold M_signpostref06_Read_v at hm
  refine C.enter (N := 33) Try.func72 rfl Try.ntmps72 rfl ?_
  show C _ _ _ [(0, (.slice a b.length c))] _ _
  refine C.seq ?_
  refine C.region ?_
  refine G.does (does_alloc (cs := [(.int .u32 0), (.int .u16 0)]) h z64 rfl) rfl rfl rfl ?_
  rintro _ w2 ⟨b1, rfl, h3⟩
  refine G.yl (yl_assign rfl) rfl rfl rfl ?_
  refine G.nil ?_
  refine QA.then_normal ?_
  refine C.seq ?_
  refine C.seq ?_
  refine C.region ?_
  refine G.yl (yl_move rfl) rfl rfl rfl ?_
  refine G.yl (yl_lenE Try.underlying22 rfl) rfl rfl rfl ?_
  refine G.yl (yl_neI rfl rfl) rfl rfl rfl ?_
  refine G.nil ?_
  refine QA.then_normal ?_
  rcases sp_ite hm with ⟨hc4, hm⟩ | ⟨hc4, hm⟩
  · refine C.cond_f rfl (not_f (dec_t hc4)) ?_
    refine C.skip ?_
    refine QA.then_normal ?_
    refine C.seq ?_
    refine C.region ?_
    refine G.yl (yl_move rfl) rfl rfl rfl ?_
    obtain ⟨⟨r1_2, r2_2⟩, hy5, hm⟩ := sp_bind hm
    refine G.does (does_fn 0 rfl rfl rfl en107 h3 (fun U hU hp hr hs => M_signpostref01_Get_v_w (hs.v hv_b) hq_b hp hy5)) rfl rfl rfl ?_
    rintro _ w6 ⟨U9, hb10, rfl, h8⟩
    have h7 : Sat W w6 [blk b1 [(.int .u32 0), (.int .u16 0)] 64] := hb10 h8
    refine G.yl (yl_move rfl) rfl rfl rfl ?_
    refine G.yl (yl_extract rfl rfl) rfl rfl rfl ?_
    refine G.yl (yl_extract rfl rfl) rfl rfl rfl ?_
    refine G.yl (yl_assign rfl) rfl rfl rfl ?_
    refine G.yl (yl_assign rfl) rfl rfl rfl ?_
    refine G.nil ?_
    refine QA.then_normal ?_
    refine C.seq ?_
    refine C.region ?_
    refine G.yl (yl_move rfl) rfl rfl rfl ?_
    obtain ⟨⟨r1_3, r2_3⟩, hy11, hm⟩ := sp_bind hm
    refine G.does (does_fn 0 rfl rfl rfl en107 h7 (fun U hU hp hr hs => M_signpostref01_Get_v_w (hs.v hv_b) hq_b hp hy11)) rfl rfl rfl ?_
    rintro _ w12 ⟨U15, hb16, rfl, h14⟩
    have h13 : Sat W w12 [blk b1 [(.int .u32 0), (.int .u16 0)] 64] := hb16 h14
    refine G.yl (yl_move rfl) rfl rfl rfl ?_
    refine G.yl (yl_extract rfl rfl) rfl rfl rfl ?_
    refine G.yl (yl_extract rfl rfl) rfl rfl rfl ?_
    refine G.yl (yl_assign rfl) rfl rfl rfl ?_
    refine G.yl (yl_assign rfl) rfl rfl rfl ?_
    refine G.nil ?_
    refine QA.then_normal ?_
    refine C.seq ?_
    refine C.region ?_
    refine G.yl (yl_move rfl) rfl rfl rfl ?_
    refine G.yl (yl_64to32 us112 Try.underlying41 rfl) rfl rfl rfl ?_
    refine G.yl (yl_move rfl) rfl rfl rfl ?_
    refine G.yl (yl_64to16 us112 Try.underlying56 rfl) rfl rfl rfl ?_
    refine G.yl (yl_build (vs := [(v32 r1_2.toUInt32), (v16 r1_3.toUInt16)]) (cells := #[(v32 r1_2.toUInt32), (v16 r1_3.toUInt16)]) rfl (by kernel_rfl)) rfl rfl rfl ?_
    refine G.does (does_alloc (cs := [(.int .u32 0), (.int .u16 0)]) h13 z64 rfl) rfl rfl rfl ?_
    rintro _ w18 ⟨b17, rfl, h19⟩
    refine G.unit (does_store (vs := [(v32 r1_2.toUInt32), (v16 r1_3.toUInt16)]) h19 sz64 rfl rfl rfl rfl (List.forall_mem_cons.2 ⟨rfl, (List.forall_mem_cons.2 ⟨rfl, (fun _ hh => by cases hh)⟩)⟩) (Nat.le_of_ble_eq_true rfl)) rfl rfl ?_
    rintro _ w20 h22
    have h21 : Sat W w20 [blk b17 [(v32 r1_2.toUInt32), (v16 r1_3.toUInt16)] 64, blk b1 [(.int .u32 0), (.int .u16 0)] 64] := h22
    refine G.nil ?_
    refine QA.then_normal ?_
    refine C.seq ?_
    refine C.seq ?_
    refine C.region ?_
    refine G.yl (yl_loadN (vs := [(v32 r1_2.toUInt32), (v16 r1_3.toUInt16)]) ag64 sz64 (by simp [bytesV_length]) rfl ((View.drop h21.isBlk.view0 0).take 2)) rfl rfl rfl ?_
    obtain ⟨r1_4, hy23, hm⟩ := sp_bind hm
    refine G.does (does_fn 0 rfl rfl rfl en92 h21 (fun U hU hp hr hs => M_signpostref06_Good_w (a := (G_signpostref06_Addr.mk r1_2.toUInt32 r1_3.toUInt16)) hp hy23)) rfl rfl rfl ?_
    rintro _ w24 ⟨U27, hb28, rfl, h26⟩
    have h25 : Sat W w24 [blk b17 [(v32 r1_2.toUInt32), (v16 r1_3.toUInt16)] 64, blk b1 [(.int .u32 0), (.int .u16 0)] 64] := hb28 h26
    refine G.yl (yl_not rfl) rfl rfl rfl ?_
    refine G.nil ?_
    refine QA.then_normal ?_
    rcases sp_b hm with ⟨hc29, hm⟩ | ⟨hc29, hm⟩
    · refine C.cond_f rfl (not_f hc29) ?_
      refine C.skip ?_
      refine QA.then_normal ?_
      refine C.seq ?_
      refine C.region ?_
      refine G.yl (yl_loadN (vs := [(v32 r1_2.toUInt32), (v16 r1_3.toUInt16)]) ag64 sz64 (by simp [bytesV_length]) rfl ((View.drop h25.isBlk.view0 0).take 2)) rfl rfl rfl ?_
      refine G.unit (does_store (vs := [(v32 r1_2.toUInt32), (v16 r1_3.toUInt16)]) (Sat.pick [1, 0] h25) sz64 rfl rfl rfl rfl (List.forall_mem_cons.2 ⟨rfl, (List.forall_mem_cons.2 ⟨rfl, (fun _ hh => by cases hh)⟩)⟩) (Nat.le_of_ble_eq_true rfl)) rfl rfl ?_
      rintro _ w30 h32
      have h31 : Sat W w30 [blk b1 [(v32 r1_2.toUInt32), (v16 r1_3.toUInt16)] 64, blk b17 [(v32 r1_2.toUInt32), (v16 r1_3.toUInt16)] 64] := h32
      refine G.yl (yl_assign rfl) rfl rfl rfl ?_
      refine G.nil ?_
      refine QA.then_normal ?_
      refine C.ret ?_
      refine QA.ret_ct rfl (InCell.many (vs := [(v32 r1_2.toUInt32), (v16 r1_3.toUInt16)]) rfl ag64 sz64 (by simp [bytesV_length]) ((View.drop h31.isBlk.view0 0).take 2)) rfl ?_
      obtain ⟨rfl, rfl⟩ := sp_ret2 hm
      exact ⟨rfl, (Sat.pick [] h31)⟩
    · refine C.cond_t rfl (not_t hc29) ?_
      refine C.seq ?_
      refine C.region ?_
      refine G.yl (yl_build (vs := []) (cells := #[(.int .u32 0), (.int .u16 0)]) rfl (by kernel_rfl)) rfl rfl rfl ?_
      refine G.unit (does_store (vs := [(.int .u32 0), (.int .u16 0)]) (Sat.pick [1, 0] h25) sz64 rfl rfl rfl rfl (List.forall_mem_cons.2 ⟨rfl, (List.forall_mem_cons.2 ⟨rfl, (fun _ hh => by cases hh)⟩)⟩) (Nat.le_of_ble_eq_true rfl)) rfl rfl ?_
      rintro _ w33 h35
      have h34 : Sat W w33 [blk b1 [(.int .u32 0), (.int .u16 0)] 64, blk b17 [(v32 r1_2.toUInt32), (v16 r1_3.toUInt16)] 64] := h35
      refine G.yl (yl_assign rfl) rfl rfl rfl ?_
      refine G.nil ?_
      refine QA.then_normal ?_
      refine C.ret ?_
      refine QA.then_ret ?_
      refine QA.ret_ct rfl (InCell.many (vs := [(.int .u32 0), (.int .u16 0)]) rfl ag64 sz64 (by simp [bytesV_length]) ((View.drop h34.isBlk.view0 0).take 2)) rfl ?_
      obtain ⟨rfl, rfl⟩ := sp_ret2 hm
      exact ⟨rfl, (Sat.pick [] h34)⟩
  · refine C.cond_t rfl (not_t (dec_f hc4)) ?_
    refine C.seq ?_
    refine C.region ?_
    refine G.yl (yl_build (vs := []) (cells := #[(.int .u32 0), (.int .u16 0)]) rfl (by kernel_rfl)) rfl rfl rfl ?_
    refine G.unit (does_store (vs := [(.int .u32 0), (.int .u16 0)]) h3 sz64 rfl rfl rfl rfl (List.forall_mem_cons.2 ⟨rfl, (List.forall_mem_cons.2 ⟨rfl, (fun _ hh => by cases hh)⟩)⟩) (Nat.le_of_ble_eq_true rfl)) rfl rfl ?_
    rintro _ w36 h38
    have h37 : Sat W w36 [blk b1 [(.int .u32 0), (.int .u16 0)] 64] := h38
    refine G.yl (yl_assign rfl) rfl rfl rfl ?_
    refine G.nil ?_
    refine QA.then_normal ?_
    refine C.ret ?_
    refine QA.then_ret ?_
    refine QA.ret_ct rfl (InCell.many (vs := [(.int .u32 0), (.int .u16 0)]) rfl ag64 sz64 (by simp [bytesV_length]) ((View.drop h37.isBlk.view0 0).take 2)) rfl ?_
    obtain ⟨rfl, rfl⟩ := sp_ret2 hm
    exact ⟨rfl, (Sat.pick [] h37)⟩
set_option maxRecDepth 20000 in
theorem M_signpostref08_Read_v_w {W : Base} {w : World} {a : Option Addr} {c : Nat} {b : List UInt8} (hv_b : V W a (elU8.row b)) (hq_b : b.length ≤ c) (h : Sat W w []) {r1 : G_signpostref08_Contact} {r2 : Int} (hm : M_signpostref08_Read_v b = some (r1, r2)) :
    Calls Try.prog 33 #[(.slice a b.length c)] w (Ret fun v w' => v = (.tuple #[(.agg (bytesV (List.ofFn (n := 20) r1.ID) ++ ([(v32 r1.Addr.Host), (v16 r1.Addr.Port)] : List Value)).toArray), (vI r2)]) ∧ Sat W w' []) := by
  unfold M_signpostref08_Read_v at hm
  refine C.enter (N := 28) Try.func33 rfl Try.ntmps33 rfl ?_
  show C _ _ _ [(0, (.slice a b.length c))] _ _
  refine C.seq ?_
  refine C.region ?_
  refine G.does (does_alloc (cs := (bytesV (List.ofFn (n := 20) (fun _ => 0)) ++ ([(.int .u32 0), (.int .u16 0)] : List Value))) h z66 rfl) rfl rfl rfl ?_
  rintro _ w2 ⟨b1, rfl, h3⟩
  refine G.yl (yl_assign rfl) rfl rfl rfl ?_
  refine G.nil ?_
  refine QA.then_normal ?_
  refine C.seq ?_
  refine C.seq ?_
  refine C.region ?_
  refine G.yl (yl_move rfl) rfl rfl rfl ?_
  refine G.yl (yl_lenE Try.underlying22 rfl) rfl rfl rfl ?_
  refine G.yl (yl_neI rfl rfl) rfl rfl rfl ?_
  refine G.nil ?_
  refine QA.then_normal ?_
  rcases sp_ite hm with ⟨hc4, hm⟩ | ⟨hc4, hm⟩
  · refine C.cond_f rfl (not_f (dec_t hc4)) ?_
    refine C.skip ?_
    refine QA.then_normal ?_
    refine C.seq ?_
    refine C.region ?_
    refine G.does (does_alloc (cs := (bytesV (List.ofFn (n := 20) (fun _ => 0)) ++ ([(.int .u32 0), (.int .u16 0)] : List Value))) h3 z66 rfl) rfl rfl rfl ?_
    rintro _ w6 ⟨b5, rfl, h7⟩
    refine G.nil ?_
    refine QA.then_normal ?_
    refine C.seq ?_
    refine C.draw (V := fun w' => True) (nd := []) (sp := []) (n := 5) rfl h7 rfl rfl ?_
    intro w8 h9
    have hS10 : Cls (fun w' => True) [] [] #[false, false, false, false, false] w8 := Cls.keep (trivial) (by kernel_rfl)
    refine GH.yl (i := 0) (listed' := #[true, false, false, false, false]) rfl (by kernel_rfl) rfl (NP.next NP.body) rfl rfl rfl (fun w' => yl_fieldAddr fo66_0 rfl) hS10 (fun hS11 => ?_)
    refine GH.yl (i := 1) (listed' := #[true, true, false, false, false]) rfl (by kernel_rfl) rfl (NP.next NP.body) rfl rfl rfl (fun w' => yl_slice_arr (n := 20) (l := 0) (h := 20) (s := 1) (v := (.slice (some ⟨b5, 0, none⟩) 20 20)) Try.underlying63 (by kernel_rfl) (by kernel_rfl) rfl rfl rfl (by decide) (by decide) rfl) hS11 (fun hS12 => ?_)
    refine GH.yl (i := 2) (listed' := #[true, true, true, false, false]) rfl (by kernel_rfl) rfl (NP.next NP.body) rfl rfl rfl (fun w' => yl_move rfl) hS12 (fun hS13 => ?_)
    obtain ⟨hc14, hm⟩ := sp_chk hm
    refine GH.yl (i := 3) (listed' := #[true, true, true, true, false]) rfl (by kernel_rfl) rfl (NP.next NP.body) rfl rfl rfl (fun w' => yl_slH (E := elU8) (l := b) sl22 rfl rfl rfl hc14 hq_b) hS13 (fun hS15 => ?_)
    refine GH.does (i := 4) (listed' := #[true, true, true, true, true]) rfl (by kernel_rfl) rfl rfl rfl rfl (does_cpAH (l := b.take 20) h9 Try.underlying22 sz5 rfl rfl rfl (View.rtake (hv_b.at_ h9) 20) rfl) ?_
    rintro _ w16 ⟨rfl, h17⟩
    have hS18 : Cls (fun w' => True) [] [] #[true, true, true, true, true] w16 := Cls.keep (trivial) (by kernel_rfl)
    refine ⟨hS18, ?_⟩
    refine GH.done (by kernel_rfl) ?_
    refine QA.then_normal ?_
    refine C.seq ?_
    refine C.region ?_
    refine G.yl (yl_move rfl) rfl rfl rfl ?_
    obtain ⟨a19, ha20⟩ : ∃ p', Cut p' a c 20 1 := Cut.mk _ _ _ _
    obtain ⟨hc21, hm⟩ := sp_chk hm
    refine G.yl (yl_slL (E := elU8) (l := b) sl22 rfl rfl rfl hc21 ha20) rfl rfl rfl ?_
    obtain ⟨⟨r1_2, r2_2⟩, hy22, hm⟩ := sp_bind hm
    refine G.does (does_fn 0 rfl rfl rfl en72 h17 (fun U hU hp hr hs => M_signpostref06_Read_v_w (V.cut (hs.v hv_b) ha20 hq_b) (by have := hq_b; simp only [List.length_drop, List.length_take, List.length_append, List.length_set, List.length_cons, List.length_nil, List.length_ofFn, copyL_length] at *; omega) hp hy22)) rfl rfl rfl ?_
    rintro _ w23 ⟨U26, hb27, rfl, h25⟩
    have h24 : Sat W w23 [blk b5 (bytesV (List.ofFn (n := 20) (copyA (fun _ => 0) (b.take 20))) ++ ([(.int .u32 0), (.int .u16 0)] : List Value)) 66, blk b1 (bytesV (List.ofFn (n := 20) (fun _ => 0)) ++ ([(.int .u32 0), (.int .u16 0)] : List Value)) 66] := hb27 h25
    refine G.yl (yl_move rfl) rfl rfl rfl ?_
    refine G.yl (yl_extract rfl rfl) rfl rfl rfl ?_
    refine G.yl (yl_extract rfl rfl) rfl rfl rfl ?_
    refine G.does (does_alloc (cs := [(.int .u32 0), (.int .u16 0)]) h24 z64 rfl) rfl rfl rfl ?_
    rintro _ w29 ⟨b28, rfl, h30⟩
    refine G.unit (does_store (vs := [(v32 r1_2.Host), (v16 r1_2.Port)]) h30 sz64 rfl rfl rfl rfl (List.forall_mem_cons.2 ⟨rfl, (List.forall_mem_cons.2 ⟨rfl, (fun _ hh => by cases hh)⟩)⟩) (Nat.le_of_ble_eq_true rfl)) rfl rfl ?_
    rintro _ w31 h33
    have h32 : Sat W w31 [blk b28 [(v32 r1_2.Host), (v16 r1_2.Port)] 64, blk b5 (bytesV (List.ofFn (n := 20) (copyA (fun _ => 0) (b.take 20))) ++ ([(.int .u32 0), (.int .u16 0)] : List Value)) 66, blk b1 (bytesV (List.ofFn (n := 20) (fun _ => 0)) ++ ([(.int .u32 0), (.int .u16 0)] : List Value)) 66] := h33
    refine G.yl (yl_assign rfl) rfl rfl rfl ?_
    refine G.nil ?_
    refine QA.then_normal ?_
    refine C.seq ?_
    refine C.seq ?_
    refine C.region ?_
    refine G.yl (yl_move rfl) rfl rfl rfl ?_
    refine G.yl (yl_neI rfl rfl) rfl rfl rfl ?_
    refine G.nil ?_
    refine QA.then_normal ?_
    rcases sp_ite hm with ⟨hc34, hm⟩ | ⟨hc34, hm⟩
    · refine C.cond_f rfl (not_f (dec_t hc34)) ?_
      refine C.skip ?_
      refine QA.then_normal ?_
      refine C.seq ?_
      refine C.region ?_
      refine G.yl (yl_loadN (vs := [(v32 r1_2.Host), (v16 r1_2.Port)]) ag64 sz64 (by simp [bytesV_length]) rfl ((View.drop h32.isBlk.view0 0).take 2)) rfl rfl rfl ?_
      refine G.yl (yl_fieldAddr fo66_1 rfl) rfl rfl rfl ?_
      refine G.unit (does_store (vs := [(v32 r1_2.Host), (v16 r1_2.Port)]) (Sat.pick [1, 0, 0] h32) sz64 rfl rfl rfl (by simp [bytesV_length]) (List.forall_mem_cons.2 ⟨rfl, (List.forall_mem_cons.2 ⟨rfl, (fun _ hh => by cases hh)⟩)⟩) (by simp [bytesV_length])) rfl rfl ?_
      rintro _ w35 h37
      have h36 : Sat W w35 [blk b5 (bytesV (List.ofFn (n := 20) (copyA (fun _ => 0) (b.take 20))) ++ ([(v32 r1_2.Host), (v16 r1_2.Port)] : List Value)) 66, blk b28 [(v32 r1_2.Host), (v16 r1_2.Port)] 64, blk b1 (bytesV (List.ofFn (n := 20) (fun _ => 0)) ++ ([(.int .u32 0), (.int .u16 0)] : List Value)) 66] := sl_blk (by kernel_rfl) h37
      refine G.nil ?_
      refine QA.then_normal ?_
      refine C.seq ?_
      refine C.region ?_
      refine G.yl (yl_loadN (vs := (bytesV (List.ofFn (n := 20) (copyA (fun _ => 0) (b.take 20))) ++ ([(v32 r1_2.Host), (v16 r1_2.Port)] : List Value))) ag66 sz66 (by simp [bytesV_length]) rfl (h36.isBlk.view0)) rfl rfl rfl ?_
      refine G.unit (does_store (vs := (bytesV (List.ofFn (n := 20) (copyA (fun _ => 0) (b.take 20))) ++ ([(v32 r1_2.Host), (v16 r1_2.Port)] : List Value))) (Sat.pick [2, 0, 0] h36) sz66 rfl rfl rfl (by simp [bytesV_length]) (List.forall_mem_append.2 ⟨(bytesV_one _), (List.forall_mem_cons.2 ⟨rfl, (List.forall_mem_cons.2 ⟨rfl, (fun _ hh => by cases hh)⟩)⟩)⟩) (by simp [bytesV_length])) rfl rfl ?_
      rintro _ w38 h40
      have h39 : Sat W w38 [blk b1 (bytesV (List.ofFn (n := 20) (copyA (fun _ => 0) (b.take 20))) ++ ([(v32 r1_2.Host), (v16 r1_2.Port)] : List Value)) 66, blk b5 (bytesV (List.ofFn (n := 20) (copyA (fun _ => 0) (b.take 20))) ++ ([(v32 r1_2.Host), (v16 r1_2.Port)] : List Value)) 66, blk b28 [(v32 r1_2.Host), (v16 r1_2.Port)] 64] := sl_blk (setN_all _ _ (by simp [bytesV_length])) h40
      refine G.yl (yl_assign rfl) rfl rfl rfl ?_
      refine G.nil ?_
      refine QA.then_normal ?_
      refine C.ret ?_
      refine QA.ret_ct rfl (InCell.many (vs := (bytesV (List.ofFn (n := 20) (copyA (fun _ => 0) (b.take 20))) ++ ([(v32 r1_2.Host), (v16 r1_2.Port)] : List Value))) rfl ag66 sz66 (by simp [bytesV_length]) (h39.isBlk.view0)) rfl ?_
      obtain ⟨rfl, rfl⟩ := sp_ret2 hm
      exact ⟨rfl, (Sat.pick [] h39)⟩
    · refine C.cond_t rfl (not_t (dec_f hc34)) ?_
      refine C.seq ?_
      refine C.region ?_
      refine G.yl (yl_build (vs := []) (cells := (bytesV (List.ofFn (n := 20) (fun _ => 0)) ++ ([(.int .u32 0), (.int .u16 0)] : List Value)).toArray) rfl (by kernel_rfl)) rfl rfl rfl ?_
      refine G.unit (does_store (vs := (bytesV (List.ofFn (n := 20) (fun _ => 0)) ++ ([(.int .u32 0), (.int .u16 0)] : List Value))) (Sat.pick [2, 0, 0] h32) sz66 rfl rfl rfl (by simp [bytesV_length]) (List.forall_mem_append.2 ⟨(bytesV_one _), (List.forall_mem_cons.2 ⟨rfl, (List.forall_mem_cons.2 ⟨rfl, (fun _ hh => by cases hh)⟩)⟩)⟩) (by simp [bytesV_length])) rfl rfl ?_
      rintro _ w41 h43
      have h42 : Sat W w41 [blk b1 (bytesV (List.ofFn (n := 20) (fun _ => 0)) ++ ([(.int .u32 0), (.int .u16 0)] : List Value)) 66, blk b28 [(v32 r1_2.Host), (v16 r1_2.Port)] 64, blk b5 (bytesV (List.ofFn (n := 20) (copyA (fun _ => 0) (b.take 20))) ++ ([(.int .u32 0), (.int .u16 0)] : List Value)) 66] := sl_blk (setN_all _ _ (by simp [bytesV_length])) h43
      refine G.yl (yl_assign rfl) rfl rfl rfl ?_
      refine G.nil ?_
      refine QA.then_normal ?_
      refine C.ret ?_
      refine QA.then_ret ?_
      refine QA.ret_ct rfl (InCell.many (vs := (bytesV (List.ofFn (n := 20) (fun _ => 0)) ++ ([(.int .u32 0), (.int .u16 0)] : List Value))) rfl ag66 sz66 (by simp [bytesV_length]) (h42.isBlk.view0)) rfl ?_
      obtain ⟨rfl, rfl⟩ := sp_ret2 hm
      exact ⟨rfl, (Sat.pick [] h42)⟩
  · refine C.cond_t rfl (not_t (dec_f hc4)) ?_
    refine C.seq ?_
    refine C.region ?_
    refine G.yl (yl_build (vs := []) (cells := (bytesV (List.ofFn (n := 20) (fun _ => 0)) ++ ([(.int .u32 0), (.int .u16 0)] : List Value)).toArray) rfl (by kernel_rfl)) rfl rfl rfl ?_
    refine G.unit (does_store (vs := (bytesV (List.ofFn (n := 20) (fun _ => 0)) ++ ([(.int .u32 0), (.int .u16 0)] : List Value))) h3 sz66 rfl rfl rfl (by simp [bytesV_length]) (List.forall_mem_append.2 ⟨(bytesV_one _), (List.forall_mem_cons.2 ⟨rfl, (List.forall_mem_cons.2 ⟨rfl, (fun _ hh => by cases hh)⟩)⟩)⟩) (by simp [bytesV_length])) rfl rfl ?_
    rintro _ w44 h46
    have h45 : Sat W w44 [blk b1 (bytesV (List.ofFn (n := 20) (fun _ => 0)) ++ ([(.int .u32 0), (.int .u16 0)] : List Value)) 66] := sl_blk (setN_all _ _ (by simp [bytesV_length])) h46
    refine G.yl (yl_assign rfl) rfl rfl rfl ?_
    refine G.nil ?_
    refine QA.then_normal ?_
    refine C.ret ?_
    refine QA.then_ret ?_
    refine QA.ret_ct rfl (InCell.many (vs := (bytesV (List.ofFn (n := 20) (fun _ => 0)) ++ ([(.int .u32 0), (.int .u16 0)] : List Value))) rfl ag66 sz66 (by simp [bytesV_length]) (h45.isBlk.view0)) rfl ?_
    obtain ⟨rfl, rfl⟩ := sp_ret2 hm
    exact ⟨rfl, (Sat.pick [] h45)⟩
set_option maxRecDepth 20000 in
theorem M_octet_Reader_Take_po_w {W : Base} {w : World} {b : Nat} {a : Option Addr} {c : Nat} {b2 : List UInt8} {open_ : Bool} {bad : Bool} {n : Int}  (h : Sat W w [blk b [(.slice a b2.length c), (.bool open_), (.bool bad)] 122, ow elU8 a c 5 b2]) {r3 : List UInt8} {r6 : List UInt8} {r7 : Bool} (hm : M_octet_Reader_Take_po b2 open_ bad n = some (r3, r6, r7)) :
    Calls Try.prog 35 #[(.pointer (some ⟨b, 0, none⟩)), (vI n)] w (Ret fun v w' => ∃ r1 : Option Addr, ∃ r2 : Nat, ∃ r4 : Option Addr, ∃ r5 : Nat, v = (.slice r1 r3.length r2) ∧ Sat W w' [ow elU8 r1 r2 5 r3, blk b [(.slice r4 r6.length r5), (.bool open_), (.bool r7)] 122, ow elU8 r4 r5 5 r6]) := by
  unfold M_octet_Reader_Take_po at hm
  refine C.enter (N := 22) Try.func35 rfl Try.ntmps35 rfl ?_
  show C _ _ _ [(0, (.pointer (some ⟨b, 0, none⟩))), (1, (vI n))] _ _
  refine C.seq ?_
  refine C.region ?_
  refine G.yl (yl_assign rfl) rfl rfl rfl ?_
  refine G.nil ?_
  refine QA.then_normal ?_
  refine C.seq ?_
  refine C.seq ?_
  refine C.region ?_
  refine G.yl (yl_move rfl) rfl rfl rfl ?_
  obtain ⟨_, hy1, hm⟩ := sp_bind hm
  refine G.does (does_fn 2 rfl rfl rfl en73 (Sat.pick [0, 0] h) (fun U hU hp hr hs => M_octet_Reader_none_po_w hp hy1)) rfl rfl rfl ?_
  rintro _ w2 ⟨U5, hb6, rfl, h4⟩
  have h3 : Sat W w2 [blk b [(.slice a b2.length c), (.bool open_), (.bool bad)] 122, ow elU8 a c 5 b2] := hb6 h4
  refine G.nil ?_
  refine QA.then_normal ?_
  rcases sp_b hm with ⟨hc7, hm⟩ | ⟨hc7, hm⟩
  · refine C.cond_f rfl (not_f hc7) ?_
    refine C.skip ?_
    refine QA.then_normal ?_
    refine C.seq ?_
    refine C.region ?_
    refine G.yl (yl_move rfl) rfl rfl rfl ?_
    refine G.yl (yl_nilCheck rfl) rfl rfl rfl ?_
    refine G.yl (yl_fieldAddr fo122_0 rfl) rfl rfl rfl ?_
    refine G.yl (yl_move rfl) rfl rfl rfl ?_
    obtain ⟨y_, hy8, hm⟩ := sp_bind hm
    rcases y_ with _ | _
    · refine G.does (does_fn 2 rfl rfl rfl en74 (Sat.pick [0, 0] h3) (fun U hU hp hr hs => M_octet_rest_cut_po_w hp hy8)) rfl rfl rfl ?_
      rintro _ w9 ⟨U12, hb13, rfl, h11⟩
      have h10 : Sat W w9 [blk b [(.slice none 0 0), (.bool open_), (.bool true)] 122] := hb13 h11
      refine G.yl (yl_move rfl) rfl rfl rfl ?_
      refine G.yl (yl_extract rfl rfl) rfl rfl rfl ?_
      refine G.yl (yl_extract rfl rfl) rfl rfl rfl ?_
      refine G.yl (yl_assign rfl) rfl rfl rfl ?_
      refine G.yl (yl_assign rfl) rfl rfl rfl ?_
      refine G.nil ?_
      refine QA.then_normal ?_
      refine C.seq ?_
      refine C.seq ?_
      refine C.region ?_
      refine G.yl (yl_move rfl) rfl rfl rfl ?_
      refine G.yl (yl_not rfl) rfl rfl rfl ?_
      refine G.nil ?_
      refine QA.then_normal ?_
      refine C.cond_t rfl (not_t rfl) ?_
      refine C.seq ?_
      refine C.region ?_
      refine G.yl (yl_assign rfl) rfl rfl rfl ?_
      refine G.nil ?_
      refine QA.then_normal ?_
      refine C.ret ?_
      refine QA.then_ret ?_
      refine QA.ret1 rfl rfl ?_
      obtain ⟨rfl, rfl, rfl⟩ := sp_ret3 hm
      exact ⟨none, 0, none, 0, rfl, (Sat.pick [0, 1, 0] (Sat.own_zero (Sat.own_zero h10 elU8 none 5) elU8 none 5))⟩
    · refine G.does (does_fn 2 rfl rfl rfl en74 (Sat.pick [0, 0] h3) (fun U hU hp hr hs => M_octet_rest_cut_po_w hp hy8)) rfl rfl rfl ?_
      rintro _ w16 ⟨U19, hb20, r114, rfl, hf15, h18⟩
      have h17 : Sat W w16 [ow elU8 a c 5 b2, blk b [(.slice r114 ((b2.drop n.toNat).length) (c - n.toNat)), (.bool open_), (.bool bad)] 122] := hb20 h18
      refine G.yl (yl_move rfl) rfl rfl rfl ?_
      refine G.yl (yl_extract rfl rfl) rfl rfl rfl ?_
      refine G.yl (yl_extract rfl rfl) rfl rfl rfl ?_
      refine G.yl (yl_assign rfl) rfl rfl rfl ?_
      refine G.yl (yl_assign rfl) rfl rfl rfl ?_
      refine G.nil ?_
      refine QA.then_normal ?_
      refine C.seq ?_
      refine C.seq ?_
      refine C.region ?_
      refine G.yl (yl_move rfl) rfl rfl rfl ?_
      refine G.yl (yl_not rfl) rfl rfl rfl ?_
      refine G.nil ?_
      refine QA.then_normal ?_
      refine C.cond_f rfl (not_f rfl) ?_
      refine C.skip ?_
      refine QA.then_normal ?_
      refine C.seq ?_
      refine C.region ?_
      refine G.does (does_lit (E := elU8) (l := ([] : List UInt8)) (vs := []) (cs := []) (e := 5) h17 rfl (by kernel_rfl) rfl rfl (by decide)) rfl rfl rfl ?_
      rintro _ w22 ⟨a21, rfl, h23⟩
      refine G.yl (yl_move rfl) rfl rfl rfl ?_
      obtain ⟨hc24, hm⟩ := sp_chk hm
      refine G.does (does_app (E := elU8) (l := ([] : List UInt8)) (l2 := b2.take n.toNat) Try.underlying22 el5 (Sat.own_zero h23 elU8 a21 5) rfl rfl rfl rfl (by decide) (View.rtake (Sat.own_view (Sat.pick [1] h23)) n.toNat) hc24 (by decide)) rfl rfl rfl ?_
      rintro _ w27 ⟨a25, c26, rfl, h28⟩
      refine G.yl (yl_assign rfl) rfl rfl rfl ?_
      refine G.nil ?_
      refine QA.then_normal ?_
      refine C.ret ?_
      refine QA.ret1 rfl rfl ?_
      have h29 : Sat W w27 [ow elU8 r114 (c - n.toNat) 5 (b2.drop n.toNat), ow elU8 a25 c26 5 (([] : List UInt8) ++ (b2.take n.toNat)), ow elU8 a21 0 5 ([] : List UInt8), blk b [(.slice r114 ((b2.drop n.toNat).length) (c - n.toNat)), (.bool open_), (.bool bad)] 122] := Sat.own_cut (Sat.pick [2, 0, 0, 0] h28) hf15
      obtain ⟨rfl, rfl, rfl⟩ := sp_ret3 hm
      exact ⟨a25, c26, r114, c - n.toNat, rfl, (Sat.pick [1, 2, 0] h29)⟩
  · refine C.cond_t rfl (not_t hc7) ?_
    refine C.seq ?_
    refine C.region ?_
    refine G.yl (yl_assign rfl) rfl rfl rfl ?_
    refine G.nil ?_
    refine QA.then_normal ?_
    refine C.ret ?_
    refine QA.then_ret ?_
    refine QA.ret1 rfl rfl ?_
    obtain ⟨rfl, rfl, rfl⟩ := sp_ret3 hm
    exact ⟨none, 0, a, c, rfl, (Sat.pick [0, 0, 0] (Sat.own_zero h3 elU8 none 5))⟩
set_option maxRecDepth 20000 in
theorem M_signpostref01_Reader_fail_pv_w {W : Base} {w : World} {b : Nat} {a : Option Addr} {c : Nat} {B : List UInt8} {At : Int} {Bad : Bool} (hv27 : V W a (elU8.row B)) (hq28 : B.length ≤ c) (h : Sat W w [blk b [(.slice a B.length c), (vI At), (.bool Bad)] 73])  (hm : M_signpostref01_Reader_fail_pv B At Bad = some ()) :
    Calls Try.prog 75 #[(.pointer (some ⟨b, 0, none⟩))] w (Ret fun v w' => v = (.tuple #[]) ∧ Sat W w' [blk b [(.slice a B.length c), (vI (B.length : Int)), (.bool true)] 73]) := by
  unfold M_signpostref01_Reader_fail_pv at hm
  refine C.enter (N := 13) Try.func75 rfl Try.ntmps75 rfl ?_
  show C _ _ _ [(0, (.pointer (some ⟨b, 0, none⟩)))] _ _
  refine C.seq ?_
  refine C.region ?_
  refine G.yl (yl_move rfl) rfl rfl rfl ?_
  refine G.yl (yl_nilCheck rfl) rfl rfl rfl ?_
  refine G.yl (yl_fieldAddr fo73_2 rfl) rfl rfl rfl ?_
  refine G.unit (does_store (vs := [(.bool true)]) h sz4 rfl rfl rfl rfl (List.forall_mem_cons.2 ⟨rfl, (fun _ hh => by cases hh)⟩) (Nat.le_of_ble_eq_true rfl)) rfl rfl ?_
  rintro _ w1 h3
  have h2 : Sat W w1 [blk b [(.slice a B.length c), (vI At), (.bool true)] 73] := h3
  refine G.nil ?_
  refine QA.then_normal ?_
  refine C.region ?_
  refine G.yl (yl_move rfl) rfl rfl rfl ?_
  refine G.yl (yl_move rfl) rfl rfl rfl ?_
  refine G.yl (yl_nilCheck rfl) rfl rfl rfl ?_
  refine G.yl (yl_fieldAddr fo73_0 rfl) rfl rfl rfl ?_
  refine G.yl (yl_load (v := (.slice a B.length c)) ag22 rfl (View.at0 (j := 0) h2.isBlk.view0 rfl)) rfl rfl rfl ?_
  refine G.yl (yl_lenE Try.underlying22 rfl) rfl rfl rfl ?_
  refine G.yl (yl_nilCheck rfl) rfl rfl rfl ?_
  refine G.yl (yl_fieldAddr fo73_1 rfl) rfl rfl rfl ?_
  refine G.unit (does_store (vs := [(vI (B.length : Int))]) h2 sz3 rfl rfl rfl rfl (List.forall_mem_cons.2 ⟨rfl, (fun _ hh => by cases hh)⟩) (Nat.le_of_ble_eq_true rfl)) rfl rfl ?_
  rintro _ w4 h6
  have h5 : Sat W w4 [blk b [(.slice a B.length c), (vI (B.length : Int)), (.bool true)] 73] := h6
  refine G.nil ?_
  refine QA.end0 rfl ?_
  exact ⟨rfl, (Sat.pick [0] h5)⟩
set_option maxRecDepth 20000 in
theorem M_signpostref01_Reader_Take_pv_w {W : Base} {w : World} {b : Nat} {a : Option Addr} {c : Nat} {B : List UInt8} {At : Int} {Bad : Bool} {n : Int} (hv54 : V W a (elU8.row B)) (hq55 : B.length ≤ c) (h : Sat W w [blk b [(.slice a B.length c), (vI At), (.bool Bad)] 73]) {r3 : List UInt8} {r4 : Int} {r5 : Bool} (hm : M_signpostref01_Reader_Take_pv B At Bad n = some (r3, r4, r5)) :
    Calls Try.prog 36 #[(.pointer (some ⟨b, 0, none⟩)), (vI n)] w (Ret fun v w' => ∃ r1 : Option Addr, ∃ r2 : Nat, v = (.slice r1 r3.length r2) ∧ Sat W w' [ow elU8 r1 r2 5 r3, blk b [(.slice a B.length c), (vI r4), (.bool r5)] 73]) := by
  unfold M_signpostref01_Reader_Take_pv at hm
  refine C.enter (N := 55) Try.func36 rfl Try.ntmps36 rfl ?_
  show C _ _ _ [(0, (.pointer (some ⟨b, 0, none⟩))), (1, (vI n))] _ _
  refine C.seq ?_
  refine C.region ?_
  refine G.yl (yl_assign rfl) rfl rfl rfl ?_
  refine G.nil ?_
  refine QA.then_normal ?_
  refine C.seq ?_
  refine C.join (γ := Bool) (fun g => match g with | t26 => [(0, (.pointer (some ⟨b, 0, none⟩))), (1, (vI n)), (4, (.slice none 0 0)), (26, (.bool t26))]) (fun g ww => match g with | t26 => (M_signpostref01_Reader_Take_pv_k1 At B Bad n t26 = some (r3, r4, r5)) ∧ Sat W ww [blk b [(.slice a B.length c), (vI At), (.bool Bad)] 73]) ?_ ?_
  · refine C.draw (V := fun w' => View w' (some ⟨b, 0, none⟩) [(.slice a B.length c), (vI At), (.bool Bad)]) (nd := [3, 5, 6, 9, 10, 11, 12, 13, 14, 15, 16, 17, 18, 19, 20]) (sp := []) (n := 22) rfl h rfl rfl ?_
    intro w1 h2
    have hS3 : Cls (fun w' => View w' (some ⟨b, 0, none⟩) [(.slice a B.length c), (vI At), (.bool Bad)]) [3, 5, 6, 9, 10, 11, 12, 13, 14, 15, 16, 17, 18, 19, 20] [] #[false, false, false, false, false, false, false, false, false, false, false, false, false, false, false, false, false, false, false, false, false, false] w1 := Cls.keep (h2.isBlk.view0) (by kernel_rfl)
    refine GH.yl (i := 0) (listed' := #[true, false, false, false, false, false, false, false, false, false, false, false, false, false, false, false, false, false, false, false, false, false]) rfl (by kernel_rfl) rfl (NP.next (NP.next NP.body)) rfl rfl rfl (fun w' => yl_move rfl) hS3 (fun hS4 => ?_)
    refine GH.yl (i := 1) (listed' := #[true, true, false, false, false, false, false, false, false, false, false, false, false, false, false, false, false, false, false, false, false, false]) rfl (by kernel_rfl) rfl (NP.next (NP.next NP.body)) rfl rfl rfl (fun w' => yl_nilCheck rfl) hS4 (fun hS5 => ?_)
    refine GH.yl (i := 2) (listed' := #[true, true, true, false, false, false, false, false, false, false, false, false, false, false, false, false, false, false, false, false, false, false]) rfl (by kernel_rfl) rfl (NP.next (NP.next NP.body)) rfl rfl rfl (fun w' => yl_fieldAddr fo73_2 rfl) hS5 (fun hS6 => ?_)
    refine GH.yr (i := 3) (listed' := #[true, true, true, true, false, false, false, false, false, false, false, false, false, false, false, false, false, false, false, false, false, false]) rfl (by kernel_rfl) rfl rfl (NP.next (NP.next NP.body)) rfl rfl rfl (fun w' hw' => yl_load (v := (.bool Bad)) ag4 rfl (View.at0 (j := 2) hw' rfl)) hS6 (fun hS7 => ?_)
    refine GH.yl (i := 4) (listed' := #[true, true, true, true, true, false, false, false, false, false, false, false, false, false, false, false, false, false, false, false, false, false]) rfl (by kernel_rfl) rfl (NP.next (NP.next NP.body)) rfl rfl rfl (fun w' => yl_move rfl) hS7 (fun hS8 => ?_)
    rcases sp_b hm with ⟨hc9, hm⟩ | ⟨hc9, hm⟩
    · refine GH.off (i := 5) (listed' := #[true, true, true, true, true, true, false, false, false, false, false, false, false, false, false, false, false, false, false, false, false, false]) rfl (by kernel_rfl) rfl (NP.next (NP.next NP.body)) rfl rfl rfl rfl hc9 hS8 (fun hS10 => ?_)
      refine GH.off (i := 6) (listed' := #[true, true, true, true, true, true, true, false, false, false, false, false, false, false, false, false, false, false, false, false, false, false]) rfl (by kernel_rfl) rfl (NP.next (NP.next NP.body)) rfl rfl rfl rfl hc9 hS10 (fun hS11 => ?_)
      refine GH.yl (i := 7) (listed' := #[true, true, true, true, true, true, true, true, false, false, false, false, false, false, false, false, false, false, false, false, false, false]) rfl (by kernel_rfl) rfl (NP.next (NP.next NP.body)) rfl rfl rfl (fun w' => yl_pick_t rfl hc9 rfl) hS11 (fun hS12 => ?_)
      refine GH.yl (i := 8) (listed' := #[true, true, true, true, true, true, true, true, true, false, false, false, false, false, false, false, false, false, false, false, false, false]) rfl (by kernel_rfl) rfl (NP.next (NP.next NP.body)) rfl rfl rfl (fun w' => yl_move rfl) hS12 (fun hS13 => ?_)
      refine GH.off (i := 9) (listed' := #[true, true, true, true, true, true, true, true, true, true, false, false, false, false, false, false, false, false, false, false, false, false]) rfl (by kernel_rfl) rfl (NP.next (NP.next NP.body)) rfl rfl rfl rfl rfl hS13 (fun hS14 => ?_)
      refine GH.off (i := 10) (listed' := #[true, true, true, true, true, true, true, true, true, true, true, false, false, false, false, false, false, false, false, false, false, false]) rfl (by kernel_rfl) rfl (NP.next (NP.next NP.body)) rfl rfl rfl rfl rfl hS14 (fun hS15 => ?_)
      refine GH.off (i := 11) (listed' := #[true, true, true, true, true, true, true, true, true, true, true, true, false, false, false, false, false, false, false, false, false, false]) rfl (by kernel_rfl) rfl (NP.next (NP.next NP.body)) rfl rfl rfl rfl rfl hS15 (fun hS16 => ?_)
      refine GH.off (i := 12) (listed' := #[true, true, true, true, true, true, true, true, true, true, true, true, true, false, false, false, false, false, false, false, false, false]) rfl (by kernel_rfl) rfl (NP.next (NP.next NP.body)) rfl rfl rfl rfl rfl hS16 (fun hS17 => ?_)
      refine GH.off (i := 13) (listed' := #[true, true, true, true, true, true, true, true, true, true, true, true, true, true, false, false, false, false, false, false, false, false]) rfl (by kernel_rfl) rfl (NP.next (NP.next NP.body)) rfl rfl rfl rfl rfl hS17 (fun hS18 => ?_)
      refine GH.off (i := 14) (listed' := #[true, true, true, true, true, true, true, true, true, true, true, true, true, true, true, false, false, false, false, false, false, false]) rfl (by kernel_rfl) rfl (NP.next (NP.next NP.body)) rfl rfl rfl rfl rfl hS18 (fun hS19 => ?_)
      refine GH.off (i := 15) (listed' := #[true, true, true, true, true, true, true, true, true, true, true, true, true, true, true, true, false, false, false, false, false, false]) rfl (by kernel_rfl) rfl (NP.next (NP.next NP.body)) rfl rfl rfl rfl rfl hS19 (fun hS20 => ?_)
      refine GH.off (i := 16) (listed' := #[true, true, true, true, true, true, true, true, true, true, true, true, true, true, true, true, true, false, false, false, false, false]) rfl (by kernel_rfl) rfl (NP.next (NP.next NP.body)) rfl rfl rfl rfl rfl hS20 (fun hS21 => ?_)
      refine GH.off (i := 17) (listed' := #[true, true, true, true, true, true, true, true, true, true, true, true, true, true, true, true, true, true, false, false, false, false]) rfl (by kernel_rfl) rfl (NP.next (NP.next NP.body)) rfl rfl rfl rfl rfl hS21 (fun hS22 => ?_)
      refine GH.off (i := 18) (listed' := #[true, true, true, true, true, true, true, true, true, true, true, true, true, true, true, true, true, true, true, false, false, false]) rfl (by kernel_rfl) rfl (NP.next (NP.next NP.body)) rfl rfl rfl rfl rfl hS22 (fun hS23 => ?_)
      refine GH.off (i := 19) (listed' := #[true, true, true, true, true, true, true, true, true, true, true, true, true, true, true, true, true, true, true, true, false, false]) rfl (by kernel_rfl) rfl (NP.next (NP.next NP.body)) rfl rfl rfl rfl rfl hS23 (fun hS24 => ?_)
      refine GH.off (i := 20) (listed' := #[true, true, true, true, true, true, true, true, true, true, true, true, true, true, true, true, true, true, true, true, true, false]) rfl (by kernel_rfl) rfl (NP.next (NP.next NP.body)) rfl rfl rfl rfl rfl hS24 (fun hS25 => ?_)
      refine GH.yl (i := 21) (listed' := #[true, true, true, true, true, true, true, true, true, true, true, true, true, true, true, true, true, true, true, true, true, true]) rfl (by kernel_rfl) rfl (NP.next (NP.next NP.body)) rfl rfl rfl (fun w' => yl_pick_t rfl rfl rfl) hS25 (fun hS26 => ?_)
      refine GH.done (by kernel_rfl) ?_
      exact QA.join true (Sub.of ⟨rfl, rfl, rfl, rfl, trivial⟩) ⟨hm, (Sat.pick [0] h2)⟩
    · refine GH.on (i := 5) (listed' := #[true, true, true, true, true, true, false, false, false, false, false, false, false, false, false, false, false, false, false, false, false, false]) rfl (by kernel_rfl) rfl rfl (NP.next (NP.next NP.body)) rfl rfl rfl rfl hc9 (fun w' hw' => yl_move rfl) hS8 (fun hS27 => ?_)
      refine GH.on (i := 6) (listed' := #[true, true, true, true, true, true, true, false, false, false, false, false, false, false, false, false, false, false, false, false, false, false]) rfl (by kernel_rfl) rfl rfl (NP.next (NP.next NP.body)) rfl rfl rfl rfl hc9 (fun w' hw' => yl_ltI rfl rfl) hS27 (fun hS28 => ?_)
      refine GH.yl (i := 7) (listed' := #[true, true, true, true, true, true, true, true, false, false, false, false, false, false, false, false, false, false, false, false, false, false]) rfl (by kernel_rfl) rfl (NP.next (NP.next NP.body)) rfl rfl rfl (fun w' => yl_pick_f rfl hc9 rfl) hS28 (fun hS29 => ?_)
      refine GH.yl (i := 8) (listed' := #[true, true, true, true, true, true, true, true, true, false, false, false, false, false, false, false, false, false, false, false, false, false]) rfl (by kernel_rfl) rfl (NP.next (NP.next NP.body)) rfl rfl rfl (fun w' => yl_move rfl) hS29 (fun hS30 => ?_)
      rcases sp_ite hm with ⟨hc31, hm⟩ | ⟨hc31, hm⟩
      · refine GH.off (i := 9) (listed' := #[true, true, true, true, true, true, true, true, true, true, false, false, false, false, false, false, false, false, false, false, false, false]) rfl (by kernel_rfl) rfl (NP.next (NP.next NP.body)) rfl rfl rfl rfl (dec_t hc31) hS30 (fun hS32 => ?_)
        refine GH.off (i := 10) (listed' := #[true, true, true, true, true, true, true, true, true, true, true, false, false, false, false, false, false, false, false, false, false, false]) rfl (by kernel_rfl) rfl (NP.next (NP.next NP.body)) rfl rfl rfl rfl (dec_t hc31) hS32 (fun hS33 => ?_)
        refine GH.off (i := 11) (listed' := #[true, true, true, true, true, true, true, true, true, true, true, true, false, false, false, false, false, false, false, false, false, false]) rfl (by kernel_rfl) rfl (NP.next (NP.next NP.body)) rfl rfl rfl rfl (dec_t hc31) hS33 (fun hS34 => ?_)
        refine GH.off (i := 12) (listed' := #[true, true, true, true, true, true, true, true, true, true, true, true, true, false, false, false, false, false, false, false, false, false]) rfl (by kernel_rfl) rfl (NP.next (NP.next NP.body)) rfl rfl rfl rfl (dec_t hc31) hS34 (fun hS35 => ?_)
        refine GH.off (i := 13) (listed' := #[true, true, true, true, true, true, true, true, true, true, true, true, true, true, false, false, false, false, false, false, false, false]) rfl (by kernel_rfl) rfl (NP.next (NP.next NP.body)) rfl rfl rfl rfl (dec_t hc31) hS35 (fun hS36 => ?_)
        refine GH.off (i := 14) (listed' := #[true, true, true, true, true, true, true, true, true, true, true, true, true, true, true, false, false, false, false, false, false, false]) rfl (by kernel_rfl) rfl (NP.next (NP.next NP.body)) rfl rfl rfl rfl (dec_t hc31) hS36 (fun hS37 => ?_)
        refine GH.off (i := 15) (listed' := #[true, true, true, true, true, true, true, true, true, true, true, true, true, true, true, true, false, false, false, false, false, false]) rfl (by kernel_rfl) rfl (NP.next (NP.next NP.body)) rfl rfl rfl rfl (dec_t hc31) hS37 (fun hS38 => ?_)
        refine GH.off (i := 16) (listed' := #[true, true, true, true, true, true, true, true, true, true, true, true, true, true, true, true, true, false, false, false, false, false]) rfl (by kernel_rfl) rfl (NP.next (NP.next NP.body)) rfl rfl rfl rfl (dec_t hc31) hS38 (fun hS39 => ?_)
        refine GH.off (i := 17) (listed' := #[true, true, true, true, true, true, true, true, true, true, true, true, true, true, true, true, true, true, false, false, false, false]) rfl (by kernel_rfl) rfl (NP.next (NP.next NP.body)) rfl rfl rfl rfl (dec_t hc31) hS39 (fun hS40 => ?_)
        refine GH.off (i := 18) (listed' := #[true, true, true, true, true, true, true, true, true, true, true, true, true, true, true, true, true, true, true, false, false, false]) rfl (by kernel_rfl) rfl (NP.next (NP.next NP.body)) rfl rfl rfl rfl (dec_t hc31) hS40 (fun hS41 => ?_)
        refine GH.off (i := 19) (listed' := #[true, true, true, true, true, true, true, true, true, true, true, true, true, true, true, true, true, true, true, true, false, false]) rfl (by kernel_rfl) rfl (NP.next (NP.next NP.body)) rfl rfl rfl rfl (dec_t hc31) hS41 (fun hS42 => ?_)
        refine GH.off (i := 20) (listed' := #[true, true, true, true, true, true, true, true, true, true, true, true, true, true, true, true, true, true, true, true, true, false]) rfl (by kernel_rfl) rfl (NP.next (NP.next NP.body)) rfl rfl rfl rfl (dec_t hc31) hS42 (fun hS43 => ?_)
        refine GH.yl (i := 21) (listed' := #[true, true, true, true, true, true, true, true, true, true, true, true, true, true, true, true, true, true, true, true, true, true]) rfl (by kernel_rfl) rfl (NP.next (NP.next NP.body)) rfl rfl rfl (fun w' => yl_pick_t rfl (dec_t hc31) rfl) hS43 (fun hS44 => ?_)
        refine GH.done (by kernel_rfl) ?_
        exact QA.join true (Sub.of ⟨rfl, rfl, rfl, rfl, trivial⟩) ⟨hm, (Sat.pick [0] h2)⟩
      · refine GH.on (i := 9) (listed' := #[true, true, true, true, true, true, true, true, true, true, false, false, false, false, false, false, false, false, false, false, false, false]) rfl (by kernel_rfl) rfl rfl (NP.next (NP.next NP.body)) rfl rfl rfl rfl (dec_f hc31) (fun w' hw' => yl_move rfl) hS30 (fun hS45 => ?_)
        refine GH.on (i := 10) (listed' := #[true, true, true, true, true, true, true, true, true, true, true, false, false, false, false, false, false, false, false, false, false, false]) rfl (by kernel_rfl) rfl rfl (NP.next (NP.next NP.body)) rfl rfl rfl rfl (dec_f hc31) (fun w' hw' => yl_move rfl) hS45 (fun hS46 => ?_)
        refine GH.on (i := 11) (listed' := #[true, true, true, true, true, true, true, true, true, true, true, true, false, false, false, false, false, false, false, false, false, false]) rfl (by kernel_rfl) rfl rfl (NP.next (NP.next NP.body)) rfl rfl rfl rfl (dec_f hc31) (fun w' hw' => yl_nilCheck rfl) hS46 (fun hS47 => ?_)
        refine GH.on (i := 12) (listed' := #[true, true, true, true, true, true, true, true, true, true, true, true, true, false, false, false, false, false, false, false, false, false]) rfl (by kernel_rfl) rfl rfl (NP.next (NP.next NP.body)) rfl rfl rfl rfl (dec_f hc31) (fun w' hw' => yl_fieldAddr fo73_0 rfl) hS47 (fun hS48 => ?_)
        refine GH.on (i := 13) (listed' := #[true, true, true, true, true, true, true, true, true, true, true, true, true, true, false, false, false, false, false, false, false, false]) rfl (by kernel_rfl) rfl rfl (NP.next (NP.next NP.body)) rfl rfl rfl rfl (dec_f hc31) (fun w' hw' => yl_load (v := (.slice a B.length c)) ag22 rfl (View.at0 (j := 0) hw' rfl)) hS48 (fun hS49 => ?_)
        refine GH.on (i := 14) (listed' := #[true, true, true, true, true, true, true, true, true, true, true, true, true, true, true, false, false, false, false, false, false, false]) rfl (by kernel_rfl) rfl rfl (NP.next (NP.next NP.body)) rfl rfl rfl rfl (dec_f hc31) (fun w' hw' => yl_lenE Try.underlying22 rfl) hS49 (fun hS50 => ?_)
        refine GH.on (i := 15) (listed' := #[true, true, true, true, true, true, true, true, true, true, true, true, true, true, true, true, false, false, false, false, false, false]) rfl (by kernel_rfl) rfl rfl (NP.next (NP.next NP.body)) rfl rfl rfl rfl (dec_f hc31) (fun w' hw' => yl_move rfl) hS50 (fun hS51 => ?_)
        refine GH.on (i := 16) (listed' := #[true, true, true, true, true, true, true, true, true, true, true, true, true, true, true, true, true, false, false, false, false, false]) rfl (by kernel_rfl) rfl rfl (NP.next (NP.next NP.body)) rfl rfl rfl rfl (dec_f hc31) (fun w' hw' => yl_nilCheck rfl) hS51 (fun hS52 => ?_)
        refine GH.on (i := 17) (listed' := #[true, true, true, true, true, true, true, true, true, true, true, true, true, true, true, true, true, true, false, false, false, false]) rfl (by kernel_rfl) rfl rfl (NP.next (NP.next NP.body)) rfl rfl rfl rfl (dec_f hc31) (fun w' hw' => yl_fieldAddr fo73_1 rfl) hS52 (fun hS53 => ?_)
        refine GH.on (i := 18) (listed' := #[true, true, true, true, true, true, true, true, true, true, true, true, true, true, true, true, true, true, true, false, false, false]) rfl (by kernel_rfl) rfl rfl (NP.next (NP.next NP.body)) rfl rfl rfl rfl (dec_f hc31) (fun w' hw' => yl_load (v := (vI At)) ag3 rfl (View.at0 (j := 1) hw' rfl)) hS53 (fun hS54 => ?_)
        obtain ⟨hc55, hm⟩ := sp_chk hm
        refine GH.on (i := 19) (listed' := #[true, true, true, true, true, true, true, true, true, true, true, true, true, true, true, true, true, true, true, true, false, false]) rfl (by kernel_rfl) rfl rfl (NP.next (NP.next NP.body)) rfl rfl rfl rfl (dec_f hc31) (fun w' hw' => yl_subI rfl rfl hc55) hS54 (fun hS56 => ?_)
        refine GH.on (i := 20) (listed' := #[true, true, true, true, true, true, true, true, true, true, true, true, true, true, true, true, true, true, true, true, true, false]) rfl (by kernel_rfl) rfl rfl (NP.next (NP.next NP.body)) rfl rfl rfl rfl (dec_f hc31) (fun w' hw' => yl_gtI rfl rfl) hS56 (fun hS57 => ?_)
        refine GH.yl (i := 21) (listed' := #[true, true, true, true, true, true, true, true, true, true, true, true, true, true, true, true, true, true, true, true, true, true]) rfl (by kernel_rfl) rfl (NP.next (NP.next NP.body)) rfl rfl rfl (fun w' => yl_pick_f rfl (dec_f hc31) rfl) hS57 (fun hS58 => ?_)
        refine GH.done (by kernel_rfl) ?_
        exact QA.join (decide (((B.length : Int) - At) < n)) (Sub.of ⟨rfl, rfl, rfl, rfl, trivial⟩) ⟨hm, (Sat.pick [0] h2)⟩
  · rintro t26 w59 ⟨hm, h60⟩
    show C _ _ _ [(0, (.pointer (some ⟨b, 0, none⟩))), (1, (vI n)), (4, (.slice none 0 0)), (26, (.bool t26))] _ _
    unfold M_signpostref01_Reader_Take_pv_k1 at hm
    rcases sp_b hm with ⟨hc61, hm⟩ | ⟨hc61, hm⟩
    · refine C.cond_t rfl hc61 ?_
      refine C.seq ?_
      refine C.region ?_
      refine G.yl (yl_move rfl) rfl rfl rfl ?_
      obtain ⟨_, hy64, hm⟩ := sp_bind hm
      refine G.does (does_fn 1 rfl rfl rfl en75 (Sat.pick [0] h60) (fun U hU hp hr hs => M_signpostref01_Reader_fail_pv_w (hs.v hv54) hq55 hp hy64)) rfl rfl rfl ?_
      rintro _ w65 ⟨U68, hb69, rfl, h67⟩
      have h66 : Sat W w65 [blk b [(.slice a B.length c), (vI (B.length : Int)), (.bool true)] 73] := hb69 h67
      refine G.nil ?_
      refine QA.then_normal ?_
      refine C.seq ?_
      refine C.region ?_
      refine G.yl (yl_assign rfl) rfl rfl rfl ?_
      refine G.nil ?_
      refine QA.then_normal ?_
      refine C.ret ?_
      refine QA.then_ret ?_
      refine QA.ret1 rfl rfl ?_
      obtain ⟨rfl, rfl, rfl⟩ := sp_ret3 hm
      exact ⟨none, 0, rfl, (Sat.pick [0, 0] (Sat.own_zero h66 elU8 none 5))⟩
    · refine C.cond_f rfl hc61 ?_
      refine C.skip ?_
      refine QA.then_normal ?_
      refine C.seq ?_
      refine C.region ?_
      refine G.yl (yl_move rfl) rfl rfl rfl ?_
      refine G.yl (yl_move rfl) rfl rfl rfl ?_
      refine G.yl (yl_nilCheck rfl) rfl rfl rfl ?_
      refine G.yl (yl_fieldAddr fo73_1 rfl) rfl rfl rfl ?_
      refine G.yl (yl_load (v := (vI At)) ag3 rfl (View.at0 (j := 1) h60.isBlk.view0 rfl)) rfl rfl rfl ?_
      refine G.yl (yl_move rfl) rfl rfl rfl ?_
      obtain ⟨hc70, hm⟩ := sp_chk hm
      refine G.yl (yl_addI rfl rfl hc70) rfl rfl rfl ?_
      refine G.yl (yl_nilCheck rfl) rfl rfl rfl ?_
      refine G.yl (yl_fieldAddr fo73_1 rfl) rfl rfl rfl ?_
      refine G.unit (does_store (vs := [(vI (At + n))]) h60 sz3 rfl rfl rfl rfl (List.forall_mem_cons.2 ⟨rfl, (fun _ hh => by cases hh)⟩) (Nat.le_of_ble_eq_true rfl)) rfl rfl ?_
      rintro _ w71 h73
      have h72 : Sat W w71 [blk b [(.slice a B.length c), (vI (At + n)), (.bool Bad)] 73] := h73
      refine G.nil ?_
      refine QA.then_normal ?_
      refine C.seq ?_
      refine C.draw (V := fun w' => View w' (some ⟨b, 0, none⟩) [(.slice a B.length c), (vI (At + n)), (.bool Bad)]) (nd := [4, 8, 14]) (sp := []) (n := 18) rfl h72 rfl rfl ?_
      intro w74 h75
      have hS76 : Cls (fun w' => View w' (some ⟨b, 0, none⟩) [(.slice a B.length c), (vI (At + n)), (.bool Bad)]) [4, 8, 14] [] #[false, false, false, false, false, false, false, false, false, false, false, false, false, false, false, false, false, false] w74 := Cls.keep (h75.isBlk.view0) (by kernel_rfl)
      refine GH.yl (i := 1) (listed' := #[false, true, false, false, false, false, false, false, false, false, false, false, false, false, false, false, false, false]) rfl (by kernel_rfl) rfl (NP.next NP.body) rfl rfl rfl (fun w' => yl_move rfl) hS76 (fun hS77 => ?_)
      refine GH.yl (i := 2) (listed' := #[false, true, true, false, false, false, false, false, false, false, false, false, false, false, false, false, false, false]) rfl (by kernel_rfl) rfl (NP.next NP.body) rfl rfl rfl (fun w' => yl_nilCheck rfl) hS77 (fun hS78 => ?_)
      refine GH.yl (i := 3) (listed' := #[false, true, true, true, false, false, false, false, false, false, false, false, false, false, false, false, false, false]) rfl (by kernel_rfl) rfl (NP.next NP.body) rfl rfl rfl (fun w' => yl_fieldAddr fo73_0 rfl) hS78 (fun hS79 => ?_)
      refine GH.yr (i := 4) (listed' := #[false, true, true, true, true, false, false, false, false, false, false, false, false, false, false, false, false, false]) rfl (by kernel_rfl) rfl rfl (NP.next NP.body) rfl rfl rfl (fun w' hw' => yl_load (v := (.slice a B.length c)) ag22 rfl (View.at0 (j := 0) hw' rfl)) hS79 (fun hS80 => ?_)
      refine GH.yl (i := 5) (listed' := #[false, true, true, true, true, true, false, false, false, false, false, false, false, false, false, false, false, false]) rfl (by kernel_rfl) rfl (NP.next NP.body) rfl rfl rfl (fun w' => yl_move rfl) hS80 (fun hS81 => ?_)
      refine GH.yl (i := 6) (listed' := #[false, true, true, true, true, true, true, false, false, false, false, false, false, false, false, false, false, false]) rfl (by kernel_rfl) rfl (NP.next NP.body) rfl rfl rfl (fun w' => yl_nilCheck rfl) hS81 (fun hS82 => ?_)
      refine GH.yl (i := 7) (listed' := #[false, true, true, true, true, true, true, true, false, false, false, false, false, false, false, false, false, false]) rfl (by kernel_rfl) rfl (NP.next NP.body) rfl rfl rfl (fun w' => yl_fieldAddr fo73_1 rfl) hS82 (fun hS83 => ?_)
      refine GH.yr (i := 8) (listed' := #[false, true, true, true, true, true, true, true, true, false, false, false, false, false, false, false, false, false]) rfl (by kernel_rfl) rfl rfl (NP.next NP.body) rfl rfl rfl (fun w' hw' => yl_load (v := (vI (At + n))) ag3 rfl (View.at0 (j := 1) hw' rfl)) hS83 (fun hS84 => ?_)
      refine GH.yl (i := 9) (listed' := #[false, true, true, true, true, true, true, true, true, true, false, false, false, false, false, false, false, false]) rfl (by kernel_rfl) rfl (NP.next NP.body) rfl rfl rfl (fun w' => yl_move rfl) hS84 (fun hS85 => ?_)
      obtain ⟨hc86, hm⟩ := sp_chk hm
      refine GH.yl (i := 10) (listed' := #[false, true, true, true, true, true, true, true, true, true, true, false, false, false, false, false, false, false]) rfl (by kernel_rfl) rfl (NP.next NP.body) rfl rfl rfl (fun w' => yl_subI rfl rfl hc86) hS85 (fun hS87 => ?_)
      refine GH.yl (i := 11) (listed' := #[false, true, true, true, true, true, true, true, true, true, true, true, false, false, false, false, false, false]) rfl (by kernel_rfl) rfl (NP.next NP.body) rfl rfl rfl (fun w' => yl_move rfl) hS87 (fun hS88 => ?_)
      refine GH.yl (i := 12) (listed' := #[false, true, true, true, true, true, true, true, true, true, true, true, true, false, false, false, false, false]) rfl (by kernel_rfl) rfl (NP.next NP.body) rfl rfl rfl (fun w' => yl_nilCheck rfl) hS88 (fun hS89 => ?_)
      refine GH.yl (i := 13) (listed' := #[false, true, true, true, true, true, true, true, true, true, true, true, true, true, false, false, false, false]) rfl (by kernel_rfl) rfl (NP.next NP.body) rfl rfl rfl (fun w' => yl_fieldAddr fo73_1 rfl) hS89 (fun hS90 => ?_)
      refine GH.yr (i := 14) (listed' := #[false, true, true, true, true, true, true, true, true, true, true, true, true, true, true, false, false, false]) rfl (by kernel_rfl) rfl rfl (NP.next NP.body) rfl rfl rfl (fun w' hw' => yl_load (v := (vI (At + n))) ag3 rfl (View.at0 (j := 1) hw' rfl)) hS90 (fun hS91 => ?_)
      obtain ⟨a92, ha93⟩ : ∃ p', Cut p' a c (((At + n) - n).toNat) 1 := Cut.mk _ _ _ _
      obtain ⟨hc94, hm⟩ := sp_chk hm
      refine GH.yl (i := 15) (listed' := #[false, true, true, true, true, true, true, true, true, true, true, true, true, true, true, true, false, false]) rfl (by kernel_rfl) rfl (NP.next NP.body) rfl rfl rfl (fun w' => yl_slLH (E := elU8) (l := B) sl22 rfl rfl rfl rfl hc94 hq55 ha93) hS91 (fun hS95 => ?_)
      refine GH.does (i := 0) (listed' := #[true, true, true, true, true, true, true, true, true, true, true, true, true, true, true, true, false, false]) rfl (by kernel_rfl) rfl rfl rfl rfl (does_lit (E := elU8) (l := ([] : List UInt8)) (vs := []) (cs := []) (e := 5) h75 rfl (by kernel_rfl) rfl rfl (by decide)) ?_
      rintro _ w97 ⟨a96, rfl, h98⟩
      have hS99 : Cls (fun w' => View w' (some ⟨b, 0, none⟩) [(.slice a B.length c), (vI (At + n)), (.bool Bad)]) [4, 8, 14] [] #[true, true, true, true, true, true, true, true, true, true, true, true, true, true, true, true, false, false] w97 := Cls.keep (((Sat.pick [1] h98).isBlk.view0)) (by kernel_rfl)
      refine ⟨hS99, ?_⟩
      obtain ⟨hc100, hm⟩ := sp_chk hm
      refine GH.does (i := 16) (listed' := #[true, true, true, true, true, true, true, true, true, true, true, true, true, true, true, true, true, false]) rfl (by kernel_rfl) rfl rfl rfl rfl (does_app (E := elU8) (l := ([] : List UInt8)) (l2 := (B.take ((At + n).toNat)).drop (((At + n) - n).toNat)) Try.underlying22 el5 (Sat.own_zero h98 elU8 a96 5) rfl rfl rfl rfl (by decide) (View.cut (View.rtake (hv54.at_ h98) ((At + n).toNat)) ha93 (by have := hq55; simp only [List.length_drop, List.length_take, List.length_append, List.length_set, List.length_cons, List.length_nil, List.length_ofFn, copyL_length] at *; omega)) hc100 (by decide)) ?_
      rintro _ w103 ⟨a101, c102, rfl, h104⟩
      have hS105 : Cls (fun w' => View w' (some ⟨b, 0, none⟩) [(.slice a B.length c), (vI (At + n)), (.bool Bad)]) [4, 8, 14] [] #[true, true, true, true, true, true, true, true, true, true, true, true, true, true, true, true, true, false] w103 := Cls.keep (((Sat.pick [2] h104).isBlk.view0)) (by kernel_rfl)
      refine ⟨hS105, ?_⟩
      refine GH.yl (i := 17) (listed' := #[true, true, true, true, true, true, true, true, true, true, true, true, true, true, true, true, true, true]) rfl (by kernel_rfl) rfl (NP.next NP.body) rfl rfl rfl (fun w' => yl_assign rfl) hS105 (fun hS106 => ?_)
      refine GH.done (by kernel_rfl) ?_
      refine QA.then_normal ?_
      refine C.ret ?_
      refine QA.ret1 rfl rfl ?_
      obtain ⟨rfl, rfl, rfl⟩ := sp_ret3 hm
      exact ⟨a101, c102, rfl, (Sat.pick [0, 1] h104)⟩
set_option maxRecDepth 20000 in
theorem M_contact_ReadList_po_w {W : Base} {w : World} {b : Nat} {a : Option Addr} {c : Nat} {b2 : List UInt8} {open_ : Bool} {bad : Bool}  (h : Sat W w [blk b [(.slice a b2.length c), (.bool open_), (.bool bad)] 122, ow elU8 a c 5 b2]) {r3 : List G_api_Contact} {r6 : List UInt8} {r7 : Bool} (hm : M_contact_ReadList_po b2 open_ bad = some (r3, r6, r7)) :
    Calls Try.prog 37 #[(.pointer (some ⟨b, 0, none⟩))] w (Ret fun v w' => ∃ r1 : Option Addr, ∃ r2 : Nat, ∃ r4 : Option Addr, ∃ r5 : Nat, v = (.slice r1 r3.length r2) ∧ Sat W w' [ow el_G_api_Contact r1 r2 60 r3, blk b [(.slice r4 r6.length r5), (.bool open_), (.bool r7)] 122, ow elU8 r4 r5 5 r6]) := by
  unfold M_contact_ReadList_po at hm
  refine C.enter (N := 33) Try.func37 rfl Try.ntmps37 rfl ?_
  show C _ _ _ [(0, (.pointer (some ⟨b, 0, none⟩)))] _ _
  refine C.seq ?_
  refine C.region ?_
  refine G.yl (yl_assign rfl) rfl rfl rfl ?_
  refine G.nil ?_
  refine QA.then_normal ?_
  refine C.seq ?_
  refine C.region ?_
  refine G.yl (yl_move rfl) rfl rfl rfl ?_
  refine G.yl (yl_func rfl rfl) rfl rfl rfl ?_
  refine G.yl (yl_assign rfl) rfl rfl rfl ?_
  refine G.nil ?_
  refine QA.then_normal ?_
  refine C.seq ?_
  refine C.seq ?_
  refine C.region ?_
  refine G.yl (yl_move rfl) rfl rfl rfl ?_
  obtain ⟨⟨r1_2, r4_2, r5_2⟩, hy1, hm⟩ := sp_bind hm
  refine G.does (does_fn 2 rfl rfl rfl en76 (Sat.pick [0, 0] h) (fun U hU hp hr hs => M_octet_Reader_Num_po_w hp hy1)) rfl rfl rfl ?_
  rintro _ w4 ⟨U7, hb8, r22, r33, rfl, h6⟩
  have h5 : Sat W w4 [blk b [(.slice r22 r4_2.length r33), (.bool open_), (.bool r5_2)] 122, ow elU8 r22 r33 5 r4_2] := hb8 h6
  refine G.yl (yl_move rfl) rfl rfl rfl ?_
  refine G.nil ?_
  refine QA.then_normal ?_
  refine C.block ?_
  obtain ⟨o, ho9, hm10⟩ := sp_bind hm
  refine C.left (γ := Option Addr × Nat × List G_api_Contact × Option Addr × Nat × List UInt8 × Bool) (.exit 0) (fun g => match g with | (a_4, c_4, out_2, a_5, c_5, b_3, bad_3) => [(2, (.slice a_4 out_2.length c_4)), (3, (.func (.func 35) #[(.pointer (some ⟨b, 0, none⟩))] #[]))]) (fun g ww => match g with | (a_4, c_4, out_2, a_5, c_5, b_3, bad_3) => .inl (out_2, b_3, bad_3) = o ∧ Sat W ww [ow el_G_api_Contact a_4 c_4 60 out_2, blk b [(.slice a_5 b_3.length c_5), (.bool open_), (.bool bad_3)] 122, ow elU8 a_5 c_5 5 b_3]) ?_ ?_
  · refine C.loopO (γ := Option Addr × Nat × List G_api_Contact × Option Addr × Nat × List UInt8 × Bool × UInt64) (fun g => match g with | (a_2, c_2, out, a_3, c_3, b_2, bad_2, t10) => [(2, (.slice a_2 out.length c_2)), (3, (.func (.func 35) #[(.pointer (some ⟨b, 0, none⟩))] #[])), (9, (v64 r1_2)), (10, (v64 t10))]) (fun g ww => match g with | (a_2, c_2, out, a_3, c_3, b_2, bad_2, t10) => Sat W ww [ow el_G_api_Contact a_2 c_2 60 out, blk b [(.slice a_3 b_2.length c_3), (.bool open_), (.bool bad_2)] 122, ow elU8 a_3 c_3 5 b_2]) (fun g => match g with | (a_2, c_2, out, a_3, c_3, b_2, bad_2, t10) => (out, b_2, bad_2, t10)) (none, 0, ([] : List G_api_Contact), r22, r33, r4_2, r5_2, 0) ho9 (Sub.of ⟨rfl, rfl, rfl, rfl, trivial⟩) (Sat.pick [0, 0, 0] (Sat.own_zero h5 el_G_api_Contact none 60)) ?_
    rintro ⟨a_2, c_2, out, a_3, c_3, b_2, bad_2, t10⟩ k13 w11 y_ h12 hm hg14
    show C _ _ _ [(2, (.slice a_2 out.length c_2)), (3, (.func (.func 35) #[(.pointer (some ⟨b, 0, none⟩))] #[])), (9, (v64 r1_2)), (10, (v64 t10))] _ _
    change M_contact_ReadList_po_b1 open_ r1_2 out b_2 bad_2 t10 = some y_ at hm
    unfold M_contact_ReadList_po_b1 at hm
    refine C.seq ?_
    refine C.region ?_
    refine G.yl (yl_lt64 rfl rfl) rfl rfl rfl ?_
    refine G.nil ?_
    refine QA.then_normal ?_
    refine C.seq ?_
    rcases sp_ite hm with ⟨hc15, hm⟩ | ⟨hc15, hm⟩
    · refine C.cond_t rfl (dec_t hc15) ?_
      refine C.skip ?_
      refine QA.then_normal ?_
      refine C.seq ?_
      refine C.block ?_
      refine C.seq ?_
      refine C.region ?_
      refine G.yl (yl_move rfl) rfl rfl rfl ?_
      obtain ⟨⟨r3_2, r6_2, r7_2⟩, hy16, hm⟩ := sp_bind hm
      refine G.does (does_fn 2 rfl rfl rfl en35 (Sat.pick [1, 1, 0] h12) (fun U hU hp hr hs => M_octet_Reader_Take_po_w hp hy16)) rfl rfl rfl ?_
      rintro _ w21 ⟨U24, hb25, r117, r218, r419, r520, rfl, h23⟩
      have h22 : Sat W w21 [ow elU8 r117 r218 5 r3_2, blk b [(.slice r419 r6_2.length r520), (.bool open_), (.bool r7_2)] 122, ow elU8 r419 r520 5 r6_2, ow el_G_api_Contact a_2 c_2 60 out] := hb25 h23
      obtain ⟨⟨r1_3, r2_2⟩, hy26, hm⟩ := sp_bind hm
      refine G.does (does_fn 0 rfl rfl rfl en32 h22 (fun U hU hp hr hs => M_contact_Read_v_w (Rest.view hr) (Sat.own_cap h22).1 hp hy26)) rfl rfl rfl ?_
      rintro _ w27 ⟨U30, hb31, rfl, h29⟩
      have h28 : Sat W w27 [ow elU8 r117 r218 5 r3_2, blk b [(.slice r419 r6_2.length r520), (.bool open_), (.bool r7_2)] 122, ow elU8 r419 r520 5 r6_2, ow el_G_api_Contact a_2 c_2 60 out] := hb31 h29
      refine G.yl (yl_move rfl) rfl rfl rfl ?_
      refine G.yl (yl_extract rfl rfl) rfl rfl rfl ?_
      refine G.yl (yl_extract rfl rfl) rfl rfl rfl ?_
      refine G.does (does_alloc (cs := (bytesV (List.ofFn (n := 20) (fun _ => 0)) ++ ([(.int .u32 0), (.int .u16 0)] : List Value))) h28 z60 rfl) rfl rfl rfl ?_
      rintro _ w33 ⟨b32, rfl, h34⟩
      refine G.unit (does_store (vs := (bytesV (List.ofFn (n := 20) r1_3.ID) ++ ([(v32 r1_3.Addr.Host), (v16 r1_3.Addr.Port)] : List Value))) h34 sz60 rfl rfl rfl (by simp [bytesV_length]) (List.forall_mem_append.2 ⟨(bytesV_one _), (List.forall_mem_cons.2 ⟨rfl, (List.forall_mem_cons.2 ⟨rfl, (fun _ hh => by cases hh)⟩)⟩)⟩) (by simp [bytesV_length])) rfl rfl ?_
      rintro _ w35 h37
      have h36 : Sat W w35 [blk b32 (bytesV (List.ofFn (n := 20) r1_3.ID) ++ ([(v32 r1_3.Addr.Host), (v16 r1_3.Addr.Port)] : List Value)) 60, ow elU8 r117 r218 5 r3_2, blk b [(.slice r419 r6_2.length r520), (.bool open_), (.bool r7_2)] 122, ow elU8 r419 r520 5 r6_2, ow el_G_api_Contact a_2 c_2 60 out] := sl_blk (setN_all _ _ (by simp [bytesV_length])) h37
      refine G.yl (yl_assign rfl) rfl rfl rfl ?_
      refine G.nil ?_
      refine QA.then_normal ?_
      refine C.seq ?_
      refine C.seq ?_
      refine C.region ?_
      refine G.yl (yl_move rfl) rfl rfl rfl ?_
      refine G.yl (yl_neI rfl rfl) rfl rfl rfl ?_
      refine G.nil ?_
      refine QA.then_normal ?_
      rcases sp_ite hm with ⟨hc38, hm⟩ | ⟨hc38, hm⟩
      · refine C.cond_f rfl (not_f (dec_t hc38)) ?_
        refine C.skip ?_
        refine QA.then_normal ?_
        refine C.region ?_
        refine G.yl (yl_move rfl) rfl rfl rfl ?_
        refine G.yl (yl_loadN (vs := (bytesV (List.ofFn (n := 20) r1_3.ID) ++ ([(v32 r1_3.Addr.Host), (v16 r1_3.Addr.Port)] : List Value))) ag60 sz60 (by simp [bytesV_length]) rfl (h36.isBlk.view0)) rfl rfl rfl ?_
        refine G.does (does_lit (E := el_G_api_Contact) (l := [r1_3]) (vs := [(.agg (bytesV (List.ofFn (n := 20) r1_3.ID) ++ ([(v32 r1_3.Addr.Host), (v16 r1_3.Addr.Port)] : List Value)).toArray)]) (cs := (bytesV (List.ofFn (n := 20) r1_3.ID) ++ ([(v32 r1_3.Addr.Host), (v16 r1_3.Addr.Port)] : List Value))) (e := 60) h36 rfl (by kernel_rfl) rfl rfl (by decide)) rfl rfl rfl ?_
        rintro _ w40 ⟨a39, rfl, h41⟩
        obtain ⟨hc42, hm⟩ := sp_chk hm
        refine G.does (does_app (E := el_G_api_Contact) (l := out) (l2 := [r1_3]) Try.underlying74 el60 (Sat.pick [5, 0, 0, 0, 0, 0] h41) rfl rfl rfl rfl (by decide) (Sat.own_view h41) hc42 (by decide)) rfl rfl rfl ?_
        rintro _ w45 ⟨a43, c44, rfl, h46⟩
        refine G.yl (yl_assign rfl) rfl rfl rfl ?_
        refine G.nil ?_
        refine QA.block_normal ?_
        refine QA.then_normal ?_
        refine C.region ?_
        refine G.yl (yl_add64 (b := 1) rfl rfl) rfl rfl rfl ?_
        refine G.yl (yl_move rfl) rfl rfl rfl ?_
        refine G.nil ?_
        obtain rfl := sp_ret1 hm
        exact QA.againO (a43, c44, out ++ [r1_3], r419, r520, r6_2, r7_2, t10 + 1) hg14 (Sub.of ⟨rfl, rfl, rfl, rfl, trivial⟩) (Sat.pick [0, 3, 3] h46)
      · refine C.cond_t rfl (not_t (dec_f hc38)) ?_
        refine C.seq ?_
        refine C.region ?_
        refine G.yl (yl_move rfl) rfl rfl rfl ?_
        obtain ⟨⟨r3_3, r6_3, r7_3⟩, hy47, hm⟩ := sp_bind hm
        refine G.does (does_fn 2 rfl rfl rfl en35 (Sat.pick [2, 2, 0, 0, 0] h36) (fun U hU hp hr hs => M_octet_Reader_Take_po_w hp hy47)) rfl rfl rfl ?_
        rintro _ w52 ⟨U55, hb56, r148, r249, r450, r551, rfl, h54⟩
        have h53 : Sat W w52 [ow elU8 r148 r249 5 r3_3, blk b [(.slice r450 r6_3.length r551), (.bool open_), (.bool r7_3)] 122, ow elU8 r450 r551 5 r6_3, blk b32 (bytesV (List.ofFn (n := 20) r1_3.ID) ++ ([(v32 r1_3.Addr.Host), (v16 r1_3.Addr.Port)] : List Value)) 60, ow elU8 r117 r218 5 r3_2, ow el_G_api_Contact a_2 c_2 60 out] := hb56 h54
        refine G.nil ?_
        refine QA.then_normal ?_
        refine C.seq ?_
        refine C.region ?_
        refine G.yl (yl_assign rfl) rfl rfl rfl ?_
        refine G.nil ?_
        refine QA.then_normal ?_
        refine C.ret ?_
        refine QA.then_ret ?_
        refine QA.block_ret ?_
        refine QA.then_ret ?_
        refine QA.then_ret ?_
        refine QA.past (by simp) ?_
        refine QA.block_ret ?_
        refine QA.then_ret ?_
        refine QA.ret1 rfl rfl ?_
        obtain rfl := sp_ret1 hm
        obtain rfl : .inr (([] : List G_api_Contact), r6_3, r7_3) = o := hg14
        have hm : some (([] : List G_api_Contact), r6_3, r7_3) = some (r3, r6, r7) := hm10
        obtain ⟨rfl, rfl, rfl⟩ := sp_ret3 hm
        exact ⟨none, 0, r450, r551, rfl, (Sat.pick [0, 1, 1] (Sat.own_zero h53 el_G_api_Contact none 60))⟩
    · refine C.cond_f rfl (dec_f hc15) ?_
      refine C.exit ?_
      refine QA.then_exit ?_
      refine QA.then_exit ?_
      obtain rfl := sp_ret1 hm
      exact QA.left (a_2, c_2, out, a_3, c_3, b_2, bad_2) (Sub.of ⟨rfl, rfl, trivial⟩) ⟨hg14, (Sat.pick [0, 0, 0] h12)⟩
  · rintro ⟨a_4, c_4, out_2, a_5, c_5, b_3, bad_3⟩ w57 ⟨rfl, h58⟩
    have hm := hm10
    show QA _ _ [(2, (.slice a_4 out_2.length c_4)), (3, (.func (.func 35) #[(.pointer (some ⟨b, 0, none⟩))] #[]))] _ _
    refine QA.block_here ?_
    refine QA.then_normal ?_
    refine C.seq ?_
    refine C.seq ?_
    refine C.region ?_
    refine G.yl (yl_move rfl) rfl rfl rfl ?_
    obtain ⟨r1_4, hy59, hm⟩ := sp_bind hm
    refine G.does (does_fn 0 rfl rfl rfl en77 h58 (fun U hU hp hr hs => M_contact_good_v_w (Rest.view hr) (Sat.own_cap h58).1 hp hy59)) rfl rfl rfl ?_
    rintro _ w60 ⟨U63, hb64, rfl, h62⟩
    have h61 : Sat W w60 [ow el_G_api_Contact a_4 c_4 60 out_2, blk b [(.slice a_5 b_3.length c_5), (.bool open_), (.bool bad_3)] 122, ow elU8 a_5 c_5 5 b_3] := hb64 h62
    refine G.yl (yl_not rfl) rfl rfl rfl ?_
    refine G.nil ?_
    refine QA.then_normal ?_
    rcases sp_b hm with ⟨hc65, hm⟩ | ⟨hc65, hm⟩
    · refine C.cond_f rfl (not_f hc65) ?_
      refine C.skip ?_
      refine QA.then_normal ?_
      refine C.seq ?_
      refine C.region ?_
      refine G.yl (yl_move rfl) rfl rfl rfl ?_
      refine G.yl (yl_assign rfl) rfl rfl rfl ?_
      refine G.nil ?_
      refine QA.then_normal ?_
      refine C.ret ?_
      refine QA.ret1 rfl rfl ?_
      obtain ⟨rfl, rfl, rfl⟩ := sp_ret3 hm
      exact ⟨a_4, c_4, a_5, c_5, rfl, (Sat.pick [0, 0, 0] h61)⟩
    · refine C.cond_t rfl (not_t hc65) ?_
      refine C.seq ?_
      refine C.region ?_
      refine G.yl (yl_move rfl) rfl rfl rfl ?_
      obtain ⟨⟨r3_4, r6_4, r7_4⟩, hy66, hm⟩ := sp_bind hm
      refine G.does (does_fn 2 rfl rfl rfl en35 (Sat.pick [1, 1, 0] h61) (fun U hU hp hr hs => M_octet_Reader_Take_po_w hp hy66)) rfl rfl rfl ?_
      rintro _ w71 ⟨U74, hb75, r167, r268, r469, r570, rfl, h73⟩
      have h72 : Sat W w71 [ow elU8 r167 r268 5 r3_4, blk b [(.slice r469 r6_4.length r570), (.bool open_), (.bool r7_4)] 122, ow elU8 r469 r570 5 r6_4, ow el_G_api_Contact a_4 c_4 60 out_2] := hb75 h73
      refine G.nil ?_
      refine QA.then_normal ?_
      refine C.seq ?_
      refine C.region ?_
      refine G.yl (yl_assign rfl) rfl rfl rfl ?_
      refine G.nil ?_
      refine QA.then_normal ?_
      refine C.ret ?_
      refine QA.then_ret ?_
      refine QA.ret1 rfl rfl ?_
      obtain ⟨rfl, rfl, rfl⟩ := sp_ret3 hm
      exact ⟨none, 0, r469, r570, rfl, (Sat.pick [0, 1, 1] (Sat.own_zero h72 el_G_api_Contact none 60))⟩
set_option maxRecDepth 20000 in
theorem M_signpostref01_Reader_Num_pv_w {W : Base} {w : World} {b : Nat} {a : Option Addr} {c : Nat} {B : List UInt8} {At : Int} {Bad : Bool} {width : Int} (hv1 : V W a (elU8.row B)) (hq2 : B.length ≤ c) (h : Sat W w [blk b [(.slice a B.length c), (vI At), (.bool Bad)] 73]) {r1 : UInt64} {r2 : Int} {r3 : Bool} (hm : M_signpostref01_Reader_Num_pv B At Bad width = some (r1, r2, r3)) :
    Calls Try.prog 78 #[(.pointer (some ⟨b, 0, none⟩)), (vI width)] w (Ret fun v w' => v = (v64 r1) ∧ Sat W w' [blk b [(.slice a B.length c), (vI r2), (.bool r3)] 73]) := by
  unfold M_signpostref01_Reader_Num_pv at hm
  refine C.enter (N := 40) Try.func78 rfl Try.ntmps78 rfl ?_
  show C _ _ _ [(0, (.pointer (some ⟨b, 0, none⟩))), (1, (vI width))] _ _
  refine C.seq ?_
  refine C.region ?_
  refine G.yl (yl_assign rfl) rfl rfl rfl ?_
  refine G.nil ?_
  refine QA.then_normal ?_
  refine C.seq ?_
  refine C.draw (V := fun w' => View w' (some ⟨b, 0, none⟩) [(.slice a B.length c), (vI At), (.bool Bad)]) (nd := [3, 7]) (sp := []) (n := 15) rfl h rfl rfl ?_
  intro w1 h2
  have hS3 : Cls (fun w' => View w' (some ⟨b, 0, none⟩) [(.slice a B.length c), (vI At), (.bool Bad)]) [3, 7] [] #[false, false, false, false, false, false, false, false, false, false, false, false, false, false, false] w1 := Cls.keep (h2.isBlk.view0) (by kernel_rfl)
  refine GH.yl (i := 0) (listed' := #[true, false, false, false, false, false, false, false, false, false, false, false, false, false, false]) rfl (by kernel_rfl) rfl (NP.next NP.body) rfl rfl rfl (fun w' => yl_move rfl) hS3 (fun hS4 => ?_)
  refine GH.yl (i := 1) (listed' := #[true, true, false, false, false, false, false, false, false, false, false, false, false, false, false]) rfl (by kernel_rfl) rfl (NP.next NP.body) rfl rfl rfl (fun w' => yl_nilCheck rfl) hS4 (fun hS5 => ?_)
  refine GH.yl (i := 2) (listed' := #[true, true, true, false, false, false, false, false, false, false, false, false, false, false, false]) rfl (by kernel_rfl) rfl (NP.next NP.body) rfl rfl rfl (fun w' => yl_fieldAddr fo73_0 rfl) hS5 (fun hS6 => ?_)
  refine GH.yr (i := 3) (listed' := #[true, true, true, true, false, false, false, false, false, false, false, false, false, false, false]) rfl (by kernel_rfl) rfl rfl (NP.next NP.body) rfl rfl rfl (fun w' hw' => yl_load (v := (.slice a B.length c)) ag22 rfl (View.at0 (j := 0) hw' rfl)) hS6 (fun hS7 => ?_)
  refine GH.yl (i := 4) (listed' := #[true, true, true, true, true, false, false, false, false, false, false, false, false, false, false]) rfl (by kernel_rfl) rfl (NP.next NP.body) rfl rfl rfl (fun w' => yl_move rfl) hS7 (fun hS8 => ?_)
  refine GH.yl (i := 5) (listed' := #[true, true, true, true, true, true, false, false, false, false, false, false, false, false, false]) rfl (by kernel_rfl) rfl (NP.next NP.body) rfl rfl rfl (fun w' => yl_nilCheck rfl) hS8 (fun hS9 => ?_)
  refine GH.yl (i := 6) (listed' := #[true, true, true, true, true, true, true, false, false, false, false, false, false, false, false]) rfl (by kernel_rfl) rfl (NP.next NP.body) rfl rfl rfl (fun w' => yl_fieldAddr fo73_1 rfl) hS9 (fun hS10 => ?_)
  refine GH.yr (i := 7) (listed' := #[true, true, true, true, true, true, true, true, false, false, false, false, false, false, false]) rfl (by kernel_rfl) rfl rfl (NP.next NP.body) rfl rfl rfl (fun w' hw' => yl_load (v := (vI At)) ag3 rfl (View.at0 (j := 1) hw' rfl)) hS10 (fun hS11 => ?_)
  refine GH.yl (i := 8) (listed' := #[true, true, true, true, true, true, true, true, true, false, false, false, false, false, false]) rfl (by kernel_rfl) rfl (NP.next NP.body) rfl rfl rfl (fun w' => yl_move rfl) hS11 (fun hS12 => ?_)
  obtain ⟨⟨r1_2, r2_2⟩, hy13, hm⟩ := sp_bind hm
  refine GH.does (i := 9) (listed' := #[true, true, true, true, true, true, true, true, true, true, false, false, false, false, false]) rfl (by kernel_rfl) rfl rfl rfl rfl (does_fn 0 rfl rfl rfl en107 h2 (fun U hU hp hr hs => M_signpostref01_Get_v_w (hs.v hv1) hq2 hp hy13)) ?_
  rintro _ w14 ⟨U17, hb18, rfl, h16⟩
  have h15 : Sat W w14 [blk b [(.slice a B.length c), (vI At), (.bool Bad)] 73] := hb18 h16
  have hS19 : Cls (fun w' => View w' (some ⟨b, 0, none⟩) [(.slice a B.length c), (vI At), (.bool Bad)]) [3, 7] [] #[true, true, true, true, true, true, true, true, true, true, false, false, false, false, false] w14 := Cls.keep (h15.isBlk.view0) (by kernel_rfl)
  refine ⟨hS19, ?_⟩
  refine GH.yl (i := 10) (listed' := #[true, true, true, true, true, true, true, true, true, true, true, false, false, false, false]) rfl (by kernel_rfl) rfl (NP.next NP.body) rfl rfl rfl (fun w' => yl_move rfl) hS19 (fun hS20 => ?_)
  refine GH.yl (i := 11) (listed' := #[true, true, true, true, true, true, true, true, true, true, true, true, false, false, false]) rfl (by kernel_rfl) rfl (NP.next NP.body) rfl rfl rfl (fun w' => yl_extract rfl rfl) hS20 (fun hS21 => ?_)
  refine GH.yl (i := 12) (listed' := #[true, true, true, true, true, true, true, true, true, true, true, true, true, false, false]) rfl (by kernel_rfl) rfl (NP.next NP.body) rfl rfl rfl (fun w' => yl_extract rfl rfl) hS21 (fun hS22 => ?_)
  refine GH.yl (i := 13) (listed' := #[true, true, true, true, true, true, true, true, true, true, true, true, true, true, false]) rfl (by kernel_rfl) rfl (NP.next NP.body) rfl rfl rfl (fun w' => yl_assign rfl) hS22 (fun hS23 => ?_)
  refine GH.yl (i := 14) (listed' := #[true, true, true, true, true, true, true, true, true, true, true, true, true, true, true]) rfl (by kernel_rfl) rfl (NP.next NP.body) rfl rfl rfl (fun w' => yl_assign rfl) hS23 (fun hS24 => ?_)
  refine GH.done (by kernel_rfl) ?_
  refine QA.then_normal ?_
  refine C.seq ?_
  refine C.join (γ := Bool) (fun g => match g with | t27 => [(0, (.pointer (some ⟨b, 0, none⟩))), (1, (vI width)), (4, (.int .u64 0)), (5, (v64 r1_2)), (27, (.bool t27))]) (fun g ww => match g with | t27 => (M_signpostref01_Reader_Num_pv_k1 At B Bad r1_2 width t27 = some (r1, r2, r3)) ∧ Sat W ww [blk b [(.slice a B.length c), (vI At), (.bool Bad)] 73]) ?_ ?_
  · refine C.region ?_
    refine G.yl (yl_move rfl) rfl rfl rfl ?_
    refine G.yl (yl_nilCheck rfl) rfl rfl rfl ?_
    refine G.yl (yl_fieldAddr fo73_2 rfl) rfl rfl rfl ?_
    refine G.yl (yl_load (v := (.bool Bad)) ag4 rfl (View.at0 (j := 2) h15.isBlk.view0 rfl)) rfl rfl rfl ?_
    refine G.yl (yl_move rfl) rfl rfl rfl ?_
    rcases sp_b hm with ⟨hc25, hm⟩ | ⟨hc25, hm⟩
    · refine G.offU rfl rfl hc25 rfl ?_
      refine G.offU rfl rfl hc25 rfl ?_
      refine G.yl (yl_pick_t rfl hc25 rfl) rfl rfl rfl ?_
      refine G.nil ?_
      exact QA.join true (Sub.of ⟨rfl, rfl, rfl, rfl, rfl, trivial⟩) ⟨hm, (Sat.pick [0] h15)⟩
    · refine G.on rfl rfl hc25 ?_
      refine G.yl (yl_move rfl) rfl rfl rfl ?_
      refine G.on rfl rfl hc25 ?_
      refine G.yl (yl_not rfl) rfl rfl rfl ?_
      refine G.yl (yl_pick_f rfl hc25 rfl) rfl rfl rfl ?_
      refine G.nil ?_
      exact QA.join (!r2_2) (Sub.of ⟨rfl, rfl, rfl, rfl, rfl, trivial⟩) ⟨hm, (Sat.pick [0] h15)⟩
  · rintro t27 w26 ⟨hm, h27⟩
    show C _ _ _ [(0, (.pointer (some ⟨b, 0, none⟩))), (1, (vI width)), (4, (.int .u64 0)), (5, (v64 r1_2)), (27, (.bool t27))] _ _
    unfold M_signpostref01_Reader_Num_pv_k1 at hm
    rcases sp_b hm with ⟨hc28, hm⟩ | ⟨hc28, hm⟩
    · refine C.cond_t rfl hc28 ?_
      refine C.seq ?_
      refine C.region ?_
      refine G.yl (yl_move rfl) rfl rfl rfl ?_
      obtain ⟨_, hy31, hm⟩ := sp_bind hm
      refine G.does (does_fn 1 rfl rfl rfl en75 (Sat.pick [0] h27) (fun U hU hp hr hs => M_signpostref01_Reader_fail_pv_w (hs.v hv1) hq2 hp hy31)) rfl rfl rfl ?_
      rintro _ w32 ⟨U35, hb36, rfl, h34⟩
      have h33 : Sat W w32 [blk b [(.slice a B.length c), (vI (B.length : Int)), (.bool true)] 73] := hb36 h34
      refine G.nil ?_
      refine QA.then_normal ?_
      refine C.seq ?_
      refine C.region ?_
      refine G.yl (yl_assign rfl) rfl rfl rfl ?_
      refine G.nil ?_
      refine QA.then_normal ?_
      refine C.ret ?_
      refine QA.then_ret ?_
      refine QA.ret1 rfl rfl ?_
      obtain ⟨rfl, rfl, rfl⟩ := sp_ret3 hm
      exact ⟨rfl, (Sat.pick [0] h33)⟩
    · refine C.cond_f rfl hc28 ?_
      refine C.skip ?_
      refine QA.then_normal ?_
      refine C.seq ?_
      refine C.region ?_
      refine G.yl (yl_move rfl) rfl rfl rfl ?_
      refine G.yl (yl_move rfl) rfl rfl rfl ?_
      refine G.yl (yl_nilCheck rfl) rfl rfl rfl ?_
      refine G.yl (yl_fieldAddr fo73_1 rfl) rfl rfl rfl ?_
      refine G.yl (yl_load (v := (vI At)) ag3 rfl (View.at0 (j := 1) h27.isBlk.view0 rfl)) rfl rfl rfl ?_
      refine G.yl (yl_move rfl) rfl rfl rfl ?_
      obtain ⟨hc37, hm⟩ := sp_chk hm
      refine G.yl (yl_addI rfl rfl hc37) rfl rfl rfl ?_
      refine G.yl (yl_nilCheck rfl) rfl rfl rfl ?_
      refine G.yl (yl_fieldAddr fo73_1 rfl) rfl rfl rfl ?_
      refine G.unit (does_store (vs := [(vI (At + width))]) h27 sz3 rfl rfl rfl rfl (List.forall_mem_cons.2 ⟨rfl, (fun _ hh => by cases hh)⟩) (Nat.le_of_ble_eq_true rfl)) rfl rfl ?_
      rintro _ w38 h40
      have h39 : Sat W w38 [blk b [(.slice a B.length c), (vI (At + width)), (.bool Bad)] 73] := h40
      refine G.nil ?_
      refine QA.then_normal ?_
      refine C.seq ?_
      refine C.region ?_
      refine G.yl (yl_move rfl) rfl rfl rfl ?_
      refine G.yl (yl_assign rfl) rfl rfl rfl ?_
      refine G.nil ?_
      refine QA.then_normal ?_
      refine C.ret ?_
      refine QA.ret1 rfl rfl ?_
      obtain ⟨rfl, rfl, rfl⟩ := sp_ret3 hm
      exact ⟨rfl, (Sat.pick [0] h39)⟩
set_option maxRecDepth 20000 in
theorem M_signpostref08_Good_w {W : Base} {w : World} {c : G_signpostref08_Contact}  (h : Sat W w []) {r1 : Bool} (hm : M_signpostref08_Good c = some r1) :
    Calls Try.prog 57 #[(.agg (bytesV (List.ofFn (n := 20) c.ID) ++ ([(v32 c.Addr.Host), (v16 c.Addr.Port)] : List Value)).toArray)] w (Ret fun v w' => v = (.bool r1) ∧ Sat W w' []) := by
  unfold M_signpostref08_Good at hm
  refine C.enter (N := 6) Try.func57 rfl Try.ntmps57 rfl ?_
  show C _ _ _ [(0, (.agg (bytesV (List.ofFn (n := 20) c.ID) ++ ([(v32 c.Addr.Host), (v16 c.Addr.Port)] : List Value)).toArray))] _ _
  refine C.seq ?_
  refine C.region ?_
  refine G.does (does_box (cs := (bytesV (List.ofFn (n := 20) c.ID) ++ ([(v32 c.Addr.Host), (v16 c.Addr.Port)] : List Value))) h rfl rfl) rfl rfl rfl ?_
  rintro _ w2 ⟨b1, rfl, h3⟩
  refine G.yl (yl_assign rfl) rfl rfl rfl ?_
  refine G.nil ?_
  refine QA.then_normal ?_
  refine C.seq ?_
  refine C.region ?_
  refine G.yl (yl_fieldAddr fo66_1 rfl) rfl rfl rfl ?_
  refine G.yl (yl_loadN (vs := [(v32 c.Addr.Host), (v16 c.Addr.Port)]) ag64 sz64 (by simp [bytesV_length]) rfl (View.span_tail h3.isBlk.view0)) rfl rfl rfl ?_
  obtain ⟨r1_2, hy4, hm⟩ := sp_bind hm
  refine G.does (does_fn 0 rfl rfl rfl en92 h3 (fun U hU hp hr hs => M_signpostref06_Good_w (a := c.Addr) hp hy4)) rfl rfl rfl ?_
  rintro _ w5 ⟨U8, hb9, rfl, h7⟩
  have h6 : Sat W w5 [blk b1 (bytesV (List.ofFn (n := 20) c.ID) ++ ([(v32 c.Addr.Host), (v16 c.Addr.Port)] : List Value)) 66] := hb9 h7
  refine G.yl (yl_assign rfl) rfl rfl rfl ?_
  refine G.nil ?_
  refine QA.then_normal ?_
  refine C.ret ?_
  refine QA.ret1 rfl rfl ?_
  obtain rfl := sp_ret1 hm
  exact ⟨rfl, (Sat.pick [] h6)⟩
set_option maxRecDepth 20000 in
theorem M_signpostref08_Find_v_w {W : Base} {w : World} {a : Option Addr} {c : Nat} {l : List G_signpostref08_Contact} {id : Fin 20 → UInt8} (hv_l : V W a (el_G_signpostref08_Contact.row l)) (hq_l : l.length ≤ c) (h : Sat W w []) {r1 : Int} (hm : M_signpostref08_Find_v l id = some r1) :
    Calls Try.prog 63 #[(.slice a l.length c), (.agg (bytesV (List.ofFn (n := 20) id)).toArray)] w (Ret fun v w' => v = (vI r1) ∧ Sat W w' []) := by
  unfold M_signpostref08_Find_v at hm
  refine C.enter (N := 20) Try.func63 rfl Try.ntmps63 rfl ?_
  show C _ _ _ [(0, (.slice a l.length c)), (1, (.agg (bytesV (List.ofFn (n := 20) id)).toArray))] _ _
  refine C.seq ?_
  refine C.region ?_
  refine G.does (does_box (cs := (bytesV (List.ofFn (n := 20) id))) h rfl rfl) rfl rfl rfl ?_
  rintro _ w2 ⟨b1, rfl, h3⟩
  refine G.yl (yl_assign rfl) rfl rfl rfl ?_
  refine G.nil ?_
  refine QA.then_normal ?_
  refine C.seq ?_
  refine C.seq ?_
  refine C.region ?_
  refine G.yl (yl_assign rfl) rfl rfl rfl ?_
  refine G.nil ?_
  refine QA.then_normal ?_
  refine C.block ?_
  obtain ⟨o, ho4, hm5⟩ := sp_bind hm
  refine C.left (γ := Unit) (.exit 0) (fun g => match g with | () => [(4, (vI 0))]) (fun g ww => match g with | () => .inl () = o ∧ Sat W ww []) ?_ ?_
  · refine C.loopO (γ := Int) (fun g => match g with | i => [(0, (.slice a l.length c)), (3, (.pointer (some ⟨b1, 0, none⟩))), (4, (vI 0)), (5, (vI i))]) (fun g ww => match g with | i => Sat W ww [blk b1 (bytesV (List.ofFn (n := 20) id)) 63]) (fun g => match g with | i => i) 0 ho4 (Sub.of ⟨rfl, rfl, rfl, rfl, trivial⟩) (Sat.pick [0] h3) ?_
    rintro i k8 w6 y_ h7 hm hg9
    show C _ _ _ [(0, (.slice a l.length c)), (3, (.pointer (some ⟨b1, 0, none⟩))), (4, (vI 0)), (5, (vI i))] _ _
    change M_signpostref08_Find_v_b1 id l i = some y_ at hm
    unfold M_signpostref08_Find_v_b1 at hm
    refine C.seq ?_
    refine C.seq ?_
    refine C.region ?_
    refine G.yl (yl_move rfl) rfl rfl rfl ?_
    refine G.yl (yl_move rfl) rfl rfl rfl ?_
    refine G.yl (yl_lenE Try.underlying76 rfl) rfl rfl rfl ?_
    refine G.yl (yl_ltI rfl rfl) rfl rfl rfl ?_
    refine G.nil ?_
    refine QA.then_normal ?_
    rcases sp_ite hm with ⟨hc10, hm⟩ | ⟨hc10, hm⟩
    · refine C.cond_t rfl (dec_t hc10) ?_
      refine C.skip ?_
      refine QA.then_normal ?_
      refine C.seq ?_
      refine C.block ?_
      refine C.seq ?_
      refine C.draw (V := fun w' => View w' a (el_G_signpostref08_Contact.row l) ∧ View w' (some ⟨b1, 0, none⟩) (bytesV (List.ofFn (n := 20) id))) (nd := [4, 5]) (sp := []) (n := 7) rfl h7 rfl rfl ?_
      intro w11 h12
      have hS13 : Cls (fun w' => View w' a (el_G_signpostref08_Contact.row l) ∧ View w' (some ⟨b1, 0, none⟩) (bytesV (List.ofFn (n := 20) id))) [4, 5] [] #[false, false, false, false, false, false, false] w11 := Cls.keep (⟨(hv_l.at_ h12), h12.isBlk.view0⟩) (by kernel_rfl)
      refine GH.yl (i := 0) (listed' := #[true, false, false, false, false, false, false]) rfl (by kernel_rfl) rfl (NP.next (NP.block (NP.next (NP.next (NP.left (by simp) (NP.block (NP.next NP.body))))))) rfl rfl rfl (fun w' => yl_move rfl) hS13 (fun hS14 => ?_)
      refine GH.yl (i := 1) (listed' := #[true, true, false, false, false, false, false]) rfl (by kernel_rfl) rfl (NP.next (NP.block (NP.next (NP.next (NP.left (by simp) (NP.block (NP.next NP.body))))))) rfl rfl rfl (fun w' => yl_move rfl) hS14 (fun hS15 => ?_)
      obtain ⟨x, hy16, hm⟩ := sp_bind hm
      refine GH.yl (i := 2) (listed' := #[true, true, true, false, false, false, false]) rfl (by kernel_rfl) rfl (NP.next (NP.block (NP.next (NP.next (NP.left (by simp) (NP.block (NP.next NP.body))))))) rfl rfl rfl (fun w' => yl_ixP (l := l) sl76 rfl rfl (View.isA (E := el_G_signpostref08_Contact) (hv_l.at_ h12) (by decide) (at?_lt hy16)) rfl (at?_lt hy16)) hS15 (fun hS17 => ?_)
      refine GH.yl (i := 3) (listed' := #[true, true, true, true, false, false, false]) rfl (by kernel_rfl) rfl (NP.next (NP.block (NP.next (NP.next (NP.left (by simp) (NP.block (NP.next NP.body))))))) rfl rfl rfl (fun w' => yl_fieldAddr fo66_0 rfl) hS17 (fun hS18 => ?_)
      refine GH.yr (i := 4) (listed' := #[true, true, true, true, true, false, false]) rfl (by kernel_rfl) rfl rfl (NP.next (NP.block (NP.next (NP.next (NP.left (by simp) (NP.block (NP.next NP.body))))))) rfl rfl rfl (fun w' hw' => yl_ldG0 (E := el_G_signpostref08_Contact) (vs := (bytesV (List.ofFn (n := 20) x.ID))) ag63 sz63 rfl (hw'.1) (at?_some hy16).2 (by simp [bytesV_length]) (by kernel_rfl)) hS18 (fun hS19 => ?_)
      refine GH.yr (i := 5) (listed' := #[true, true, true, true, true, true, false]) rfl (by kernel_rfl) rfl rfl (NP.next (NP.block (NP.next (NP.next (NP.left (by simp) (NP.block (NP.next NP.body))))))) rfl rfl rfl (fun w' hw' => yl_loadN (vs := (bytesV (List.ofFn (n := 20) id))) ag63 sz63 (by simp [bytesV_length]) rfl (hw'.2)) hS19 (fun hS20 => ?_)
      refine GH.yl (i := 6) (listed' := #[true, true, true, true, true, true, true]) rfl (by kernel_rfl) rfl (NP.next (NP.block (NP.next (NP.next (NP.left (by simp) (NP.block (NP.next NP.body))))))) rfl rfl rfl (fun w' => yl_eq_agg (r := decide (x.ID = id)) (vs := (bytesV (List.ofFn x.ID))) (us := (bytesV (List.ofFn id))) rfl rfl (by rw [decide_eq_true_eq]; exact arr_inj) eqT63.1 eqT63.2.1 eqT63.2.2.1 eqT63.2.2.2.1 eqT63.2.2.2.2 (fits_span _) (fits_span _)) hS20 (fun hS21 => ?_)
      refine GH.done (by kernel_rfl) ?_
      refine QA.then_normal ?_
      rcases sp_ite hm with ⟨hc22, hm⟩ | ⟨hc22, hm⟩
      · refine C.cond_t rfl (dec_t hc22) ?_
        refine C.seq ?_
        refine C.region ?_
        refine G.yl (yl_move rfl) rfl rfl rfl ?_
        refine G.yl (yl_assign rfl) rfl rfl rfl ?_
        refine G.nil ?_
        refine QA.then_normal ?_
        refine C.ret ?_
        refine QA.block_ret ?_
        refine QA.then_ret ?_
        refine QA.then_ret ?_
        refine QA.past (by simp) ?_
        refine QA.block_ret ?_
        refine QA.then_ret ?_
        refine QA.ret1 rfl rfl ?_
        obtain rfl := sp_ret1 hm
        obtain rfl : .inr i = o := hg9
        have hm : some i = some r1 := hm5
        obtain rfl := sp_ret1 hm
        exact ⟨rfl, (Sat.pick [] h12)⟩
      · refine C.cond_f rfl (dec_f hc22) ?_
        refine C.skip ?_
        refine QA.block_normal ?_
        refine QA.then_normal ?_
        refine C.region ?_
        refine G.yl (yl_move rfl) rfl rfl rfl ?_
        obtain ⟨hc23, hm⟩ := sp_chk hm
        refine G.yl (yl_addI rfl rfl hc23) rfl rfl rfl ?_
        refine G.yl (yl_assign rfl) rfl rfl rfl ?_
        refine G.nil ?_
        obtain rfl := sp_ret1 hm
        exact QA.againO (i + 1) hg9 (Sub.of ⟨rfl, rfl, rfl, rfl, trivial⟩) (Sat.pick [0] h12)
    · refine C.cond_f rfl (dec_f hc10) ?_
      refine C.exit ?_
      refine QA.then_exit ?_
      refine QA.then_exit ?_
      obtain rfl := sp_ret1 hm
      exact QA.left () (Sub.of ⟨rfl, trivial⟩) ⟨hg9, (Sat.pick [] h7)⟩
  · rintro _ w24 ⟨rfl, h25⟩
    have hm := hm5
    show QA _ _ [(4, (vI 0))] _ _
    refine QA.block_here ?_
    refine QA.then_normal ?_
    refine C.seq ?_
    refine C.region ?_
    refine G.yl (yl_assign rfl) rfl rfl rfl ?_
    refine G.nil ?_
    refine QA.then_normal ?_
    refine C.ret ?_
    refine QA.ret1 rfl rfl ?_
    obtain rfl := sp_ret1 hm
    exact ⟨rfl, (Sat.pick [] h25)⟩
set_option maxRecDepth 20000 in
theorem M_signpostref08_GoodList_v_w {W : Base} {w : World} {a : Option Addr} {c : Nat} {l : List G_signpostref08_Contact} (hv_l : V W a (el_G_signpostref08_Contact.row l)) (hq_l : l.length ≤ c) (h : Sat W w []) {r1 : Bool} (hm : M_signpostref08_GoodList_v l = some r1) :
    Calls Try.prog 45 #[(.slice a l.length c)] w (Ret fun v w' => v = (.bool r1) ∧ Sat W w' []) := by
  unfold M_signpostref08_GoodList_v at hm
  refine C.enter (N := 30) Try.func45 rfl Try.ntmps45 rfl ?_
  show C _ _ _ [(0, (.slice a l.length c))] _ _
  refine C.seq ?_
  refine C.region ?_
  refine G.yl (yl_assign rfl) rfl rfl rfl ?_
  refine G.nil ?_
  refine QA.then_normal ?_
  refine C.seq ?_
  refine C.seq ?_
  refine C.region ?_
  refine G.yl (yl_assign rfl) rfl rfl rfl ?_
  refine G.nil ?_
  refine QA.then_normal ?_
  refine C.block ?_
  obtain ⟨o, ho1, hm2⟩ := sp_bind hm
  refine C.left (γ := Unit) (.exit 0) (fun g => match g with | () => [(0, (.slice a l.length c)), (2, (.bool false))]) (fun g ww => match g with | () => .inl () = o ∧ Sat W ww []) ?_ ?_
  · refine C.loopO (γ := Int) (fun g => match g with | i => [(0, (.slice a l.length c)), (2, (.bool false)), (3, (vI i))]) (fun g ww => match g with | i => Sat W ww []) (fun g => match g with | i => i) 0 ho1 (Sub.of ⟨rfl, rfl, rfl, trivial⟩) (Sat.pick [] h) ?_
    rintro i k5 w3 y_ h4 hm hg6
    show C _ _ _ [(0, (.slice a l.length c)), (2, (.bool false)), (3, (vI i))] _ _
    change M_signpostref08_GoodList_v_b1 l i = some y_ at hm
    unfold M_signpostref08_GoodList_v_b1 at hm
    refine C.seq ?_
    refine C.seq ?_
    refine C.region ?_
    refine G.yl (yl_move rfl) rfl rfl rfl ?_
    refine G.yl (yl_move rfl) rfl rfl rfl ?_
    refine G.yl (yl_lenE Try.underlying76 rfl) rfl rfl rfl ?_
    refine G.yl (yl_ltI rfl rfl) rfl rfl rfl ?_
    refine G.nil ?_
    refine QA.then_normal ?_
    rcases sp_ite hm with ⟨hc7, hm⟩ | ⟨hc7, hm⟩
    · refine C.cond_t rfl (dec_t hc7) ?_
      refine C.skip ?_
      refine QA.then_normal ?_
      refine C.seq ?_
      refine C.block ?_
      refine C.seq ?_
      refine C.region ?_
      refine G.yl (yl_move rfl) rfl rfl rfl ?_
      refine G.yl (yl_move rfl) rfl rfl rfl ?_
      obtain ⟨x, hy8, hm⟩ := sp_bind hm
      refine G.yl (yl_ixP (l := l) sl76 rfl rfl (View.isA (E := el_G_signpostref08_Contact) (hv_l.at_ h4) (by decide) (at?_lt hy8)) rfl (at?_lt hy8)) rfl rfl rfl ?_
      refine G.yl (yl_ldE (E := el_G_signpostref08_Contact) ag66 sz66 rfl (hv_l.at_ h4) (at?_some hy8).2) rfl rfl rfl ?_
      obtain ⟨r1_2, hy9, hm⟩ := sp_bind hm
      refine G.does (does_fn 0 rfl rfl rfl en57 h4 (fun U hU hp hr hs => M_signpostref08_Good_w (c := x) hp hy9)) rfl rfl rfl ?_
      rintro _ w10 ⟨U13, hb14, rfl, h12⟩
      have h11 : Sat W w10 [] := hb14 h12
      refine G.yl (yl_not rfl) rfl rfl rfl ?_
      refine G.yl (yl_move rfl) rfl rfl rfl ?_
      rcases sp_b hm with ⟨hc15, hm⟩ | ⟨hc15, hm⟩
      · refine G.on rfl rfl (not_f hc15) ?_
        refine G.yl (yl_move rfl) rfl rfl rfl ?_
        refine G.on rfl rfl (not_f hc15) ?_
        refine G.yl (yl_move rfl) rfl rfl rfl ?_
        refine G.on rfl rfl (not_f hc15) ?_
        refine G.yl (yl_move rfl) rfl rfl rfl ?_
        refine G.on rfl rfl (not_f hc15) ?_
        refine G.yl (yl_ixP (l := l) sl76 rfl rfl (View.isA (E := el_G_signpostref08_Contact) (hv_l.at_ h11) (by decide) (at?_lt hy8)) rfl (at?_lt hy8)) rfl rfl rfl ?_
        refine G.on rfl rfl (not_f hc15) ?_
        refine G.yl (yl_fieldAddr fo66_0 rfl) rfl rfl rfl ?_
        refine G.on rfl rfl (not_f hc15) ?_
        refine G.yl (yl_ldG0 (E := el_G_signpostref08_Contact) (vs := (bytesV (List.ofFn (n := 20) x.ID))) ag63 sz63 rfl (hv_l.at_ h11) (at?_some hy8).2 (by simp [bytesV_length]) (by kernel_rfl)) rfl rfl rfl ?_
        refine G.on rfl rfl (not_f hc15) ?_
        obtain ⟨r1_3, hy16, hm⟩ := sp_bind hm
        refine G.does (does_fn 0 rfl rfl rfl en63 h11 (fun U hU hp hr hs => M_signpostref08_Find_v_w (hs.v hv_l) hq_l hp hy16)) rfl rfl rfl ?_
        rintro _ w17 ⟨U20, hb21, rfl, h19⟩
        have h18 : Sat W w17 [] := hb21 h19
        refine G.on rfl rfl (not_f hc15) ?_
        refine G.yl (yl_move rfl) rfl rfl rfl ?_
        refine G.on rfl rfl (not_f hc15) ?_
        refine G.yl (yl_neI rfl rfl) rfl rfl rfl ?_
        refine G.yl (yl_pick_f rfl (not_f hc15) rfl) rfl rfl rfl ?_
        refine G.nil ?_
        refine QA.then_normal ?_
        rcases sp_ite hm with ⟨hc22, hm⟩ | ⟨hc22, hm⟩
        · refine C.cond_f rfl (not_f (dec_t hc22)) ?_
          refine C.skip ?_
          refine QA.block_normal ?_
          refine QA.then_normal ?_
          refine C.region ?_
          refine G.yl (yl_move rfl) rfl rfl rfl ?_
          obtain ⟨hc23, hm⟩ := sp_chk hm
          refine G.yl (yl_addI rfl rfl hc23) rfl rfl rfl ?_
          refine G.yl (yl_assign rfl) rfl rfl rfl ?_
          refine G.nil ?_
          obtain rfl := sp_ret1 hm
          exact QA.againO (i + 1) hg6 (Sub.of ⟨rfl, rfl, rfl, trivial⟩) (Sat.pick [] h18)
        · refine C.cond_t rfl (not_t (dec_f hc22)) ?_
          refine C.seq ?_
          refine C.region ?_
          refine G.yl (yl_assign rfl) rfl rfl rfl ?_
          refine G.nil ?_
          refine QA.then_normal ?_
          refine C.ret ?_
          refine QA.block_ret ?_
          refine QA.then_ret ?_
          refine QA.then_ret ?_
          refine QA.past (by simp) ?_
          refine QA.block_ret ?_
          refine QA.then_ret ?_
          refine QA.ret1 rfl rfl ?_
          obtain rfl := sp_ret1 hm
          obtain rfl : .inr false = o := hg6
          have hm : some false = some r1 := hm2
          obtain rfl := sp_ret1 hm
          exact ⟨rfl, (Sat.pick [] h18)⟩
      · refine G.offU rfl rfl (not_t hc15) rfl ?_
        refine G.offU rfl rfl (not_t hc15) rfl ?_
        refine G.offU rfl rfl (not_t hc15) rfl ?_
        refine G.offU rfl rfl (not_t hc15) rfl ?_
        refine G.offU rfl rfl (not_t hc15) rfl ?_
        refine G.offU rfl rfl (not_t hc15) rfl ?_
        refine G.offU rfl rfl (not_t hc15) rfl ?_
        refine G.offU rfl rfl (not_t hc15) rfl ?_
        refine G.offU rfl rfl (not_t hc15) rfl ?_
        refine G.yl (yl_pick_t rfl (not_t hc15) rfl) rfl rfl rfl ?_
        refine G.nil ?_
        refine QA.then_normal ?_
        refine C.cond_t rfl rfl ?_
        refine C.seq ?_
        refine C.region ?_
        refine G.yl (yl_assign rfl) rfl rfl rfl ?_
        refine G.nil ?_
        refine QA.then_normal ?_
        refine C.ret ?_
        refine QA.block_ret ?_
        refine QA.then_ret ?_
        refine QA.then_ret ?_
        refine QA.past (by simp) ?_
        refine QA.block_ret ?_
        refine QA.then_ret ?_
        refine QA.ret1 rfl rfl ?_
        obtain rfl := sp_ret1 hm
        obtain rfl : .inr false = o := hg6
        have hm : some false = some r1 := hm2
        obtain rfl := sp_ret1 hm
        exact ⟨rfl, (Sat.pick [] h11)⟩
    · refine C.cond_f rfl (dec_f hc7) ?_
      refine C.exit ?_
      refine QA.then_exit ?_
      refine QA.then_exit ?_
      obtain rfl := sp_ret1 hm
      exact QA.left () (Sub.of ⟨rfl, rfl, trivial⟩) ⟨hg6, (Sat.pick [] h4)⟩
  · rintro _ w24 ⟨rfl, h25⟩
    have hm := hm2
    show QA _ _ [(0, (.slice a l.length c)), (2, (.bool false))] _ _
    refine QA.block_here ?_
    refine QA.then_normal ?_
    refine C.seq ?_
    refine C.region ?_
    refine G.yl (yl_move rfl) rfl rfl rfl ?_
    refine G.yl (yl_lenE Try.underlying76 rfl) rfl rfl rfl ?_
    refine G.yl (yl_leI rfl rfl) rfl rfl rfl ?_
    refine G.yl (yl_assign rfl) rfl rfl rfl ?_
    refine G.nil ?_
    refine QA.then_normal ?_
    refine C.ret ?_
    refine QA.ret1 rfl rfl ?_
    obtain rfl := sp_ret1 hm
    exact ⟨rfl, (Sat.pick [] h25)⟩
end Go.Proofs.Ytaaahjcldomnbaa
