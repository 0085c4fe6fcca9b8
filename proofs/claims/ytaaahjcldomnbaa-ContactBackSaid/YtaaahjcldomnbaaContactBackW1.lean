/-
  That the functions of the program compute what their Lean functions say, part 1. No condition.
-/
import Derived.Test.YtaaahjcldomnbaaContactBackW0
namespace Go.Proofs.Ytaaahjcldomnbaa
open Go Go.RowKit
set_option linter.unusedVariables false
set_option linter.unusedSimpArgs false
set_option linter.unnecessarySimpa false
set_option maxRecDepth 20000 in
theorem M_signpostlaw08_lives_w {W : Base} {w : World}   (h : Sat W w []) {r1 : Bool} (hm : M_signpostlaw08_lives = some r1) :
    Calls Try.prog 31 #[] w (Ret fun v w' => v = (.bool r1) ∧ Sat W w' []) := by
  unfold M_signpostlaw08_lives at hm
  refine C.enter (N := 39) Try.func31 rfl Try.ntmps31 rfl ?_
  show C _ _ _ [] _ _
  refine C.seq ?_
  refine C.region ?_
  refine G.yl (yl_assign rfl) rfl rfl rfl ?_
  refine G.nil ?_
  refine QA.then_normal ?_
  refine C.seq ?_
  refine C.region ?_
  obtain ⟨⟨r3_2, r4_2⟩, hy1, hm⟩ := sp_bind hm
  refine G.does (does_fn 0 rfl rfl rfl en44 h (fun U hU hp hr hs => M_contact_List_v_w (l := ([] : List G_api_Contact)) (V.nil _ _) (Nat.zero_le _) hp hy1)) rfl rfl rfl ?_
  rintro _ w4 ⟨U7, hb8, r12, r23, rfl, h6⟩
  have h5 : Sat W w4 [ow elU8 r12 r23 5 r3_2] := hb8 h6
  refine G.yl (yl_move rfl) rfl rfl rfl ?_
  refine G.yl (yl_extract rfl rfl) rfl rfl rfl ?_
  refine G.yl (yl_extract rfl rfl) rfl rfl rfl ?_
  refine G.yl (yl_assign rfl) rfl rfl rfl ?_
  refine G.yl (yl_assign rfl) rfl rfl rfl ?_
  refine G.nil ?_
  refine QA.then_normal ?_
  refine C.seq ?_
  refine C.region ?_
  refine G.yl (yl_build (vs := [(.int .u32 1), (.int .u16 1)]) (cells := #[(.int .u32 1), (.int .u16 1)]) rfl (by kernel_rfl)) rfl rfl rfl ?_
  refine G.yl (yl_build (vs := [(.agg #[(.int .u32 1), (.int .u16 1)])]) (cells := (bytesV (List.ofFn (n := 20) (fun _ => 0)) ++ ([(.int .u32 1), (.int .u16 1)] : List Value)).toArray) rfl (by kernel_rfl)) rfl rfl rfl ?_
  refine G.does (does_alloc (cs := (bytesV (List.ofFn (n := 20) (fun _ => 0)) ++ ([(.int .u32 0), (.int .u16 0)] : List Value))) h5 z60 rfl) rfl rfl rfl ?_
  rintro _ w10 ⟨b9, rfl, h11⟩
  refine G.unit (does_store (vs := (bytesV (List.ofFn (n := 20) (fun _ => 0)) ++ ([(.int .u32 1), (.int .u16 1)] : List Value))) h11 sz60 rfl rfl rfl (by simp [bytesV_length]) (List.forall_mem_append.2 ⟨(bytesV_one _), (List.forall_mem_cons.2 ⟨rfl, (List.forall_mem_cons.2 ⟨rfl, (fun _ hh => by cases hh)⟩)⟩)⟩) (by simp [bytesV_length])) rfl rfl ?_
  rintro _ w12 h14
  have h13 : Sat W w12 [blk b9 (bytesV (List.ofFn (n := 20) (fun _ => 0)) ++ ([(.int .u32 1), (.int .u16 1)] : List Value)) 60, ow elU8 r12 r23 5 r3_2] := sl_blk (setN_all _ _ (by simp [bytesV_length])) h14
  refine G.nil ?_
  refine QA.then_normal ?_
  refine C.seq ?_
  refine C.region ?_
  refine G.yl (yl_loadN (vs := (bytesV (List.ofFn (n := 20) (fun _ => 0)) ++ ([(.int .u32 1), (.int .u16 1)] : List Value))) ag60 sz60 (by simp [bytesV_length]) rfl (h13.isBlk.view0)) rfl rfl rfl ?_
  obtain ⟨r3_3, hy15, hm⟩ := sp_bind hm
  refine G.does (does_fn 0 rfl rfl rfl en58 h13 (fun U hU hp hr hs => M_contact_Bytes_w (c := (G_api_Contact.mk (fun _ => 0) (G_api_Addr.mk 1 1))) hp hy15)) rfl rfl rfl ?_
  rintro _ w18 ⟨U21, hb22, r116, r217, rfl, h20⟩
  have h19 : Sat W w18 [ow elU8 r116 r217 5 r3_3, blk b9 (bytesV (List.ofFn (n := 20) (fun _ => 0)) ++ ([(.int .u32 1), (.int .u16 1)] : List Value)) 60, ow elU8 r12 r23 5 r3_2] := hb22 h20
  obtain ⟨⟨r1_2, r2_2⟩, hy23, hm⟩ := sp_bind hm
  refine G.does (does_fn 0 rfl rfl rfl en32 h19 (fun U hU hp hr hs => M_contact_Read_v_w (Rest.view hr) (Sat.own_cap h19).1 hp hy23)) rfl rfl rfl ?_
  rintro _ w24 ⟨U27, hb28, rfl, h26⟩
  have h25 : Sat W w24 [ow elU8 r116 r217 5 r3_3, blk b9 (bytesV (List.ofFn (n := 20) (fun _ => 0)) ++ ([(.int .u32 1), (.int .u16 1)] : List Value)) 60, ow elU8 r12 r23 5 r3_2] := hb28 h26
  refine G.yl (yl_move rfl) rfl rfl rfl ?_
  refine G.yl (yl_extract rfl rfl) rfl rfl rfl ?_
  refine G.yl (yl_extract rfl rfl) rfl rfl rfl ?_
  refine G.does (does_alloc (cs := (bytesV (List.ofFn (n := 20) (fun _ => 0)) ++ ([(.int .u32 0), (.int .u16 0)] : List Value))) h25 z60 rfl) rfl rfl rfl ?_
  rintro _ w30 ⟨b29, rfl, h31⟩
  refine G.unit (does_store (vs := (bytesV (List.ofFn (n := 20) r1_2.ID) ++ ([(v32 r1_2.Addr.Host), (v16 r1_2.Addr.Port)] : List Value))) h31 sz60 rfl rfl rfl (by simp [bytesV_length]) (List.forall_mem_append.2 ⟨(bytesV_one _), (List.forall_mem_cons.2 ⟨rfl, (List.forall_mem_cons.2 ⟨rfl, (fun _ hh => by cases hh)⟩)⟩)⟩) (by simp [bytesV_length])) rfl rfl ?_
  rintro _ w32 h34
  have h33 : Sat W w32 [blk b29 (bytesV (List.ofFn (n := 20) r1_2.ID) ++ ([(v32 r1_2.Addr.Host), (v16 r1_2.Addr.Port)] : List Value)) 60, ow elU8 r116 r217 5 r3_3, blk b9 (bytesV (List.ofFn (n := 20) (fun _ => 0)) ++ ([(.int .u32 1), (.int .u16 1)] : List Value)) 60, ow elU8 r12 r23 5 r3_2] := sl_blk (setN_all _ _ (by simp [bytesV_length])) h34
  refine G.yl (yl_assign rfl) rfl rfl rfl ?_
  refine G.nil ?_
  refine QA.then_normal ?_
  refine C.seq ?_
  refine C.region ?_
  refine G.yl (yl_move rfl) rfl rfl rfl ?_
  refine G.yl (yl_strE Try.underlying22 Try.underlying5 Try.underlying9 rfl rfl (Sat.own_view (Sat.pick [3] h33))) rfl rfl rfl ?_
  refine G.yl (yl_eqS rfl rfl) rfl rfl rfl ?_
  refine G.yl (yl_move rfl) rfl rfl rfl ?_
  rcases sp_ite hm with ⟨hc35, hm⟩ | ⟨hc35, hm⟩
  · refine G.on rfl rfl (dec_t hc35) ?_
    refine G.yl (yl_move rfl) rfl rfl rfl ?_
    refine G.on rfl rfl (dec_t hc35) ?_
    refine G.yl (yl_eqI rfl rfl) rfl rfl rfl ?_
    refine G.yl (yl_pick_t rfl (dec_t hc35) rfl) rfl rfl rfl ?_
    refine G.yl (yl_move rfl) rfl rfl rfl ?_
    rcases sp_ite hm with ⟨hc36, hm⟩ | ⟨hc36, hm⟩
    · refine G.on rfl rfl (dec_t hc36) ?_
      refine G.yl (yl_loadN (vs := (bytesV (List.ofFn (n := 20) r1_2.ID) ++ ([(v32 r1_2.Addr.Host), (v16 r1_2.Addr.Port)] : List Value))) ag60 sz60 (by simp [bytesV_length]) rfl (h33.isBlk.view0)) rfl rfl rfl ?_
      refine G.on rfl rfl (dec_t hc36) ?_
      refine G.yl (yl_loadN (vs := (bytesV (List.ofFn (n := 20) (fun _ => 0)) ++ ([(.int .u32 1), (.int .u16 1)] : List Value))) ag60 sz60 (by simp [bytesV_length]) rfl ((Sat.pick [2] h33).isBlk.view0)) rfl rfl rfl ?_
      refine G.on rfl rfl (dec_t hc36) ?_
      refine G.yl (yl_eq_agg (r := decide (r1_2 = (G_api_Contact.mk (fun _ => 0) (G_api_Addr.mk 1 1)))) (vs := (el_G_api_Contact.f r1_2)) (us := (el_G_api_Contact.f (G_api_Contact.mk (fun _ => 0) (G_api_Addr.mk 1 1)))) rfl rfl (by rw [decide_eq_true_eq]; exact G_api_Contact_inj) eqT60.1 eqT60.2.1 eqT60.2.2.1 eqT60.2.2.2.1 eqT60.2.2.2.2 (G_api_Contact_fits r1_2) (G_api_Contact_fits (G_api_Contact.mk (fun _ => 0) (G_api_Addr.mk 1 1)))) rfl rfl rfl ?_
      refine G.yl (yl_pick_t rfl (dec_t hc36) rfl) rfl rfl rfl ?_
      refine G.yl (yl_move rfl) rfl rfl rfl ?_
      rcases sp_ite hm with ⟨hc37, hm⟩ | ⟨hc37, hm⟩
      · refine G.on rfl rfl (dec_t hc37) ?_
        refine G.yl (yl_move rfl) rfl rfl rfl ?_
        refine G.on rfl rfl (dec_t hc37) ?_
        refine G.yl (yl_eqI rfl rfl) rfl rfl rfl ?_
        refine G.yl (yl_pick_t rfl (dec_t hc37) rfl) rfl rfl rfl ?_
        refine G.yl (yl_move rfl) rfl rfl rfl ?_
        rcases sp_ite hm with ⟨hc38, hm⟩ | ⟨hc38, hm⟩
        · refine G.on rfl rfl (dec_t hc38) ?_
          refine G.yl (yl_build (vs := []) (cells := (bytesV (List.ofFn (n := 20) (fun _ => 0))).toArray) rfl (by kernel_rfl)) rfl rfl rfl ?_
          refine G.on rfl rfl (dec_t hc38) ?_
          obtain ⟨r1_3, hy39, hm⟩ := sp_bind hm
          refine G.does (does_fn 0 rfl rfl rfl en62 h33 (fun U hU hp hr hs => M_contact_Find_v_w (l := ([] : List G_api_Contact)) (V.nil _ _) (Nat.zero_le _) hp hy39)) rfl rfl rfl ?_
          rintro _ w40 ⟨U43, hb44, rfl, h42⟩
          have h41 : Sat W w40 [blk b29 (bytesV (List.ofFn (n := 20) r1_2.ID) ++ ([(v32 r1_2.Addr.Host), (v16 r1_2.Addr.Port)] : List Value)) 60, ow elU8 r116 r217 5 r3_3, blk b9 (bytesV (List.ofFn (n := 20) (fun _ => 0)) ++ ([(.int .u32 1), (.int .u16 1)] : List Value)) 60, ow elU8 r12 r23 5 r3_2] := hb44 h42
          refine G.on rfl rfl (dec_t hc38) ?_
          refine G.yl (yl_eqI rfl rfl) rfl rfl rfl ?_
          refine G.yl (yl_pick_t rfl (dec_t hc38) rfl) rfl rfl rfl ?_
          refine G.yl (yl_assign rfl) rfl rfl rfl ?_
          refine G.nil ?_
          refine QA.then_normal ?_
          refine C.ret ?_
          refine QA.ret1 rfl rfl ?_
          obtain rfl := sp_ret1 hm
          exact ⟨rfl, (Sat.pick [] h41)⟩
        · refine G.offU rfl rfl (dec_f hc38) rfl ?_
          refine G.offU rfl rfl (dec_f hc38) rfl ?_
          refine G.offU rfl rfl (dec_f hc38) rfl ?_
          refine G.yl (yl_pick_f rfl (dec_f hc38) rfl) rfl rfl rfl ?_
          refine G.yl (yl_assign rfl) rfl rfl rfl ?_
          refine G.nil ?_
          refine QA.then_normal ?_
          refine C.ret ?_
          refine QA.ret1 rfl rfl ?_
          obtain rfl := sp_ret1 hm
          exact ⟨rfl, (Sat.pick [] h33)⟩
      · refine G.offU rfl rfl (dec_f hc37) rfl ?_
        refine G.offU rfl rfl (dec_f hc37) rfl ?_
        refine G.yl (yl_pick_f rfl (dec_f hc37) rfl) rfl rfl rfl ?_
        refine G.yl (yl_move rfl) rfl rfl rfl ?_
        refine G.offU rfl rfl rfl rfl ?_
        refine G.offU rfl rfl rfl rfl ?_
        refine G.offU rfl rfl rfl rfl ?_
        refine G.yl (yl_pick_f rfl rfl rfl) rfl rfl rfl ?_
        refine G.yl (yl_assign rfl) rfl rfl rfl ?_
        refine G.nil ?_
        refine QA.then_normal ?_
        refine C.ret ?_
        refine QA.ret1 rfl rfl ?_
        obtain rfl := sp_ret1 hm
        exact ⟨rfl, (Sat.pick [] h33)⟩
    · refine G.offU rfl rfl (dec_f hc36) rfl ?_
      refine G.offU rfl rfl (dec_f hc36) rfl ?_
      refine G.offU rfl rfl (dec_f hc36) rfl ?_
      refine G.yl (yl_pick_f rfl (dec_f hc36) rfl) rfl rfl rfl ?_
      refine G.yl (yl_move rfl) rfl rfl rfl ?_
      refine G.offU rfl rfl rfl rfl ?_
      refine G.offU rfl rfl rfl rfl ?_
      refine G.yl (yl_pick_f rfl rfl rfl) rfl rfl rfl ?_
      refine G.yl (yl_move rfl) rfl rfl rfl ?_
      refine G.offU rfl rfl rfl rfl ?_
      refine G.offU rfl rfl rfl rfl ?_
      refine G.offU rfl rfl rfl rfl ?_
      refine G.yl (yl_pick_f rfl rfl rfl) rfl rfl rfl ?_
      refine G.yl (yl_assign rfl) rfl rfl rfl ?_
      refine G.nil ?_
      refine QA.then_normal ?_
      refine C.ret ?_
      refine QA.ret1 rfl rfl ?_
      obtain rfl := sp_ret1 hm
      exact ⟨rfl, (Sat.pick [] h33)⟩
  · refine G.offU rfl rfl (dec_f hc35) rfl ?_
    refine G.offU rfl rfl (dec_f hc35) rfl ?_
    refine G.yl (yl_pick_f rfl (dec_f hc35) rfl) rfl rfl rfl ?_
    refine G.yl (yl_move rfl) rfl rfl rfl ?_
    refine G.offU rfl rfl rfl rfl ?_
    refine G.offU rfl rfl rfl rfl ?_
    refine G.offU rfl rfl rfl rfl ?_
    refine G.yl (yl_pick_f rfl rfl rfl) rfl rfl rfl ?_
    refine G.yl (yl_move rfl) rfl rfl rfl ?_
    refine G.offU rfl rfl rfl rfl ?_
    refine G.offU rfl rfl rfl rfl ?_
    refine G.yl (yl_pick_f rfl rfl rfl) rfl rfl rfl ?_
    refine G.yl (yl_move rfl) rfl rfl rfl ?_
    refine G.offU rfl rfl rfl rfl ?_
    refine G.offU rfl rfl rfl rfl ?_
    refine G.offU rfl rfl rfl rfl ?_
    refine G.yl (yl_pick_f rfl rfl rfl) rfl rfl rfl ?_
    refine G.yl (yl_assign rfl) rfl rfl rfl ?_
    refine G.nil ?_
    refine QA.then_normal ?_
    refine C.ret ?_
    refine QA.ret1 rfl rfl ?_
    obtain rfl := sp_ret1 hm
    exact ⟨rfl, (Sat.pick [] h33)⟩
set_option maxRecDepth 20000 in
theorem M_signpostlaw08_One_w {W : Base} {w : World} {c : G_api_Contact}  (h : Sat W w [])  (hm : M_signpostlaw08_One c = some ()) :
    Calls Try.prog 39 #[(.agg (bytesV (List.ofFn (n := 20) c.ID) ++ ([(v32 c.Addr.Host), (v16 c.Addr.Port)] : List Value)).toArray)] w (Ret fun v w' => v = (.agg (bytesV (List.ofFn (n := 20) c.ID) ++ ([(v32 c.Addr.Host), (v16 c.Addr.Port)] : List Value)).toArray) ∧ Sat W w' []) := by
  unfold M_signpostlaw08_One at hm
  refine C.enter (N := 8) Try.func39 rfl Try.ntmps39 rfl ?_
  show C _ _ _ [(0, (.agg (bytesV (List.ofFn (n := 20) c.ID) ++ ([(v32 c.Addr.Host), (v16 c.Addr.Port)] : List Value)).toArray))] _ _
  refine C.seq ?_
  refine C.region ?_
  refine G.does (does_box (cs := (bytesV (List.ofFn (n := 20) c.ID) ++ ([(v32 c.Addr.Host), (v16 c.Addr.Port)] : List Value))) h rfl rfl) rfl rfl rfl ?_
  rintro _ w2 ⟨b1, rfl, h3⟩
  refine G.does (does_alloc (cs := (bytesV (List.ofFn (n := 20) (fun _ => 0)) ++ ([(.int .u32 0), (.int .u16 0)] : List Value))) h3 z66 rfl) rfl rfl rfl ?_
  rintro _ w5 ⟨b4, rfl, h6⟩
  refine G.nil ?_
  refine QA.then_normal ?_
  refine C.seq ?_
  refine C.region ?_
  refine G.yl (yl_fieldAddr fo60_0 rfl) rfl rfl rfl ?_
  refine G.yl (yl_loadN (vs := (bytesV (List.ofFn (n := 20) c.ID))) ag55 sz55 (by simp [bytesV_length]) rfl (View.span_head (Sat.pick [1] h6).isBlk.view0)) rfl rfl rfl ?_
  refine G.yl (yl_fieldAddr fo60_1 rfl) rfl rfl rfl ?_
  refine G.yl (yl_loadN (vs := [(v32 c.Addr.Host), (v16 c.Addr.Port)]) ag58 sz58 (by simp [bytesV_length]) rfl (View.span_tail (Sat.pick [1] h6).isBlk.view0)) rfl rfl rfl ?_
  refine G.yl (yl_build (vs := [(.agg (bytesV (List.ofFn (n := 20) c.ID)).toArray), (.agg #[(v32 c.Addr.Host), (v16 c.Addr.Port)])]) (cells := (bytesV (List.ofFn (n := 20) c.ID) ++ ([(v32 c.Addr.Host), (v16 c.Addr.Port)] : List Value)).toArray) rfl (by kernel_rfl)) rfl rfl rfl ?_
  refine G.unit (does_store (vs := (bytesV (List.ofFn (n := 20) c.ID) ++ ([(v32 c.Addr.Host), (v16 c.Addr.Port)] : List Value))) h6 sz66 rfl rfl rfl (by simp [bytesV_length]) (List.forall_mem_append.2 ⟨(bytesV_one _), (List.forall_mem_cons.2 ⟨rfl, (List.forall_mem_cons.2 ⟨rfl, (fun _ hh => by cases hh)⟩)⟩)⟩) (by simp [bytesV_length])) rfl rfl ?_
  rintro _ w7 h9
  have h8 : Sat W w7 [blk b4 (bytesV (List.ofFn (n := 20) c.ID) ++ ([(v32 c.Addr.Host), (v16 c.Addr.Port)] : List Value)) 66, blk b1 (bytesV (List.ofFn (n := 20) c.ID) ++ ([(v32 c.Addr.Host), (v16 c.Addr.Port)] : List Value)) 60] := sl_blk (setN_all _ _ (by simp [bytesV_length])) h9
  refine G.nil ?_
  refine QA.then_normal ?_
  refine C.ret ?_
  refine QA.ret_c rfl (InCell.many (vs := (bytesV (List.ofFn (n := 20) c.ID) ++ ([(v32 c.Addr.Host), (v16 c.Addr.Port)] : List Value))) rfl ag66 sz66 (by simp [bytesV_length]) (h8.isBlk.view0)) ?_
  exact ⟨rfl, (Sat.pick [] h8)⟩
set_option maxRecDepth 20000 in
theorem M_signpostlaw08_Plain_v_w {W : Base} {w : World} {a : Option Addr} {c : Nat} {l : List G_api_Contact} (hv_l : V W a (el_G_api_Contact.row l)) (hq_l : l.length ≤ c) (h : Sat W w []) {r3 : List G_signpostref08_Contact} (hm : M_signpostlaw08_Plain_v l = some r3) :
    Calls Try.prog 46 #[(.slice a l.length c)] w (Ret fun v w' => ∃ r1 : Option Addr, ∃ r2 : Nat, v = (.slice r1 r3.length r2) ∧ Sat W w' [ow el_G_signpostref08_Contact r1 r2 66 r3]) := by
  unfold M_signpostlaw08_Plain_v at hm
  refine C.enter (N := 19) Try.func46 rfl Try.ntmps46 rfl ?_
  show C _ _ _ [(0, (.slice a l.length c))] _ _
  refine C.seq ?_
  refine C.region ?_
  refine G.yl (yl_assign rfl) rfl rfl rfl ?_
  refine G.nil ?_
  refine QA.then_normal ?_
  refine C.seq ?_
  refine C.region ?_
  refine G.yl (yl_assign rfl) rfl rfl rfl ?_
  refine G.nil ?_
  refine QA.then_normal ?_
  refine C.seq ?_
  refine C.seq ?_
  refine C.region ?_
  refine G.yl (yl_move rfl) rfl rfl rfl ?_
  refine G.yl (yl_lenE Try.underlying74 rfl) rfl rfl rfl ?_
  refine G.yl (yl_move rfl) rfl rfl rfl ?_
  refine G.nil ?_
  refine QA.then_normal ?_
  refine C.block ?_
  obtain ⟨o, ho1, hm2⟩ := sp_bind hm
  refine C.left (γ := Option Addr × Nat × List G_signpostref08_Contact) (.exit 0) (fun g => match g with | (a_3, c_3, out_2) => [(2, (.slice none 0 0)), (3, (.slice a_3 out_2.length c_3))]) (fun g ww => match g with | (a_3, c_3, out_2) => out_2 = o ∧ Sat W ww [ow el_G_signpostref08_Contact a_3 c_3 66 out_2]) ?_ ?_
  · refine C.loopO (γ := Option Addr × Nat × List G_signpostref08_Contact × Int) (fun g => match g with | (a_2, c_2, out, t8) => [(2, (.slice none 0 0)), (3, (.slice a_2 out.length c_2)), (6, (.slice a l.length c)), (7, (vI (l.length : Int))), (8, (vI t8))]) (fun g ww => match g with | (a_2, c_2, out, t8) => Sat W ww [ow el_G_signpostref08_Contact a_2 c_2 66 out]) (fun g => match g with | (a_2, c_2, out, t8) => (out, t8)) (none, 0, ([] : List G_signpostref08_Contact), 0) ho1 (Sub.of ⟨rfl, rfl, rfl, rfl, rfl, trivial⟩) (Sat.pick [0] (Sat.own_zero h el_G_signpostref08_Contact none 66)) ?_
    rintro ⟨a_2, c_2, out, t8⟩ k5 w3 y_ h4 hm hg6
    show C _ _ _ [(2, (.slice none 0 0)), (3, (.slice a_2 out.length c_2)), (6, (.slice a l.length c)), (7, (vI (l.length : Int))), (8, (vI t8))] _ _
    change M_signpostlaw08_Plain_v_b1 l out t8 = some y_ at hm
    unfold M_signpostlaw08_Plain_v_b1 at hm
    refine C.seq ?_
    refine C.region ?_
    refine G.yl (yl_ltI rfl rfl) rfl rfl rfl ?_
    refine G.nil ?_
    refine QA.then_normal ?_
    refine C.seq ?_
    rcases sp_ite hm with ⟨hc7, hm⟩ | ⟨hc7, hm⟩
    · refine C.cond_t rfl (dec_t hc7) ?_
      refine C.skip ?_
      refine QA.then_normal ?_
      refine C.seq ?_
      refine C.block ?_
      refine C.seq ?_
      refine C.region ?_
      obtain ⟨x, hy8, hm⟩ := sp_bind hm
      refine G.yl (yl_ixP (l := l) sl74 rfl rfl (View.isA (E := el_G_api_Contact) (hv_l.at_ h4) (by decide) (at?_lt hy8)) rfl (at?_lt hy8)) rfl rfl rfl ?_
      refine G.yl (yl_ldE (E := el_G_api_Contact) ag60 sz60 rfl (hv_l.at_ h4) (at?_some hy8).2) rfl rfl rfl ?_
      refine G.does (does_alloc (cs := (bytesV (List.ofFn (n := 20) (fun _ => 0)) ++ ([(.int .u32 0), (.int .u16 0)] : List Value))) h4 z60 rfl) rfl rfl rfl ?_
      rintro _ w10 ⟨b9, rfl, h11⟩
      refine G.unit (does_store (vs := (bytesV (List.ofFn (n := 20) x.ID) ++ ([(v32 x.Addr.Host), (v16 x.Addr.Port)] : List Value))) h11 sz60 rfl rfl rfl (by simp [bytesV_length]) (List.forall_mem_append.2 ⟨(bytesV_one _), (List.forall_mem_cons.2 ⟨rfl, (List.forall_mem_cons.2 ⟨rfl, (fun _ hh => by cases hh)⟩)⟩)⟩) (by simp [bytesV_length])) rfl rfl ?_
      rintro _ w12 h14
      have h13 : Sat W w12 [blk b9 (bytesV (List.ofFn (n := 20) x.ID) ++ ([(v32 x.Addr.Host), (v16 x.Addr.Port)] : List Value)) 60, ow el_G_signpostref08_Contact a_2 c_2 66 out] := sl_blk (setN_all _ _ (by simp [bytesV_length])) h14
      refine G.nil ?_
      refine QA.then_normal ?_
      refine C.region ?_
      refine G.yl (yl_move rfl) rfl rfl rfl ?_
      refine G.yl (yl_loadN (vs := (bytesV (List.ofFn (n := 20) x.ID) ++ ([(v32 x.Addr.Host), (v16 x.Addr.Port)] : List Value))) ag60 sz60 (by simp [bytesV_length]) rfl (h13.isBlk.view0)) rfl rfl rfl ?_
      obtain ⟨_, hy15, hm⟩ := sp_bind hm
      refine G.does (does_fn 0 rfl rfl rfl en39 h13 (fun U hU hp hr hs => M_signpostlaw08_One_w (c := x) hp hy15)) rfl rfl rfl ?_
      rintro _ w16 ⟨U19, hb20, rfl, h18⟩
      have h17 : Sat W w16 [blk b9 (bytesV (List.ofFn (n := 20) x.ID) ++ ([(v32 x.Addr.Host), (v16 x.Addr.Port)] : List Value)) 60, ow el_G_signpostref08_Contact a_2 c_2 66 out] := hb20 h18
      refine G.does (does_lit (E := el_G_signpostref08_Contact) (l := [(G_signpostref08_Contact.mk x.ID (G_signpostref06_Addr.mk x.Addr.Host x.Addr.Port))]) (vs := [(.agg (bytesV (List.ofFn (n := 20) x.ID) ++ ([(v32 x.Addr.Host), (v16 x.Addr.Port)] : List Value)).toArray)]) (cs := (bytesV (List.ofFn (n := 20) x.ID) ++ ([(v32 x.Addr.Host), (v16 x.Addr.Port)] : List Value))) (e := 66) h17 rfl (by kernel_rfl) rfl rfl (by decide)) rfl rfl rfl ?_
      rintro _ w22 ⟨a21, rfl, h23⟩
      obtain ⟨hc24, hm⟩ := sp_chk hm
      refine G.does (does_app (E := el_G_signpostref08_Contact) (l := out) (l2 := [(G_signpostref08_Contact.mk x.ID (G_signpostref06_Addr.mk x.Addr.Host x.Addr.Port))]) Try.underlying76 el66 (Sat.pick [2, 0, 0] h23) rfl rfl rfl rfl (by decide) (Sat.own_view h23) hc24 (by decide)) rfl rfl rfl ?_
      rintro _ w27 ⟨a25, c26, rfl, h28⟩
      refine G.yl (yl_assign rfl) rfl rfl rfl ?_
      refine G.nil ?_
      refine QA.block_normal ?_
      refine QA.then_normal ?_
      refine C.region ?_
      obtain ⟨hc29, hm⟩ := sp_chk hm
      refine G.yl (yl_addI rfl rfl hc29) rfl rfl rfl ?_
      refine G.yl (yl_move rfl) rfl rfl rfl ?_
      refine G.nil ?_
      obtain rfl := sp_ret1 hm
      exact QA.againO (a25, c26, out ++ [(G_signpostref08_Contact.mk x.ID (G_signpostref06_Addr.mk x.Addr.Host x.Addr.Port))], t8 + 1) hg6 (Sub.of ⟨rfl, rfl, rfl, rfl, rfl, trivial⟩) (Sat.pick [0] h28)
    · refine C.cond_f rfl (dec_f hc7) ?_
      refine C.exit ?_
      refine QA.then_exit ?_
      refine QA.then_exit ?_
      obtain rfl := sp_ret1 hm
      exact QA.left (a_2, c_2, out) (Sub.of ⟨rfl, rfl, trivial⟩) ⟨hg6, (Sat.pick [0] h4)⟩
  · rintro ⟨a_3, c_3, out_2⟩ w30 ⟨rfl, h31⟩
    have hm := hm2
    show QA _ _ [(2, (.slice none 0 0)), (3, (.slice a_3 out_2.length c_3))] _ _
    refine QA.block_here ?_
    refine QA.then_normal ?_
    refine C.seq ?_
    refine C.region ?_
    refine G.yl (yl_move rfl) rfl rfl rfl ?_
    refine G.yl (yl_assign rfl) rfl rfl rfl ?_
    refine G.nil ?_
    refine QA.then_normal ?_
    refine C.ret ?_
    refine QA.ret1 rfl rfl ?_
    obtain rfl := sp_ret1 hm
    exact ⟨a_3, c_3, rfl, (Sat.pick [0] h31)⟩
set_option maxRecDepth 20000 in
theorem M_signpostref06_Good_w {W : Base} {w : World} {a : G_signpostref06_Addr}  (h : Sat W w []) {r1 : Bool} (hm : M_signpostref06_Good a = some r1) :
    Calls Try.prog 92 #[(.agg #[(v32 a.Host), (v16 a.Port)])] w (Ret fun v w' => v = (.bool r1) ∧ Sat W w' []) := by
  unfold M_signpostref06_Good at hm
  refine C.enter (N := 11) Try.func92 rfl Try.ntmps92 rfl ?_
  show C _ _ _ [(0, (.agg #[(v32 a.Host), (v16 a.Port)]))] _ _
  refine C.seq ?_
  refine C.region ?_
  refine G.does (does_box (cs := [(v32 a.Host), (v16 a.Port)]) h rfl rfl) rfl rfl rfl ?_
  rintro _ w2 ⟨b1, rfl, h3⟩
  refine G.yl (yl_assign rfl) rfl rfl rfl ?_
  refine G.nil ?_
  refine QA.then_normal ?_
  refine C.seq ?_
  refine C.region ?_
  refine G.yl (yl_fieldAddr fo64_0 rfl) rfl rfl rfl ?_
  refine G.yl (yl_load (v := (v32 a.Host)) ag41 rfl (View.at0 (j := 0) h3.isBlk.view0 rfl)) rfl rfl rfl ?_
  refine G.yl (yl_ne32 (b := 0) rfl rfl) rfl rfl rfl ?_
  refine G.yl (yl_move rfl) rfl rfl rfl ?_
  rcases sp_ite hm with ⟨hc4, hm⟩ | ⟨hc4, hm⟩
  · refine G.offU rfl rfl (not_f (dec_t hc4)) rfl ?_
    refine G.offU rfl rfl (not_f (dec_t hc4)) rfl ?_
    refine G.offU rfl rfl (not_f (dec_t hc4)) rfl ?_
    refine G.yl (yl_pick_f rfl (not_f (dec_t hc4)) rfl) rfl rfl rfl ?_
    refine G.yl (yl_assign rfl) rfl rfl rfl ?_
    refine G.nil ?_
    refine QA.then_normal ?_
    refine C.ret ?_
    refine QA.ret1 rfl rfl ?_
    obtain rfl := sp_ret1 hm
    exact ⟨rfl, (Sat.pick [] h3)⟩
  · refine G.on rfl rfl (not_t (dec_f hc4)) ?_
    refine G.yl (yl_fieldAddr fo64_1 rfl) rfl rfl rfl ?_
    refine G.on rfl rfl (not_t (dec_f hc4)) ?_
    refine G.yl (yl_load (v := (v16 a.Port)) ag56 rfl (View.at0 (j := 1) h3.isBlk.view0 rfl)) rfl rfl rfl ?_
    refine G.on rfl rfl (not_t (dec_f hc4)) ?_
    refine G.yl (yl_ne16 (b := 0) rfl rfl) rfl rfl rfl ?_
    refine G.yl (yl_pick_t rfl (not_t (dec_f hc4)) rfl) rfl rfl rfl ?_
    refine G.yl (yl_assign rfl) rfl rfl rfl ?_
    refine G.nil ?_
    refine QA.then_normal ?_
    refine C.ret ?_
    refine QA.ret1 rfl rfl ?_
    obtain rfl := sp_ret1 hm
    exact ⟨rfl, (Sat.pick [] h3)⟩
set_option maxRecDepth 20000 in
theorem M_signpostref08_Good_w {W : Base} {w : World} {c : G_signpostref08_Contact}  (h : Sat W w []) {r1 : Bool} (hm : M_signpostref08_Good c = some r1) :
    Calls Try.prog 57 #[(.agg (bytesV (List.ofFn (n := 20) c.ID) ++ ([(v32 c.Addr.Host), (v16 c.Addr.Port)] : List Value)).toArray)] w (Ret fun v w' => v = (.bool r1) ∧ Sat W w' []) := by
  unfold M_signpostref08_Good at hm
  refine C.enter (N := 6) Try.func57 rfl Try.ntmps57 rfl ?_
  show C _ _ _ [(0, (.agg (bytesV (List.ofFn (n := 20) c.ID) ++ ([(v32 c.Addr.Host), (v16 c.Addr.Port)] : List Value)).toArray))] _ _
  refine C.seq ?_
  refine C.region ?_
  refine G.does (does_box (cs := (bytesV (List.ofFn (n := 20) c.ID) ++ ([(v32 c.Addr.Host), (v16 c.Addr.Port)] : List Value))) h rfl rfl) rfl rfl rfl ?_
  rintro _ w2 ⟨b1, rfl, h3⟩
  refine G.yl (yl_assign rfl) rfl rfl rfl ?_
  refine G.nil ?_
  refine QA.then_normal ?_
  refine C.seq ?_
  refine C.region ?_
  refine G.yl (yl_fieldAddr fo66_1 rfl) rfl rfl rfl ?_
  refine G.yl (yl_loadN (vs := [(v32 c.Addr.Host), (v16 c.Addr.Port)]) ag64 sz64 (by simp [bytesV_length]) rfl (View.span_tail h3.isBlk.view0)) rfl rfl rfl ?_
  obtain ⟨r1_2, hy4, hm⟩ := sp_bind hm
  refine G.does (does_fn 0 rfl rfl rfl en92 h3 (fun U hU hp hr hs => M_signpostref06_Good_w (a := c.Addr) hp hy4)) rfl rfl rfl ?_
  rintro _ w5 ⟨U8, hb9, rfl, h7⟩
  have h6 : Sat W w5 [blk b1 (bytesV (List.ofFn (n := 20) c.ID) ++ ([(v32 c.Addr.Host), (v16 c.Addr.Port)] : List Value)) 66] := hb9 h7
  refine G.yl (yl_assign rfl) rfl rfl rfl ?_
  refine G.nil ?_
  refine QA.then_normal ?_
  refine C.ret ?_
  refine QA.ret1 rfl rfl ?_
  obtain rfl := sp_ret1 hm
  exact ⟨rfl, (Sat.pick [] h6)⟩
set_option maxRecDepth 20000 in
theorem M_signpostref08_Find_v_w {W : Base} {w : World} {a : Option Addr} {c : Nat} {l : List G_signpostref08_Contact} {id : Fin 20 → UInt8} (hv_l : V W a (el_G_signpostref08_Contact.row l)) (hq_l : l.length ≤ c) (h : Sat W w []) {r1 : Int} (hm : M_signpostref08_Find_v l id = some r1) :
    Calls Try.prog 63 #[(.slice a l.length c), (.agg (bytesV (List.ofFn (n := 20) id)).toArray)] w (Ret fun v w' => v = (vI r1) ∧ Sat W w' []) := by
  unfold M_signpostref08_Find_v at hm
  refine C.enter (N := 20) Try.func63 rfl Try.ntmps63 rfl ?_
  show C _ _ _ [(0, (.slice a l.length c)), (1, (.agg (bytesV (List.ofFn (n := 20) id)).toArray))] _ _
  refine C.seq ?_
  refine C.region ?_
  refine G.does (does_box (cs := (bytesV (List.ofFn (n := 20) id))) h rfl rfl) rfl rfl rfl ?_
  rintro _ w2 ⟨b1, rfl, h3⟩
  refine G.yl (yl_assign rfl) rfl rfl rfl ?_
  refine G.nil ?_
  refine QA.then_normal ?_
  refine C.seq ?_
  refine C.seq ?_
  refine C.region ?_
  refine G.yl (yl_assign rfl) rfl rfl rfl ?_
  refine G.nil ?_
  refine QA.then_normal ?_
  refine C.block ?_
  obtain ⟨o, ho4, hm5⟩ := sp_bind hm
  refine C.left (γ := Unit) (.exit 0) (fun g => match g with | () => [(4, (vI 0))]) (fun g ww => match g with | () => .inl () = o ∧ Sat W ww []) ?_ ?_
  · refine C.loopO (γ := Int) (fun g => match g with | i => [(0, (.slice a l.length c)), (3, (.pointer (some ⟨b1, 0, none⟩))), (4, (vI 0)), (5, (vI i))]) (fun g ww => match g with | i => Sat W ww [blk b1 (bytesV (List.ofFn (n := 20) id)) 63]) (fun g => match g with | i => i) 0 ho4 (Sub.of ⟨rfl, rfl, rfl, rfl, trivial⟩) (Sat.pick [0] h3) ?_
    rintro i k8 w6 y_ h7 hm hg9
    show C _ _ _ [(0, (.slice a l.length c)), (3, (.pointer (some ⟨b1, 0, none⟩))), (4, (vI 0)), (5, (vI i))] _ _
    change M_signpostref08_Find_v_b1 id l i = some y_ at hm
    unfold M_signpostref08_Find_v_b1 at hm
    refine C.seq ?_
    refine C.seq ?_
    refine C.region ?_
    refine G.yl (yl_move rfl) rfl rfl rfl ?_
    refine G.yl (yl_move rfl) rfl rfl rfl ?_
    refine G.yl (yl_lenE Try.underlying76 rfl) rfl rfl rfl ?_
    refine G.yl (yl_ltI rfl rfl) rfl rfl rfl ?_
    refine G.nil ?_
    refine QA.then_normal ?_
    rcases sp_ite hm with ⟨hc10, hm⟩ | ⟨hc10, hm⟩
    · refine C.cond_t rfl (dec_t hc10) ?_
      refine C.skip ?_
      refine QA.then_normal ?_
      refine C.seq ?_
      refine C.block ?_
      refine C.seq ?_
      refine C.draw (V := fun w' => View w' a (el_G_signpostref08_Contact.row l) ∧ View w' (some ⟨b1, 0, none⟩) (bytesV (List.ofFn (n := 20) id))) (nd := [4, 5]) (sp := []) (n := 7) rfl h7 rfl rfl ?_
      intro w11 h12
      have hS13 : Cls (fun w' => View w' a (el_G_signpostref08_Contact.row l) ∧ View w' (some ⟨b1, 0, none⟩) (bytesV (List.ofFn (n := 20) id))) [4, 5] [] #[false, false, false, false, false, false, false] w11 := Cls.keep (⟨(hv_l.at_ h12), h12.isBlk.view0⟩) (by kernel_rfl)
      refine GH.yl (i := 0) (listed' := #[true, false, false, false, false, false, false]) rfl (by kernel_rfl) rfl (NP.next (NP.block (NP.next (NP.next (NP.left (by simp) (NP.block (NP.next NP.body))))))) rfl rfl rfl (fun w' => yl_move rfl) hS13 (fun hS14 => ?_)
      refine GH.yl (i := 1) (listed' := #[true, true, false, false, false, false, false]) rfl (by kernel_rfl) rfl (NP.next (NP.block (NP.next (NP.next (NP.left (by simp) (NP.block (NP.next NP.body))))))) rfl rfl rfl (fun w' => yl_move rfl) hS14 (fun hS15 => ?_)
      obtain ⟨x, hy16, hm⟩ := sp_bind hm
      refine GH.yl (i := 2) (listed' := #[true, true, true, false, false, false, false]) rfl (by kernel_rfl) rfl (NP.next (NP.block (NP.next (NP.next (NP.left (by simp) (NP.block (NP.next NP.body))))))) rfl rfl rfl (fun w' => yl_ixP (l := l) sl76 rfl rfl (View.isA (E := el_G_signpostref08_Contact) (hv_l.at_ h12) (by decide) (at?_lt hy16)) rfl (at?_lt hy16)) hS15 (fun hS17 => ?_)
      refine GH.yl (i := 3) (listed' := #[true, true, true, true, false, false, false]) rfl (by kernel_rfl) rfl (NP.next (NP.block (NP.next (NP.next (NP.left (by simp) (NP.block (NP.next NP.body))))))) rfl rfl rfl (fun w' => yl_fieldAddr fo66_0 rfl) hS17 (fun hS18 => ?_)
      refine GH.yr (i := 4) (listed' := #[true, true, true, true, true, false, false]) rfl (by kernel_rfl) rfl rfl (NP.next (NP.block (NP.next (NP.next (NP.left (by simp) (NP.block (NP.next NP.body))))))) rfl rfl rfl (fun w' hw' => yl_ldG0 (E := el_G_signpostref08_Contact) (vs := (bytesV (List.ofFn (n := 20) x.ID))) ag63 sz63 rfl (hw'.1) (at?_some hy16).2 (by simp [bytesV_length]) (by kernel_rfl)) hS18 (fun hS19 => ?_)
      refine GH.yr (i := 5) (listed' := #[true, true, true, true, true, true, false]) rfl (by kernel_rfl) rfl rfl (NP.next (NP.block (NP.next (NP.next (NP.left (by simp) (NP.block (NP.next NP.body))))))) rfl rfl rfl (fun w' hw' => yl_loadN (vs := (bytesV (List.ofFn (n := 20) id))) ag63 sz63 (by simp [bytesV_length]) rfl (hw'.2)) hS19 (fun hS20 => ?_)
      refine GH.yl (i := 6) (listed' := #[true, true, true, true, true, true, true]) rfl (by kernel_rfl) rfl (NP.next (NP.block (NP.next (NP.next (NP.left (by simp) (NP.block (NP.next NP.body))))))) rfl rfl rfl (fun w' => yl_eq_agg (r := decide (x.ID = id)) (vs := (bytesV (List.ofFn x.ID))) (us := (bytesV (List.ofFn id))) rfl rfl (by rw [decide_eq_true_eq]; exact arr_inj) eqT63.1 eqT63.2.1 eqT63.2.2.1 eqT63.2.2.2.1 eqT63.2.2.2.2 (fits_span _) (fits_span _)) hS20 (fun hS21 => ?_)
      refine GH.done (by kernel_rfl) ?_
      refine QA.then_normal ?_
      rcases sp_ite hm with ⟨hc22, hm⟩ | ⟨hc22, hm⟩
      · refine C.cond_t rfl (dec_t hc22) ?_
        refine C.seq ?_
        refine C.region ?_
        refine G.yl (yl_move rfl) rfl rfl rfl ?_
        refine G.yl (yl_assign rfl) rfl rfl rfl ?_
        refine G.nil ?_
        refine QA.then_normal ?_
        refine C.ret ?_
        refine QA.block_ret ?_
        refine QA.then_ret ?_
        refine QA.then_ret ?_
        refine QA.past (by simp) ?_
        refine QA.block_ret ?_
        refine QA.then_ret ?_
        refine QA.ret1 rfl rfl ?_
        obtain rfl := sp_ret1 hm
        obtain rfl : .inr i = o := hg9
        have hm : some i = some r1 := hm5
        obtain rfl := sp_ret1 hm
        exact ⟨rfl, (Sat.pick [] h12)⟩
      · refine C.cond_f rfl (dec_f hc22) ?_
        refine C.skip ?_
        refine QA.block_normal ?_
        refine QA.then_normal ?_
        refine C.region ?_
        refine G.yl (yl_move rfl) rfl rfl rfl ?_
        obtain ⟨hc23, hm⟩ := sp_chk hm
        refine G.yl (yl_addI rfl rfl hc23) rfl rfl rfl ?_
        refine G.yl (yl_assign rfl) rfl rfl rfl ?_
        refine G.nil ?_
        obtain rfl := sp_ret1 hm
        exact QA.againO (i + 1) hg9 (Sub.of ⟨rfl, rfl, rfl, rfl, trivial⟩) (Sat.pick [0] h12)
    · refine C.cond_f rfl (dec_f hc10) ?_
      refine C.exit ?_
      refine QA.then_exit ?_
      refine QA.then_exit ?_
      obtain rfl := sp_ret1 hm
      exact QA.left () (Sub.of ⟨rfl, trivial⟩) ⟨hg9, (Sat.pick [] h7)⟩
  · rintro _ w24 ⟨rfl, h25⟩
    have hm := hm5
    show QA _ _ [(4, (vI 0))] _ _
    refine QA.block_here ?_
    refine QA.then_normal ?_
    refine C.seq ?_
    refine C.region ?_
    refine G.yl (yl_assign rfl) rfl rfl rfl ?_
    refine G.nil ?_
    refine QA.then_normal ?_
    refine C.ret ?_
    refine QA.ret1 rfl rfl ?_
    obtain rfl := sp_ret1 hm
    exact ⟨rfl, (Sat.pick [] h25)⟩
set_option maxRecDepth 20000 in
theorem M_signpostref08_GoodList_v_w {W : Base} {w : World} {a : Option Addr} {c : Nat} {l : List G_signpostref08_Contact} (hv_l : V W a (el_G_signpostref08_Contact.row l)) (hq_l : l.length ≤ c) (h : Sat W w []) {r1 : Bool} (hm : M_signpostref08_GoodList_v l = some r1) :
    Calls Try.prog 45 #[(.slice a l.length c)] w (Ret fun v w' => v = (.bool r1) ∧ Sat W w' []) := by
  unfold M_signpostref08_GoodList_v at hm
  refine C.enter (N := 30) Try.func45 rfl Try.ntmps45 rfl ?_
  show C _ _ _ [(0, (.slice a l.length c))] _ _
  refine C.seq ?_
  refine C.region ?_
  refine G.yl (yl_assign rfl) rfl rfl rfl ?_
  refine G.nil ?_
  refine QA.then_normal ?_
  refine C.seq ?_
  refine C.seq ?_
  refine C.region ?_
  refine G.yl (yl_assign rfl) rfl rfl rfl ?_
  refine G.nil ?_
  refine QA.then_normal ?_
  refine C.block ?_
  obtain ⟨o, ho1, hm2⟩ := sp_bind hm
  refine C.left (γ := Unit) (.exit 0) (fun g => match g with | () => [(0, (.slice a l.length c)), (2, (.bool false))]) (fun g ww => match g with | () => .inl () = o ∧ Sat W ww []) ?_ ?_
  · refine C.loopO (γ := Int) (fun g => match g with | i => [(0, (.slice a l.length c)), (2, (.bool false)), (3, (vI i))]) (fun g ww => match g with | i => Sat W ww []) (fun g => match g with | i => i) 0 ho1 (Sub.of ⟨rfl, rfl, rfl, trivial⟩) (Sat.pick [] h) ?_
    rintro i k5 w3 y_ h4 hm hg6
    show C _ _ _ [(0, (.slice a l.length c)), (2, (.bool false)), (3, (vI i))] _ _
    change M_signpostref08_GoodList_v_b1 l i = some y_ at hm
    unfold M_signpostref08_GoodList_v_b1 at hm
    refine C.seq ?_
    refine C.seq ?_
    refine C.region ?_
    refine G.yl (yl_move rfl) rfl rfl rfl ?_
    refine G.yl (yl_move rfl) rfl rfl rfl ?_
    refine G.yl (yl_lenE Try.underlying76 rfl) rfl rfl rfl ?_
    refine G.yl (yl_ltI rfl rfl) rfl rfl rfl ?_
    refine G.nil ?_
    refine QA.then_normal ?_
    rcases sp_ite hm with ⟨hc7, hm⟩ | ⟨hc7, hm⟩
    · refine C.cond_t rfl (dec_t hc7) ?_
      refine C.skip ?_
      refine QA.then_normal ?_
      refine C.seq ?_
      refine C.block ?_
      refine C.seq ?_
      refine C.region ?_
      refine G.yl (yl_move rfl) rfl rfl rfl ?_
      refine G.yl (yl_move rfl) rfl rfl rfl ?_
      obtain ⟨x, hy8, hm⟩ := sp_bind hm
      refine G.yl (yl_ixP (l := l) sl76 rfl rfl (View.isA (E := el_G_signpostref08_Contact) (hv_l.at_ h4) (by decide) (at?_lt hy8)) rfl (at?_lt hy8)) rfl rfl rfl ?_
      refine G.yl (yl_ldE (E := el_G_signpostref08_Contact) ag66 sz66 rfl (hv_l.at_ h4) (at?_some hy8).2) rfl rfl rfl ?_
      obtain ⟨r1_2, hy9, hm⟩ := sp_bind hm
      refine G.does (does_fn 0 rfl rfl rfl en57 h4 (fun U hU hp hr hs => M_signpostref08_Good_w (c := x) hp hy9)) rfl rfl rfl ?_
      rintro _ w10 ⟨U13, hb14, rfl, h12⟩
      have h11 : Sat W w10 [] := hb14 h12
      refine G.yl (yl_not rfl) rfl rfl rfl ?_
      refine G.yl (yl_move rfl) rfl rfl rfl ?_
      rcases sp_b hm with ⟨hc15, hm⟩ | ⟨hc15, hm⟩
      · refine G.on rfl rfl (not_f hc15) ?_
        refine G.yl (yl_move rfl) rfl rfl rfl ?_
        refine G.on rfl rfl (not_f hc15) ?_
        refine G.yl (yl_move rfl) rfl rfl rfl ?_
        refine G.on rfl rfl (not_f hc15) ?_
        refine G.yl (yl_move rfl) rfl rfl rfl ?_
        refine G.on rfl rfl (not_f hc15) ?_
        refine G.yl (yl_ixP (l := l) sl76 rfl rfl (View.isA (E := el_G_signpostref08_Contact) (hv_l.at_ h11) (by decide) (at?_lt hy8)) rfl (at?_lt hy8)) rfl rfl rfl ?_
        refine G.on rfl rfl (not_f hc15) ?_
        refine G.yl (yl_fieldAddr fo66_0 rfl) rfl rfl rfl ?_
        refine G.on rfl rfl (not_f hc15) ?_
        refine G.yl (yl_ldG0 (E := el_G_signpostref08_Contact) (vs := (bytesV (List.ofFn (n := 20) x.ID))) ag63 sz63 rfl (hv_l.at_ h11) (at?_some hy8).2 (by simp [bytesV_length]) (by kernel_rfl)) rfl rfl rfl ?_
        refine G.on rfl rfl (not_f hc15) ?_
        obtain ⟨r1_3, hy16, hm⟩ := sp_bind hm
        refine G.does (does_fn 0 rfl rfl rfl en63 h11 (fun U hU hp hr hs => M_signpostref08_Find_v_w (hs.v hv_l) hq_l hp hy16)) rfl rfl rfl ?_
        rintro _ w17 ⟨U20, hb21, rfl, h19⟩
        have h18 : Sat W w17 [] := hb21 h19
        refine G.on rfl rfl (not_f hc15) ?_
        refine G.yl (yl_move rfl) rfl rfl rfl ?_
        refine G.on rfl rfl (not_f hc15) ?_
        refine G.yl (yl_neI rfl rfl) rfl rfl rfl ?_
        refine G.yl (yl_pick_f rfl (not_f hc15) rfl) rfl rfl rfl ?_
        refine G.nil ?_
        refine QA.then_normal ?_
        rcases sp_ite hm with ⟨hc22, hm⟩ | ⟨hc22, hm⟩
        · refine C.cond_f rfl (not_f (dec_t hc22)) ?_
          refine C.skip ?_
          refine QA.block_normal ?_
          refine QA.then_normal ?_
          refine C.region ?_
          refine G.yl (yl_move rfl) rfl rfl rfl ?_
          obtain ⟨hc23, hm⟩ := sp_chk hm
          refine G.yl (yl_addI rfl rfl hc23) rfl rfl rfl ?_
          refine G.yl (yl_assign rfl) rfl rfl rfl ?_
          refine G.nil ?_
          obtain rfl := sp_ret1 hm
          exact QA.againO (i + 1) hg6 (Sub.of ⟨rfl, rfl, rfl, trivial⟩) (Sat.pick [] h18)
        · refine C.cond_t rfl (not_t (dec_f hc22)) ?_
          refine C.seq ?_
          refine C.region ?_
          refine G.yl (yl_assign rfl) rfl rfl rfl ?_
          refine G.nil ?_
          refine QA.then_normal ?_
          refine C.ret ?_
          refine QA.block_ret ?_
          refine QA.then_ret ?_
          refine QA.then_ret ?_
          refine QA.past (by simp) ?_
          refine QA.block_ret ?_
          refine QA.then_ret ?_
          refine QA.ret1 rfl rfl ?_
          obtain rfl := sp_ret1 hm
          obtain rfl : .inr false = o := hg6
          have hm : some false = some r1 := hm2
          obtain rfl := sp_ret1 hm
          exact ⟨rfl, (Sat.pick [] h18)⟩
      · refine G.offU rfl rfl (not_t hc15) rfl ?_
        refine G.offU rfl rfl (not_t hc15) rfl ?_
        refine G.offU rfl rfl (not_t hc15) rfl ?_
        refine G.offU rfl rfl (not_t hc15) rfl ?_
        refine G.offU rfl rfl (not_t hc15) rfl ?_
        refine G.offU rfl rfl (not_t hc15) rfl ?_
        refine G.offU rfl rfl (not_t hc15) rfl ?_
        refine G.offU rfl rfl (not_t hc15) rfl ?_
        refine G.offU rfl rfl (not_t hc15) rfl ?_
        refine G.yl (yl_pick_t rfl (not_t hc15) rfl) rfl rfl rfl ?_
        refine G.nil ?_
        refine QA.then_normal ?_
        refine C.cond_t rfl rfl ?_
        refine C.seq ?_
        refine C.region ?_
        refine G.yl (yl_assign rfl) rfl rfl rfl ?_
        refine G.nil ?_
        refine QA.then_normal ?_
        refine C.ret ?_
        refine QA.block_ret ?_
        refine QA.then_ret ?_
        refine QA.then_ret ?_
        refine QA.past (by simp) ?_
        refine QA.block_ret ?_
        refine QA.then_ret ?_
        refine QA.ret1 rfl rfl ?_
        obtain rfl := sp_ret1 hm
        obtain rfl : .inr false = o := hg6
        have hm : some false = some r1 := hm2
        obtain rfl := sp_ret1 hm
        exact ⟨rfl, (Sat.pick [] h11)⟩
    · refine C.cond_f rfl (dec_f hc7) ?_
      refine C.exit ?_
      refine QA.then_exit ?_
      refine QA.then_exit ?_
      obtain rfl := sp_ret1 hm
      exact QA.left () (Sub.of ⟨rfl, rfl, trivial⟩) ⟨hg6, (Sat.pick [] h4)⟩
  · rintro _ w24 ⟨rfl, h25⟩
    have hm := hm2
    show QA _ _ [(0, (.slice a l.length c)), (2, (.bool false))] _ _
    refine QA.block_here ?_
    refine QA.then_normal ?_
    refine C.seq ?_
    refine C.region ?_
    refine G.yl (yl_move rfl) rfl rfl rfl ?_
    refine G.yl (yl_lenE Try.underlying76 rfl) rfl rfl rfl ?_
    refine G.yl (yl_leI rfl rfl) rfl rfl rfl ?_
    refine G.yl (yl_assign rfl) rfl rfl rfl ?_
    refine G.nil ?_
    refine QA.then_normal ?_
    refine C.ret ?_
    refine QA.ret1 rfl rfl ?_
    obtain rfl := sp_ret1 hm
    exact ⟨rfl, (Sat.pick [] h25)⟩
set_option maxRecDepth 20000 in
theorem M_octet_Reader_Take_po_w {W : Base} {w : World} {b : Nat} {a : Option Addr} {c : Nat} {b2 : List UInt8} {open_ : Bool} {bad : Bool} {n : Int}  (h : Sat W w [blk b [(.slice a b2.length c), (.bool open_), (.bool bad)] 122, ow elU8 a c 5 b2]) {r3 : List UInt8} {r6 : List UInt8} {r7 : Bool} (hm : M_octet_Reader_Take_po b2 open_ bad n = some (r3, r6, r7)) :
    Calls Try.prog 35 #[(.pointer (some ⟨b, 0, none⟩)), (vI n)] w (Ret fun v w' => ∃ r1 : Option Addr, ∃ r2 : Nat, ∃ r4 : Option Addr, ∃ r5 : Nat, v = (.slice r1 r3.length r2) ∧ Sat W w' [ow elU8 r1 r2 5 r3, blk b [(.slice r4 r6.length r5), (.bool open_), (.bool r7)] 122, ow elU8 r4 r5 5 r6]) := by
  unfold M_octet_Reader_Take_po at hm
  refine C.enter (N := 22) Try.func35 rfl Try.ntmps35 rfl ?_
  show C _ _ _ [(0, (.pointer (some ⟨b, 0, none⟩))), (1, (vI n))] _ _
  refine C.seq ?_
  refine C.region ?_
  refine G.yl (yl_assign rfl) rfl rfl rfl ?_
  refine G.nil ?_
  refine QA.then_normal ?_
  refine C.seq ?_
  refine C.seq ?_
  refine C.region ?_
  refine G.yl (yl_move rfl) rfl rfl rfl ?_
  obtain ⟨_, hy1, hm⟩ := sp_bind hm
  refine G.does (does_fn 2 rfl rfl rfl en73 (Sat.pick [0, 0] h) (fun U hU hp hr hs => M_octet_Reader_none_po_w hp hy1)) rfl rfl rfl ?_
  rintro _ w2 ⟨U5, hb6, rfl, h4⟩
  have h3 : Sat W w2 [blk b [(.slice a b2.length c), (.bool open_), (.bool bad)] 122, ow elU8 a c 5 b2] := hb6 h4
  refine G.nil ?_
  refine QA.then_normal ?_
  rcases sp_b hm with ⟨hc7, hm⟩ | ⟨hc7, hm⟩
  · refine C.cond_f rfl (not_f hc7) ?_
    refine C.skip ?_
    refine QA.then_normal ?_
    refine C.seq ?_
    refine C.region ?_
    refine G.yl (yl_move rfl) rfl rfl rfl ?_
    refine G.yl (yl_nilCheck rfl) rfl rfl rfl ?_
    refine G.yl (yl_fieldAddr fo122_0 rfl) rfl rfl rfl ?_
    refine G.yl (yl_move rfl) rfl rfl rfl ?_
    obtain ⟨y_, hy8, hm⟩ := sp_bind hm
    rcases y_ with _ | _
    · refine G.does (does_fn 2 rfl rfl rfl en74 (Sat.pick [0, 0] h3) (fun U hU hp hr hs => M_octet_rest_cut_po_w hp hy8)) rfl rfl rfl ?_
      rintro _ w9 ⟨U12, hb13, rfl, h11⟩
      have h10 : Sat W w9 [blk b [(.slice none 0 0), (.bool open_), (.bool true)] 122] := hb13 h11
      refine G.yl (yl_move rfl) rfl rfl rfl ?_
      refine G.yl (yl_extract rfl rfl) rfl rfl rfl ?_
      refine G.yl (yl_extract rfl rfl) rfl rfl rfl ?_
      refine G.yl (yl_assign rfl) rfl rfl rfl ?_
      refine G.yl (yl_assign rfl) rfl rfl rfl ?_
      refine G.nil ?_
      refine QA.then_normal ?_
      refine C.seq ?_
      refine C.seq ?_
      refine C.region ?_
      refine G.yl (yl_move rfl) rfl rfl rfl ?_
      refine G.yl (yl_not rfl) rfl rfl rfl ?_
      refine G.nil ?_
      refine QA.then_normal ?_
      refine C.cond_t rfl (not_t rfl) ?_
      refine C.seq ?_
      refine C.region ?_
      refine G.yl (yl_assign rfl) rfl rfl rfl ?_
      refine G.nil ?_
      refine QA.then_normal ?_
      refine C.ret ?_
      refine QA.then_ret ?_
      refine QA.ret1 rfl rfl ?_
      obtain ⟨rfl, rfl, rfl⟩ := sp_ret3 hm
      exact ⟨none, 0, none, 0, rfl, (Sat.pick [0, 1, 0] (Sat.own_zero (Sat.own_zero h10 elU8 none 5) elU8 none 5))⟩
    · refine G.does (does_fn 2 rfl rfl rfl en74 (Sat.pick [0, 0] h3) (fun U hU hp hr hs => M_octet_rest_cut_po_w hp hy8)) rfl rfl rfl ?_
      rintro _ w16 ⟨U19, hb20, r114, rfl, hf15, h18⟩
      have h17 : Sat W w16 [ow elU8 a c 5 b2, blk b [(.slice r114 ((b2.drop n.toNat).length) (c - n.toNat)), (.bool open_), (.bool bad)] 122] := hb20 h18
      refine G.yl (yl_move rfl) rfl rfl rfl ?_
      refine G.yl (yl_extract rfl rfl) rfl rfl rfl ?_
      refine G.yl (yl_extract rfl rfl) rfl rfl rfl ?_
      refine G.yl (yl_assign rfl) rfl rfl rfl ?_
      refine G.yl (yl_assign rfl) rfl rfl rfl ?_
      refine G.nil ?_
      refine QA.then_normal ?_
      refine C.seq ?_
      refine C.seq ?_
      refine C.region ?_
      refine G.yl (yl_move rfl) rfl rfl rfl ?_
      refine G.yl (yl_not rfl) rfl rfl rfl ?_
      refine G.nil ?_
      refine QA.then_normal ?_
      refine C.cond_f rfl (not_f rfl) ?_
      refine C.skip ?_
      refine QA.then_normal ?_
      refine C.seq ?_
      refine C.region ?_
      refine G.does (does_lit (E := elU8) (l := ([] : List UInt8)) (vs := []) (cs := []) (e := 5) h17 rfl (by kernel_rfl) rfl rfl (by decide)) rfl rfl rfl ?_
      rintro _ w22 ⟨a21, rfl, h23⟩
      refine G.yl (yl_move rfl) rfl rfl rfl ?_
      obtain ⟨hc24, hm⟩ := sp_chk hm
      refine G.does (does_app (E := elU8) (l := ([] : List UInt8)) (l2 := b2.take n.toNat) Try.underlying22 el5 (Sat.own_zero h23 elU8 a21 5) rfl rfl rfl rfl (by decide) (View.rtake (Sat.own_view (Sat.pick [1] h23)) n.toNat) hc24 (by decide)) rfl rfl rfl ?_
      rintro _ w27 ⟨a25, c26, rfl, h28⟩
      refine G.yl (yl_assign rfl) rfl rfl rfl ?_
      refine G.nil ?_
      refine QA.then_normal ?_
      refine C.ret ?_
      refine QA.ret1 rfl rfl ?_
      have h29 : Sat W w27 [ow elU8 r114 (c - n.toNat) 5 (b2.drop n.toNat), ow elU8 a25 c26 5 (([] : List UInt8) ++ (b2.take n.toNat)), ow elU8 a21 0 5 ([] : List UInt8), blk b [(.slice r114 ((b2.drop n.toNat).length) (c - n.toNat)), (.bool open_), (.bool bad)] 122] := Sat.own_cut (Sat.pick [2, 0, 0, 0] h28) hf15
      obtain ⟨rfl, rfl, rfl⟩ := sp_ret3 hm
      exact ⟨a25, c26, r114, c - n.toNat, rfl, (Sat.pick [1, 2, 0] h29)⟩
  · refine C.cond_t rfl (not_t hc7) ?_
    refine C.seq ?_
    refine C.region ?_
    refine G.yl (yl_assign rfl) rfl rfl rfl ?_
    refine G.nil ?_
    refine QA.then_normal ?_
    refine C.ret ?_
    refine QA.then_ret ?_
    refine QA.ret1 rfl rfl ?_
    obtain ⟨rfl, rfl, rfl⟩ := sp_ret3 hm
    exact ⟨none, 0, a, c, rfl, (Sat.pick [0, 0, 0] (Sat.own_zero h3 elU8 none 5))⟩
set_option maxRecDepth 20000 in
theorem M_contact_ReadList_po_w {W : Base} {w : World} {b : Nat} {a : Option Addr} {c : Nat} {b2 : List UInt8} {open_ : Bool} {bad : Bool}  (h : Sat W w [blk b [(.slice a b2.length c), (.bool open_), (.bool bad)] 122, ow elU8 a c 5 b2]) {r3 : List G_api_Contact} {r6 : List UInt8} {r7 : Bool} (hm : M_contact_ReadList_po b2 open_ bad = some (r3, r6, r7)) :
    Calls Try.prog 37 #[(.pointer (some ⟨b, 0, none⟩))] w (Ret fun v w' => ∃ r1 : Option Addr, ∃ r2 : Nat, ∃ r4 : Option Addr, ∃ r5 : Nat, v = (.slice r1 r3.length r2) ∧ Sat W w' [ow el_G_api_Contact r1 r2 60 r3, blk b [(.slice r4 r6.length r5), (.bool open_), (.bool r7)] 122, ow elU8 r4 r5 5 r6]) := by
  unfold M_contact_ReadList_po at hm
  refine C.enter (N := 33) Try.func37 rfl Try.ntmps37 rfl ?_
  show C _ _ _ [(0, (.pointer (some ⟨b, 0, none⟩)))] _ _
  refine C.seq ?_
  refine C.region ?_
  refine G.yl (yl_assign rfl) rfl rfl rfl ?_
  refine G.nil ?_
  refine QA.then_normal ?_
  refine C.seq ?_
  refine C.region ?_
  refine G.yl (yl_move rfl) rfl rfl rfl ?_
  refine G.yl (yl_func rfl rfl) rfl rfl rfl ?_
  refine G.yl (yl_assign rfl) rfl rfl rfl ?_
  refine G.nil ?_
  refine QA.then_normal ?_
  refine C.seq ?_
  refine C.seq ?_
  refine C.region ?_
  refine G.yl (yl_move rfl) rfl rfl rfl ?_
  obtain ⟨⟨r1_2, r4_2, r5_2⟩, hy1, hm⟩ := sp_bind hm
  refine G.does (does_fn 2 rfl rfl rfl en76 (Sat.pick [0, 0] h) (fun U hU hp hr hs => M_octet_Reader_Num_po_w hp hy1)) rfl rfl rfl ?_
  rintro _ w4 ⟨U7, hb8, r22, r33, rfl, h6⟩
  have h5 : Sat W w4 [blk b [(.slice r22 r4_2.length r33), (.bool open_), (.bool r5_2)] 122, ow elU8 r22 r33 5 r4_2] := hb8 h6
  refine G.yl (yl_move rfl) rfl rfl rfl ?_
  refine G.nil ?_
  refine QA.then_normal ?_
  refine C.block ?_
  obtain ⟨o, ho9, hm10⟩ := sp_bind hm
  refine C.left (γ := Option Addr × Nat × List G_api_Contact × Option Addr × Nat × List UInt8 × Bool) (.exit 0) (fun g => match g with | (a_4, c_4, out_2, a_5, c_5, b_3, bad_3) => [(2, (.slice a_4 out_2.length c_4)), (3, (.func (.func 35) #[(.pointer (some ⟨b, 0, none⟩))] #[]))]) (fun g ww => match g with | (a_4, c_4, out_2, a_5, c_5, b_3, bad_3) => .inl (out_2, b_3, bad_3) = o ∧ Sat W ww [ow el_G_api_Contact a_4 c_4 60 out_2, blk b [(.slice a_5 b_3.length c_5), (.bool open_), (.bool bad_3)] 122, ow elU8 a_5 c_5 5 b_3]) ?_ ?_
  · refine C.loopO (γ := Option Addr × Nat × List G_api_Contact × Option Addr × Nat × List UInt8 × Bool × UInt64) (fun g => match g with | (a_2, c_2, out, a_3, c_3, b_2, bad_2, t10) => [(2, (.slice a_2 out.length c_2)), (3, (.func (.func 35) #[(.pointer (some ⟨b, 0, none⟩))] #[])), (9, (v64 r1_2)), (10, (v64 t10))]) (fun g ww => match g with | (a_2, c_2, out, a_3, c_3, b_2, bad_2, t10) => Sat W ww [ow el_G_api_Contact a_2 c_2 60 out, blk b [(.slice a_3 b_2.length c_3), (.bool open_), (.bool bad_2)] 122, ow elU8 a_3 c_3 5 b_2]) (fun g => match g with | (a_2, c_2, out, a_3, c_3, b_2, bad_2, t10) => (out, b_2, bad_2, t10)) (none, 0, ([] : List G_api_Contact), r22, r33, r4_2, r5_2, 0) ho9 (Sub.of ⟨rfl, rfl, rfl, rfl, trivial⟩) (Sat.pick [0, 0, 0] (Sat.own_zero h5 el_G_api_Contact none 60)) ?_
    rintro ⟨a_2, c_2, out, a_3, c_3, b_2, bad_2, t10⟩ k13 w11 y_ h12 hm hg14
    show C _ _ _ [(2, (.slice a_2 out.length c_2)), (3, (.func (.func 35) #[(.pointer (some ⟨b, 0, none⟩))] #[])), (9, (v64 r1_2)), (10, (v64 t10))] _ _
    change M_contact_ReadList_po_b1 open_ r1_2 out b_2 bad_2 t10 = some y_ at hm
    unfold M_contact_ReadList_po_b1 at hm
    refine C.seq ?_
    refine C.region ?_
    refine G.yl (yl_lt64 rfl rfl) rfl rfl rfl ?_
    refine G.nil ?_
    refine QA.then_normal ?_
    refine C.seq ?_
    rcases sp_ite hm with ⟨hc15, hm⟩ | ⟨hc15, hm⟩
    · refine C.cond_t rfl (dec_t hc15) ?_
      refine C.skip ?_
      refine QA.then_normal ?_
      refine C.seq ?_
      refine C.block ?_
      refine C.seq ?_
      refine C.region ?_
      refine G.yl (yl_move rfl) rfl rfl rfl ?_
      obtain ⟨⟨r3_2, r6_2, r7_2⟩, hy16, hm⟩ := sp_bind hm
      refine G.does (does_fn 2 rfl rfl rfl en35 (Sat.pick [1, 1, 0] h12) (fun U hU hp hr hs => M_octet_Reader_Take_po_w hp hy16)) rfl rfl rfl ?_
      rintro _ w21 ⟨U24, hb25, r117, r218, r419, r520, rfl, h23⟩
      have h22 : Sat W w21 [ow elU8 r117 r218 5 r3_2, blk b [(.slice r419 r6_2.length r520), (.bool open_), (.bool r7_2)] 122, ow elU8 r419 r520 5 r6_2, ow el_G_api_Contact a_2 c_2 60 out] := hb25 h23
      obtain ⟨⟨r1_3, r2_2⟩, hy26, hm⟩ := sp_bind hm
      refine G.does (does_fn 0 rfl rfl rfl en32 h22 (fun U hU hp hr hs => M_contact_Read_v_w (Rest.view hr) (Sat.own_cap h22).1 hp hy26)) rfl rfl rfl ?_
      rintro _ w27 ⟨U30, hb31, rfl, h29⟩
      have h28 : Sat W w27 [ow elU8 r117 r218 5 r3_2, blk b [(.slice r419 r6_2.length r520), (.bool open_), (.bool r7_2)] 122, ow elU8 r419 r520 5 r6_2, ow el_G_api_Contact a_2 c_2 60 out] := hb31 h29
      refine G.yl (yl_move rfl) rfl rfl rfl ?_
      refine G.yl (yl_extract rfl rfl) rfl rfl rfl ?_
      refine G.yl (yl_extract rfl rfl) rfl rfl rfl ?_
      refine G.does (does_alloc (cs := (bytesV (List.ofFn (n := 20) (fun _ => 0)) ++ ([(.int .u32 0), (.int .u16 0)] : List Value))) h28 z60 rfl) rfl rfl rfl ?_
      rintro _ w33 ⟨b32, rfl, h34⟩
      refine G.unit (does_store (vs := (bytesV (List.ofFn (n := 20) r1_3.ID) ++ ([(v32 r1_3.Addr.Host), (v16 r1_3.Addr.Port)] : List Value))) h34 sz60 rfl rfl rfl (by simp [bytesV_length]) (List.forall_mem_append.2 ⟨(bytesV_one _), (List.forall_mem_cons.2 ⟨rfl, (List.forall_mem_cons.2 ⟨rfl, (fun _ hh => by cases hh)⟩)⟩)⟩) (by simp [bytesV_length])) rfl rfl ?_
      rintro _ w35 h37
      have h36 : Sat W w35 [blk b32 (bytesV (List.ofFn (n := 20) r1_3.ID) ++ ([(v32 r1_3.Addr.Host), (v16 r1_3.Addr.Port)] : List Value)) 60, ow elU8 r117 r218 5 r3_2, blk b [(.slice r419 r6_2.length r520), (.bool open_), (.bool r7_2)] 122, ow elU8 r419 r520 5 r6_2, ow el_G_api_Contact a_2 c_2 60 out] := sl_blk (setN_all _ _ (by simp [bytesV_length])) h37
      refine G.yl (yl_assign rfl) rfl rfl rfl ?_
      refine G.nil ?_
      refine QA.then_normal ?_
      refine C.seq ?_
      refine C.seq ?_
      refine C.region ?_
      refine G.yl (yl_move rfl) rfl rfl rfl ?_
      refine G.yl (yl_neI rfl rfl) rfl rfl rfl ?_
      refine G.nil ?_
      refine QA.then_normal ?_
      rcases sp_ite hm with ⟨hc38, hm⟩ | ⟨hc38, hm⟩
      · refine C.cond_f rfl (not_f (dec_t hc38)) ?_
        refine C.skip ?_
        refine QA.then_normal ?_
        refine C.region ?_
        refine G.yl (yl_move rfl) rfl rfl rfl ?_
        refine G.yl (yl_loadN (vs := (bytesV (List.ofFn (n := 20) r1_3.ID) ++ ([(v32 r1_3.Addr.Host), (v16 r1_3.Addr.Port)] : List Value))) ag60 sz60 (by simp [bytesV_length]) rfl (h36.isBlk.view0)) rfl rfl rfl ?_
        refine G.does (does_lit (E := el_G_api_Contact) (l := [r1_3]) (vs := [(.agg (bytesV (List.ofFn (n := 20) r1_3.ID) ++ ([(v32 r1_3.Addr.Host), (v16 r1_3.Addr.Port)] : List Value)).toArray)]) (cs := (bytesV (List.ofFn (n := 20) r1_3.ID) ++ ([(v32 r1_3.Addr.Host), (v16 r1_3.Addr.Port)] : List Value))) (e := 60) h36 rfl (by kernel_rfl) rfl rfl (by decide)) rfl rfl rfl ?_
        rintro _ w40 ⟨a39, rfl, h41⟩
        obtain ⟨hc42, hm⟩ := sp_chk hm
        refine G.does (does_app (E := el_G_api_Contact) (l := out) (l2 := [r1_3]) Try.underlying74 el60 (Sat.pick [5, 0, 0, 0, 0, 0] h41) rfl rfl rfl rfl (by decide) (Sat.own_view h41) hc42 (by decide)) rfl rfl rfl ?_
        rintro _ w45 ⟨a43, c44, rfl, h46⟩
        refine G.yl (yl_assign rfl) rfl rfl rfl ?_
        refine G.nil ?_
        refine QA.block_normal ?_
        refine QA.then_normal ?_
        refine C.region ?_
        refine G.yl (yl_add64 (b := 1) rfl rfl) rfl rfl rfl ?_
        refine G.yl (yl_move rfl) rfl rfl rfl ?_
        refine G.nil ?_
        obtain rfl := sp_ret1 hm
        exact QA.againO (a43, c44, out ++ [r1_3], r419, r520, r6_2, r7_2, t10 + 1) hg14 (Sub.of ⟨rfl, rfl, rfl, rfl, trivial⟩) (Sat.pick [0, 3, 3] h46)
      · refine C.cond_t rfl (not_t (dec_f hc38)) ?_
        refine C.seq ?_
        refine C.region ?_
        refine G.yl (yl_move rfl) rfl rfl rfl ?_
        obtain ⟨⟨r3_3, r6_3, r7_3⟩, hy47, hm⟩ := sp_bind hm
        refine G.does (does_fn 2 rfl rfl rfl en35 (Sat.pick [2, 2, 0, 0, 0] h36) (fun U hU hp hr hs => M_octet_Reader_Take_po_w hp hy47)) rfl rfl rfl ?_
        rintro _ w52 ⟨U55, hb56, r148, r249, r450, r551, rfl, h54⟩
        have h53 : Sat W w52 [ow elU8 r148 r249 5 r3_3, blk b [(.slice r450 r6_3.length r551), (.bool open_), (.bool r7_3)] 122, ow elU8 r450 r551 5 r6_3, blk b32 (bytesV (List.ofFn (n := 20) r1_3.ID) ++ ([(v32 r1_3.Addr.Host), (v16 r1_3.Addr.Port)] : List Value)) 60, ow elU8 r117 r218 5 r3_2, ow el_G_api_Contact a_2 c_2 60 out] := hb56 h54
        refine G.nil ?_
        refine QA.then_normal ?_
        refine C.seq ?_
        refine C.region ?_
        refine G.yl (yl_assign rfl) rfl rfl rfl ?_
        refine G.nil ?_
        refine QA.then_normal ?_
        refine C.ret ?_
        refine QA.then_ret ?_
        refine QA.block_ret ?_
        refine QA.then_ret ?_
        refine QA.then_ret ?_
        refine QA.past (by simp) ?_
        refine QA.block_ret ?_
        refine QA.then_ret ?_
        refine QA.ret1 rfl rfl ?_
        obtain rfl := sp_ret1 hm
        obtain rfl : .inr (([] : List G_api_Contact), r6_3, r7_3) = o := hg14
        have hm : some (([] : List G_api_Contact), r6_3, r7_3) = some (r3, r6, r7) := hm10
        obtain ⟨rfl, rfl, rfl⟩ := sp_ret3 hm
        exact ⟨none, 0, r450, r551, rfl, (Sat.pick [0, 1, 1] (Sat.own_zero h53 el_G_api_Contact none 60))⟩
    · refine C.cond_f rfl (dec_f hc15) ?_
      refine C.exit ?_
      refine QA.then_exit ?_
      refine QA.then_exit ?_
      obtain rfl := sp_ret1 hm
      exact QA.left (a_2, c_2, out, a_3, c_3, b_2, bad_2) (Sub.of ⟨rfl, rfl, trivial⟩) ⟨hg14, (Sat.pick [0, 0, 0] h12)⟩
  · rintro ⟨a_4, c_4, out_2, a_5, c_5, b_3, bad_3⟩ w57 ⟨rfl, h58⟩
    have hm := hm10
    show QA _ _ [(2, (.slice a_4 out_2.length c_4)), (3, (.func (.func 35) #[(.pointer (some ⟨b, 0, none⟩))] #[]))] _ _
    refine QA.block_here ?_
    refine QA.then_normal ?_
    refine C.seq ?_
    refine C.seq ?_
    refine C.region ?_
    refine G.yl (yl_move rfl) rfl rfl rfl ?_
    obtain ⟨r1_4, hy59, hm⟩ := sp_bind hm
    refine G.does (does_fn 0 rfl rfl rfl en77 h58 (fun U hU hp hr hs => M_contact_good_v_w (Rest.view hr) (Sat.own_cap h58).1 hp hy59)) rfl rfl rfl ?_
    rintro _ w60 ⟨U63, hb64, rfl, h62⟩
    have h61 : Sat W w60 [ow el_G_api_Contact a_4 c_4 60 out_2, blk b [(.slice a_5 b_3.length c_5), (.bool open_), (.bool bad_3)] 122, ow elU8 a_5 c_5 5 b_3] := hb64 h62
    refine G.yl (yl_not rfl) rfl rfl rfl ?_
    refine G.nil ?_
    refine QA.then_normal ?_
    rcases sp_b hm with ⟨hc65, hm⟩ | ⟨hc65, hm⟩
    · refine C.cond_f rfl (not_f hc65) ?_
      refine C.skip ?_
      refine QA.then_normal ?_
      refine C.seq ?_
      refine C.region ?_
      refine G.yl (yl_move rfl) rfl rfl rfl ?_
      refine G.yl (yl_assign rfl) rfl rfl rfl ?_
      refine G.nil ?_
      refine QA.then_normal ?_
      refine C.ret ?_
      refine QA.ret1 rfl rfl ?_
      obtain ⟨rfl, rfl, rfl⟩ := sp_ret3 hm
      exact ⟨a_4, c_4, a_5, c_5, rfl, (Sat.pick [0, 0, 0] h61)⟩
    · refine C.cond_t rfl (not_t hc65) ?_
      refine C.seq ?_
      refine C.region ?_
      refine G.yl (yl_move rfl) rfl rfl rfl ?_
      obtain ⟨⟨r3_4, r6_4, r7_4⟩, hy66, hm⟩ := sp_bind hm
      refine G.does (does_fn 2 rfl rfl rfl en35 (Sat.pick [1, 1, 0] h61) (fun U hU hp hr hs => M_octet_Reader_Take_po_w hp hy66)) rfl rfl rfl ?_
      rintro _ w71 ⟨U74, hb75, r167, r268, r469, r570, rfl, h73⟩
      have h72 : Sat W w71 [ow elU8 r167 r268 5 r3_4, blk b [(.slice r469 r6_4.length r570), (.bool open_), (.bool r7_4)] 122, ow elU8 r469 r570 5 r6_4, ow el_G_api_Contact a_4 c_4 60 out_2] := hb75 h73
      refine G.nil ?_
      refine QA.then_normal ?_
      refine C.seq ?_
      refine C.region ?_
      refine G.yl (yl_assign rfl) rfl rfl rfl ?_
      refine G.nil ?_
      refine QA.then_normal ?_
      refine C.ret ?_
      refine QA.then_ret ?_
      refine QA.ret1 rfl rfl ?_
      obtain ⟨rfl, rfl, rfl⟩ := sp_ret3 hm
      exact ⟨none, 0, r469, r570, rfl, (Sat.pick [0, 1, 1] (Sat.own_zero h72 el_G_api_Contact none 60))⟩
set_option maxRecDepth 20000 in
theorem M_signpostlaw08_Same_vv_w {W : Base} {w : World} {a : Option Addr} {c : Nat} {a2 : List G_api_Contact} {a3 : Option Addr} {c2 : Nat} {b : List G_signpostref08_Contact} (hv_a2 : V W a (el_G_api_Contact.row a2)) (hq_a2 : a2.length ≤ c) (hv_b : V W a3 (el_G_signpostref08_Contact.row b)) (hq_b : b.length ≤ c2) (h : Sat W w []) {r1 : Bool} (hm : M_signpostlaw08_Same_vv a2 b = some r1) :
    Calls Try.prog 40 #[(.slice a a2.length c), (.slice a3 b.length c2)] w (Ret fun v w' => v = (.bool r1) ∧ Sat W w' []) := by
  unfold M_signpostlaw08_Same_vv at hm
  refine C.enter (N := 27) Try.func40 rfl Try.ntmps40 rfl ?_
  show C _ _ _ [(0, (.slice a a2.length c)), (1, (.slice a3 b.length c2))] _ _
  refine C.seq ?_
  refine C.region ?_
  refine G.yl (yl_assign rfl) rfl rfl rfl ?_
  refine G.nil ?_
  refine QA.then_normal ?_
  refine C.seq ?_
  refine C.seq ?_
  refine C.region ?_
  refine G.yl (yl_move rfl) rfl rfl rfl ?_
  refine G.yl (yl_lenE Try.underlying74 rfl) rfl rfl rfl ?_
  refine G.yl (yl_move rfl) rfl rfl rfl ?_
  refine G.yl (yl_lenE Try.underlying76 rfl) rfl rfl rfl ?_
  refine G.yl (yl_neI rfl rfl) rfl rfl rfl ?_
  refine G.nil ?_
  refine QA.then_normal ?_
  rcases sp_ite hm with ⟨hc1, hm⟩ | ⟨hc1, hm⟩
  · refine C.cond_f rfl (not_f (dec_t hc1)) ?_
    refine C.skip ?_
    refine QA.then_normal ?_
    refine C.seq ?_
    refine C.seq ?_
    refine C.region ?_
    refine G.yl (yl_move rfl) rfl rfl rfl ?_
    refine G.yl (yl_lenE Try.underlying74 rfl) rfl rfl rfl ?_
    refine G.yl (yl_move rfl) rfl rfl rfl ?_
    refine G.nil ?_
    refine QA.then_normal ?_
    refine C.block ?_
    obtain ⟨o, ho2, hm3⟩ := sp_bind hm
    refine C.left (γ := Unit) (.exit 0) (fun g => match g with | () => [(4, (.bool false))]) (fun g ww => match g with | () => .inl () = o ∧ Sat W ww []) ?_ ?_
    · refine C.loopO (γ := Int) (fun g => match g with | t14 => [(1, (.slice a3 b.length c2)), (4, (.bool false)), (12, (.slice a a2.length c)), (13, (vI (a2.length : Int))), (14, (vI t14))]) (fun g ww => match g with | t14 => Sat W ww []) (fun g => match g with | t14 => t14) 0 ho2 (Sub.of ⟨rfl, rfl, rfl, rfl, rfl, trivial⟩) (Sat.pick [] h) ?_
      rintro t14 k6 w4 y_ h5 hm hg7
      show C _ _ _ [(1, (.slice a3 b.length c2)), (4, (.bool false)), (12, (.slice a a2.length c)), (13, (vI (a2.length : Int))), (14, (vI t14))] _ _
      change M_signpostlaw08_Same_vv_b1 a2 b t14 = some y_ at hm
      unfold M_signpostlaw08_Same_vv_b1 at hm
      refine C.seq ?_
      refine C.region ?_
      refine G.yl (yl_ltI rfl rfl) rfl rfl rfl ?_
      refine G.nil ?_
      refine QA.then_normal ?_
      refine C.seq ?_
      rcases sp_ite hm with ⟨hc8, hm⟩ | ⟨hc8, hm⟩
      · refine C.cond_t rfl (dec_t hc8) ?_
        refine C.skip ?_
        refine QA.then_normal ?_
        refine C.seq ?_
        refine C.block ?_
        refine C.seq ?_
        refine C.region ?_
        refine G.yl (yl_move rfl) rfl rfl rfl ?_
        obtain ⟨x, hy9, hm⟩ := sp_bind hm
        refine G.yl (yl_ixP (l := a2) sl74 rfl rfl (View.isA (E := el_G_api_Contact) (hv_a2.at_ h5) (by decide) (at?_lt hy9)) rfl (at?_lt hy9)) rfl rfl rfl ?_
        refine G.yl (yl_ldE (E := el_G_api_Contact) ag60 sz60 rfl (hv_a2.at_ h5) (at?_some hy9).2) rfl rfl rfl ?_
        refine G.does (does_alloc (cs := (bytesV (List.ofFn (n := 20) (fun _ => 0)) ++ ([(.int .u32 0), (.int .u16 0)] : List Value))) h5 z60 rfl) rfl rfl rfl ?_
        rintro _ w11 ⟨b10, rfl, h12⟩
        refine G.yl (yl_assign rfl) rfl rfl rfl ?_
        refine G.unit (does_store (vs := (bytesV (List.ofFn (n := 20) x.ID) ++ ([(v32 x.Addr.Host), (v16 x.Addr.Port)] : List Value))) h12 sz60 rfl rfl rfl (by simp [bytesV_length]) (List.forall_mem_append.2 ⟨(bytesV_one _), (List.forall_mem_cons.2 ⟨rfl, (List.forall_mem_cons.2 ⟨rfl, (fun _ hh => by cases hh)⟩)⟩)⟩) (by simp [bytesV_length])) rfl rfl ?_
        rintro _ w13 h15
        have h14 : Sat W w13 [blk b10 (bytesV (List.ofFn (n := 20) x.ID) ++ ([(v32 x.Addr.Host), (v16 x.Addr.Port)] : List Value)) 60] := sl_blk (setN_all _ _ (by simp [bytesV_length])) h15
        refine G.nil ?_
        refine QA.then_normal ?_
        refine C.seq ?_
        refine C.draw (V := fun w' => View w' (some ⟨b10, 0, none⟩) (bytesV (List.ofFn (n := 20) x.ID) ++ ([(v32 x.Addr.Host), (v16 x.Addr.Port)] : List Value)) ∧ View w' a3 (el_G_signpostref08_Contact.row b)) (nd := [0, 5]) (sp := []) (n := 7) rfl h14 rfl rfl ?_
        intro w16 h17
        have hS18 : Cls (fun w' => View w' (some ⟨b10, 0, none⟩) (bytesV (List.ofFn (n := 20) x.ID) ++ ([(v32 x.Addr.Host), (v16 x.Addr.Port)] : List Value)) ∧ View w' a3 (el_G_signpostref08_Contact.row b)) [0, 5] [] #[false, false, false, false, false, false, false] w16 := Cls.keep (⟨h17.isBlk.view0, (hv_b.at_ h17)⟩) (by kernel_rfl)
        refine GH.yr (i := 0) (listed' := #[true, false, false, false, false, false, false]) rfl (by kernel_rfl) rfl rfl (NP.next (NP.block (NP.next (NP.next (NP.left (by simp) (NP.block (NP.next NP.body))))))) rfl rfl rfl (fun w' hw' => yl_loadN (vs := (bytesV (List.ofFn (n := 20) x.ID) ++ ([(v32 x.Addr.Host), (v16 x.Addr.Port)] : List Value))) ag60 sz60 (by simp [bytesV_length]) rfl (hw'.1)) hS18 (fun hS19 => ?_)
        refine GH.yl (i := 2) (listed' := #[true, false, true, false, false, false, false]) rfl (by kernel_rfl) rfl (NP.next (NP.block (NP.next (NP.next (NP.left (by simp) (NP.block (NP.next NP.body))))))) rfl rfl rfl (fun w' => yl_move rfl) hS19 (fun hS20 => ?_)
        refine GH.yl (i := 3) (listed' := #[true, false, true, true, false, false, false]) rfl (by kernel_rfl) rfl (NP.next (NP.block (NP.next (NP.next (NP.left (by simp) (NP.block (NP.next NP.body))))))) rfl rfl rfl (fun w' => yl_move rfl) hS20 (fun hS21 => ?_)
        obtain ⟨x_2, hy22, hm⟩ := sp_bind hm
        refine GH.yl (i := 4) (listed' := #[true, false, true, true, true, false, false]) rfl (by kernel_rfl) rfl (NP.next (NP.block (NP.next (NP.next (NP.left (by simp) (NP.block (NP.next NP.body))))))) rfl rfl rfl (fun w' => yl_ixP (l := b) sl76 rfl rfl (View.isA (E := el_G_signpostref08_Contact) (hv_b.at_ h17) (by decide) (at?_lt hy22)) rfl (at?_lt hy22)) hS21 (fun hS23 => ?_)
        refine GH.yr (i := 5) (listed' := #[true, false, true, true, true, true, false]) rfl (by kernel_rfl) rfl rfl (NP.next (NP.block (NP.next (NP.next (NP.left (by simp) (NP.block (NP.next NP.body))))))) rfl rfl rfl (fun w' hw' => yl_ldE (E := el_G_signpostref08_Contact) ag66 sz66 rfl (hw'.2) (at?_some hy22).2) hS23 (fun hS24 => ?_)
        obtain ⟨_, hy25, hm⟩ := sp_bind hm
        refine GH.does (i := 1) (listed' := #[true, true, true, true, true, true, false]) rfl (by kernel_rfl) rfl rfl rfl rfl (does_fn 0 rfl rfl rfl en39 h17 (fun U hU hp hr hs => M_signpostlaw08_One_w (c := x) hp hy25)) ?_
        rintro _ w26 ⟨U29, hb30, rfl, h28⟩
        have h27 : Sat W w26 [blk b10 (bytesV (List.ofFn (n := 20) x.ID) ++ ([(v32 x.Addr.Host), (v16 x.Addr.Port)] : List Value)) 60] := hb30 h28
        have hS31 : Cls (fun w' => View w' (some ⟨b10, 0, none⟩) (bytesV (List.ofFn (n := 20) x.ID) ++ ([(v32 x.Addr.Host), (v16 x.Addr.Port)] : List Value)) ∧ View w' a3 (el_G_signpostref08_Contact.row b)) [0, 5] [] #[true, true, true, true, true, true, false] w26 := Cls.keep (⟨h27.isBlk.view0, (hv_b.at_ h27)⟩) (by kernel_rfl)
        refine ⟨hS31, ?_⟩
        refine GH.yl (i := 6) (listed' := #[true, true, true, true, true, true, true]) rfl (by kernel_rfl) rfl (NP.next (NP.block (NP.next (NP.next (NP.left (by simp) (NP.block (NP.next NP.body))))))) rfl rfl rfl (fun w' => yl_ne_agg (r := decide ((G_signpostref08_Contact.mk x.ID (G_signpostref06_Addr.mk x.Addr.Host x.Addr.Port)) = x_2)) (vs := (el_G_signpostref08_Contact.f (G_signpostref08_Contact.mk x.ID (G_signpostref06_Addr.mk x.Addr.Host x.Addr.Port)))) (us := (el_G_signpostref08_Contact.f x_2)) rfl rfl (by rw [decide_eq_true_eq]; exact G_signpostref08_Contact_inj) eqT66.1 eqT66.2.1 eqT66.2.2.1 eqT66.2.2.2.1 eqT66.2.2.2.2 (G_signpostref08_Contact_fits (G_signpostref08_Contact.mk x.ID (G_signpostref06_Addr.mk x.Addr.Host x.Addr.Port))) (G_signpostref08_Contact_fits x_2)) hS31 (fun hS32 => ?_)
        refine GH.done (by kernel_rfl) ?_
        refine QA.then_normal ?_
        rcases sp_ite hm with ⟨hc33, hm⟩ | ⟨hc33, hm⟩
        · refine C.cond_f rfl (not_f (dec_t hc33)) ?_
          refine C.skip ?_
          refine QA.block_normal ?_
          refine QA.then_normal ?_
          refine C.region ?_
          obtain ⟨hc34, hm⟩ := sp_chk hm
          refine G.yl (yl_addI rfl rfl hc34) rfl rfl rfl ?_
          refine G.yl (yl_move rfl) rfl rfl rfl ?_
          refine G.nil ?_
          obtain rfl := sp_ret1 hm
          exact QA.againO (t14 + 1) hg7 (Sub.of ⟨rfl, rfl, rfl, rfl, rfl, trivial⟩) (Sat.pick [] h27)
        · refine C.cond_t rfl (not_t (dec_f hc33)) ?_
          refine C.seq ?_
          refine C.region ?_
          refine G.yl (yl_assign rfl) rfl rfl rfl ?_
          refine G.nil ?_
          refine QA.then_normal ?_
          refine C.ret ?_
          refine QA.block_ret ?_
          refine QA.then_ret ?_
          refine QA.then_ret ?_
          refine QA.past (by simp) ?_
          refine QA.block_ret ?_
          refine QA.then_ret ?_
          refine QA.ret1 rfl rfl ?_
          obtain rfl := sp_ret1 hm
          obtain rfl : .inr false = o := hg7
          have hm : some false = some r1 := hm3
          obtain rfl := sp_ret1 hm
          exact ⟨rfl, (Sat.pick [] h27)⟩
      · refine C.cond_f rfl (dec_f hc8) ?_
        refine C.exit ?_
        refine QA.then_exit ?_
        refine QA.then_exit ?_
        obtain rfl := sp_ret1 hm
        exact QA.left () (Sub.of ⟨rfl, trivial⟩) ⟨hg7, (Sat.pick [] h5)⟩
    · rintro _ w35 ⟨rfl, h36⟩
      have hm := hm3
      show QA _ _ [(4, (.bool false))] _ _
      refine QA.block_here ?_
      refine QA.then_normal ?_
      refine C.seq ?_
      refine C.region ?_
      refine G.yl (yl_assign rfl) rfl rfl rfl ?_
      refine G.nil ?_
      refine QA.then_normal ?_
      refine C.ret ?_
      refine QA.ret1 rfl rfl ?_
      obtain rfl := sp_ret1 hm
      exact ⟨rfl, (Sat.pick [] h36)⟩
  · refine C.cond_t rfl (not_t (dec_f hc1)) ?_
    refine C.seq ?_
    refine C.region ?_
    refine G.yl (yl_assign rfl) rfl rfl rfl ?_
    refine G.nil ?_
    refine QA.then_normal ?_
    refine C.ret ?_
    refine QA.then_ret ?_
    refine QA.ret1 rfl rfl ?_
    obtain rfl := sp_ret1 hm
    exact ⟨rfl, (Sat.pick [] h)⟩
set_option maxRecDepth 20000 in
theorem M_octet_rest_left_po_w {W : Base} {w : World} {b : Nat} {a : Option Addr} {c : Nat} {b2 : List UInt8} {open_ : Bool} {bad : Bool}  (h : Sat W w [blk b [(.slice a b2.length c), (.bool open_), (.bool bad)] 122, ow elU8 a c 5 b2])  (hm : M_octet_rest_left_po b2 open_ bad = some ()) :
    Calls Try.prog 79 #[(.pointer (some ⟨b, 0, none⟩))] w (Ret fun v w' => v = (vI (b2.length : Int)) ∧ Sat W w' [blk b [(.slice a b2.length c), (.bool open_), (.bool bad)] 122, ow elU8 a c 5 b2]) := by
  unfold M_octet_rest_left_po at hm
  refine C.enter (N := 8) Try.func79 rfl Try.ntmps79 rfl ?_
  show C _ _ _ [(0, (.pointer (some ⟨b, 0, none⟩)))] _ _
  refine C.seq ?_
  refine C.region ?_
  refine G.yl (yl_assign rfl) rfl rfl rfl ?_
  refine G.nil ?_
  refine QA.then_normal ?_
  refine C.seq ?_
  refine C.region ?_
  refine G.yl (yl_move rfl) rfl rfl rfl ?_
  refine G.yl (yl_nilCheck rfl) rfl rfl rfl ?_
  refine G.yl (yl_fieldAddr fo120_0 rfl) rfl rfl rfl ?_
  refine G.yl (yl_load (v := (.slice a b2.length c)) ag22 rfl (View.at0 (j := 0) h.isBlk.view0 rfl)) rfl rfl rfl ?_
  refine G.yl (yl_lenE Try.underlying22 rfl) rfl rfl rfl ?_
  refine G.yl (yl_assign rfl) rfl rfl rfl ?_
  refine G.nil ?_
  refine QA.then_normal ?_
  refine C.ret ?_
  refine QA.ret1 rfl rfl ?_
  exact ⟨rfl, (Sat.pick [0, 0] h)⟩
set_option maxRecDepth 20000 in
theorem M_octet_Reader_Left_po_w {W : Base} {w : World} {b : Nat} {a : Option Addr} {c : Nat} {b2 : List UInt8} {open_ : Bool} {bad : Bool}  (h : Sat W w [blk b [(.slice a b2.length c), (.bool open_), (.bool bad)] 122, ow elU8 a c 5 b2]) {r1 : Int} (hm : M_octet_Reader_Left_po b2 open_ bad = some r1) :
    Calls Try.prog 41 #[(.pointer (some ⟨b, 0, none⟩))] w (Ret fun v w' => v = (vI r1) ∧ Sat W w' [blk b [(.slice a b2.length c), (.bool open_), (.bool bad)] 122, ow elU8 a c 5 b2]) := by
  unfold M_octet_Reader_Left_po at hm
  refine C.enter (N := 9) Try.func41 rfl Try.ntmps41 rfl ?_
  show C _ _ _ [(0, (.pointer (some ⟨b, 0, none⟩)))] _ _
  refine C.seq ?_
  refine C.region ?_
  refine G.yl (yl_assign rfl) rfl rfl rfl ?_
  refine G.nil ?_
  refine QA.then_normal ?_
  refine C.seq ?_
  refine C.seq ?_
  refine C.region ?_
  refine G.yl (yl_move rfl) rfl rfl rfl ?_
  obtain ⟨_, hy1, hm⟩ := sp_bind hm
  refine G.does (does_fn 2 rfl rfl rfl en73 (Sat.pick [0, 0] h) (fun U hU hp hr hs => M_octet_Reader_none_po_w hp hy1)) rfl rfl rfl ?_
  rintro _ w2 ⟨U5, hb6, rfl, h4⟩
  have h3 : Sat W w2 [blk b [(.slice a b2.length c), (.bool open_), (.bool bad)] 122, ow elU8 a c 5 b2] := hb6 h4
  refine G.nil ?_
  refine QA.then_normal ?_
  rcases sp_b hm with ⟨hc7, hm⟩ | ⟨hc7, hm⟩
  · refine C.cond_f rfl (not_f hc7) ?_
    refine C.skip ?_
    refine QA.then_normal ?_
    refine C.seq ?_
    refine C.region ?_
    refine G.yl (yl_move rfl) rfl rfl rfl ?_
    refine G.yl (yl_nilCheck rfl) rfl rfl rfl ?_
    refine G.yl (yl_fieldAddr fo122_0 rfl) rfl rfl rfl ?_
    obtain ⟨_, hy8, hm⟩ := sp_bind hm
    refine G.does (does_fn 2 rfl rfl rfl en79 (Sat.pick [0, 0] h3) (fun U hU hp hr hs => M_octet_rest_left_po_w hp hy8)) rfl rfl rfl ?_
    rintro _ w9 ⟨U12, hb13, rfl, h11⟩
    have h10 : Sat W w9 [blk b [(.slice a b2.length c), (.bool open_), (.bool bad)] 122, ow elU8 a c 5 b2] := hb13 h11
    refine G.yl (yl_assign rfl) rfl rfl rfl ?_
    refine G.nil ?_
    refine QA.then_normal ?_
    refine C.ret ?_
    refine QA.ret1 rfl rfl ?_
    obtain rfl := sp_ret1 hm
    exact ⟨rfl, (Sat.pick [0, 0] h10)⟩
  · refine C.cond_t rfl (not_t hc7) ?_
    refine C.seq ?_
    refine C.region ?_
    refine G.yl (yl_assign rfl) rfl rfl rfl ?_
    refine G.nil ?_
    refine QA.then_normal ?_
    refine C.ret ?_
    refine QA.then_ret ?_
    refine QA.ret1 rfl rfl ?_
    obtain rfl := sp_ret1 hm
    exact ⟨rfl, (Sat.pick [0, 0] h3)⟩
set_option maxRecDepth 20000 in
theorem M_octet_Reader_Bad_po_w {W : Base} {w : World} {b : Nat} {a : Option Addr} {c : Nat} {b2 : List UInt8} {open_ : Bool} {bad : Bool}  (h : Sat W w [blk b [(.slice a b2.length c), (.bool open_), (.bool bad)] 122, ow elU8 a c 5 b2]) {r1 : Bool} (hm : M_octet_Reader_Bad_po b2 open_ bad = some r1) :
    Calls Try.prog 43 #[(.pointer (some ⟨b, 0, none⟩))] w (Ret fun v w' => v = (.bool r1) ∧ Sat W w' [blk b [(.slice a b2.length c), (.bool open_), (.bool bad)] 122, ow elU8 a c 5 b2]) := by
  unfold M_octet_Reader_Bad_po at hm
  refine C.enter (N := 12) Try.func43 rfl Try.ntmps43 rfl ?_
  show C _ _ _ [(0, (.pointer (some ⟨b, 0, none⟩)))] _ _
  refine C.seq ?_
  refine C.region ?_
  refine G.yl (yl_assign rfl) rfl rfl rfl ?_
  refine G.nil ?_
  refine QA.then_normal ?_
  refine C.seq ?_
  refine C.region ?_
  refine G.yl (yl_move rfl) rfl rfl rfl ?_
  obtain ⟨_, hy1, hm⟩ := sp_bind hm
  refine G.does (does_fn 2 rfl rfl rfl en73 (Sat.pick [0, 0] h) (fun U hU hp hr hs => M_octet_Reader_none_po_w hp hy1)) rfl rfl rfl ?_
  rintro _ w2 ⟨U5, hb6, rfl, h4⟩
  have h3 : Sat W w2 [blk b [(.slice a b2.length c), (.bool open_), (.bool bad)] 122, ow elU8 a c 5 b2] := hb6 h4
  refine G.yl (yl_move rfl) rfl rfl rfl ?_
  rcases sp_b hm with ⟨hc7, hm⟩ | ⟨hc7, hm⟩
  · refine G.on rfl rfl (not_f hc7) ?_
    refine G.yl (yl_move rfl) rfl rfl rfl ?_
    refine G.on rfl rfl (not_f hc7) ?_
    refine G.yl (yl_nilCheck rfl) rfl rfl rfl ?_
    refine G.on rfl rfl (not_f hc7) ?_
    refine G.yl (yl_fieldAddr fo122_0 rfl) rfl rfl rfl ?_
    refine G.on rfl rfl (not_f hc7) ?_
    refine G.yl (yl_fieldAddr fo120_2 rfl) rfl rfl rfl ?_
    refine G.on rfl rfl (not_f hc7) ?_
    refine G.yl (yl_load (v := (.bool bad)) ag4 rfl (View.at0 (j := 2) h3.isBlk.view0 rfl)) rfl rfl rfl ?_
    refine G.yl (yl_pick_f rfl (not_f hc7) rfl) rfl rfl rfl ?_
    refine G.yl (yl_assign rfl) rfl rfl rfl ?_
    refine G.nil ?_
    refine QA.then_normal ?_
    refine C.ret ?_
    refine QA.ret1 rfl rfl ?_
    obtain rfl := sp_ret1 hm
    exact ⟨rfl, (Sat.pick [0, 0] h3)⟩
  · refine G.offU rfl rfl (not_t hc7) rfl ?_
    refine G.offU rfl rfl (not_t hc7) rfl ?_
    refine G.offU rfl rfl (not_t hc7) rfl ?_
    refine G.offU rfl rfl (not_t hc7) rfl ?_
    refine G.offU rfl rfl (not_t hc7) rfl ?_
    refine G.yl (yl_pick_t rfl (not_t hc7) rfl) rfl rfl rfl ?_
    refine G.yl (yl_assign rfl) rfl rfl rfl ?_
    refine G.nil ?_
    refine QA.then_normal ?_
    refine C.ret ?_
    refine QA.ret1 rfl rfl ?_
    obtain rfl := sp_ret1 hm
    exact ⟨rfl, (Sat.pick [0, 0] h3)⟩
end Go.Proofs.Ytaaahjcldomnbaa
