/-
  That the functions of the program compute what their Lean functions say, part 1. No condition.
-/
import Derived.Test.YtgabplankmljfaaInstBackW0
namespace Go.Proofs.Ytgabplankmljfaa
open Go Go.RowKit
set_option linter.unusedVariables false
set_option linter.unusedSimpArgs false
set_option linter.unnecessarySimpa false
set_option maxRecDepth 20000 in
set_option maxHeartbeats 1000000 in
theorem M_signpostlaw11_lives_w {W : Base} {w : World}   (h : Sat W w []) {r1 : Bool} (hm : M_signpostlaw11_lives = some r1) :
    Calls Try.prog 29 #[] w (Ret fun v w' => v = (.bool r1) ∧ Sat W w' []) := by
  unfold M_signpostlaw11_lives at hm
  refine C.enter (N := 40) Try.func29 rfl Try.ntmps29 rfl ?_
  show C _ _ _ [] _ _
  refine C.seq ?_
  refine C.region ?_
  refine G.yl (yl_assign rfl) rfl rfl rfl ?_
  refine G.nil ?_
  refine QA.then_normal ?_
  refine C.seq ?_
  refine C.region ?_
  refine G.yl (yl_build (vs := [(.int .u64 5), (.int .u32 3), (.int .u16 80), (.string (str ([97] : List UInt8)))]) (cells := (bytesV (List.ofFn (n := 20) (fun _ => 0)) ++ ([(.int .u64 0), (.int .u64 5), (.int .u32 3), (.bool false), (.int .u16 0), (.int .u16 0), (.int .u16 80), (.string (str ([97] : List UInt8)))] : List Value)).toArray) rfl (by kernel_rfl)) rfl rfl rfl ?_
  refine G.does (does_alloc (cs := (bytesV (List.ofFn (n := 20) (fun _ => 0)) ++ ([(.int .u64 0), (.int .u64 0), (.int .u32 0), (.bool false), (.int .u16 0), (.int .u16 0), (.int .u16 0), (.string (str ([] : List UInt8)))] : List Value))) h z47 rfl) rfl rfl rfl ?_
  rintro _ w2 ⟨b1, rfl, h3⟩
  refine G.unit (does_store (vs := (bytesV (List.ofFn (n := 20) (fun _ => 0)) ++ ([(.int .u64 0), (.int .u64 5), (.int .u32 3), (.bool false), (.int .u16 0), (.int .u16 0), (.int .u16 80), (.string (str ([97] : List UInt8)))] : List Value))) h3 sz47 rfl rfl rfl (by simp [bytesV_length]) (List.forall_mem_append.2 ⟨(bytesV_one _), (List.forall_mem_cons.2 ⟨rfl, (List.forall_mem_cons.2 ⟨rfl, (List.forall_mem_cons.2 ⟨rfl, (List.forall_mem_cons.2 ⟨rfl, (List.forall_mem_cons.2 ⟨rfl, (List.forall_mem_cons.2 ⟨rfl, (List.forall_mem_cons.2 ⟨rfl, (List.forall_mem_cons.2 ⟨rfl, (fun _ hh => by cases hh)⟩)⟩)⟩)⟩)⟩)⟩)⟩)⟩)⟩) (by simp [bytesV_length])) rfl rfl ?_
  rintro _ w4 h6
  have h5 : Sat W w4 [blk b1 (bytesV (List.ofFn (n := 20) (fun _ => 0)) ++ ([(.int .u64 0), (.int .u64 5), (.int .u32 3), (.bool false), (.int .u16 0), (.int .u16 0), (.int .u16 80), (.string (str ([97] : List UInt8)))] : List Value)) 47] := sl_blk (setN_all _ _ (by simp [bytesV_length])) h6
  refine G.nil ?_
  refine QA.then_normal ?_
  refine C.seq ?_
  refine C.region ?_
  refine G.yl (yl_loadN (vs := (bytesV (List.ofFn (n := 20) (fun _ => 0)) ++ ([(.int .u64 0), (.int .u64 5), (.int .u32 3), (.bool false), (.int .u16 0), (.int .u16 0), (.int .u16 80), (.string (str ([97] : List UInt8)))] : List Value))) ag47 sz47 (by simp [bytesV_length]) rfl (h5.isBlk.view0)) rfl rfl rfl ?_
  obtain ⟨⟨r3_2, r4_2⟩, hy7, hm⟩ := sp_bind hm
  refine G.does (does_fn 0 rfl rfl rfl en30 h5 (fun U hU hp hr hs => M_inst_Bytes_w (i := (G_api_Instance.mk (fun _ => 0) 0 5 3 false 0 0 80 ([97] : List UInt8))) hp hy7)) rfl rfl rfl ?_
  rintro _ w10 ⟨U13, hb14, r18, r29, rfl, h12⟩
  have h11 : Sat W w10 [ow elU8 r18 r29 5 r3_2, blk b1 (bytesV (List.ofFn (n := 20) (fun _ => 0)) ++ ([(.int .u64 0), (.int .u64 5), (.int .u32 3), (.bool false), (.int .u16 0), (.int .u16 0), (.int .u16 80), (.string (str ([97] : List UInt8)))] : List Value)) 47] := hb14 h12
  refine G.yl (yl_move rfl) rfl rfl rfl ?_
  refine G.yl (yl_extract rfl rfl) rfl rfl rfl ?_
  refine G.yl (yl_extract rfl rfl) rfl rfl rfl ?_
  refine G.yl (yl_assign rfl) rfl rfl rfl ?_
  refine G.yl (yl_assign rfl) rfl rfl rfl ?_
  refine G.nil ?_
  refine QA.then_normal ?_
  refine C.seq ?_
  refine C.region ?_
  refine G.yl (yl_loadN (vs := (bytesV (List.ofFn (n := 20) (fun _ => 0)) ++ ([(.int .u64 0), (.int .u64 5), (.int .u32 3), (.bool false), (.int .u16 0), (.int .u16 0), (.int .u16 80), (.string (str ([97] : List UInt8)))] : List Value))) ag47 sz47 (by simp [bytesV_length]) rfl ((Sat.pick [1] h11).isBlk.view0)) rfl rfl rfl ?_
  obtain ⟨r1_2, hy15, hm⟩ := sp_bind hm
  refine G.does (does_fn 0 rfl rfl rfl en32 h11 (fun U hU hp hr hs => M_inst_Good_w (i := (G_api_Instance.mk (fun _ => 0) 0 5 3 false 0 0 80 ([97] : List UInt8))) hp hy15)) rfl rfl rfl ?_
  rintro _ w16 ⟨U19, hb20, rfl, h18⟩
  have h17 : Sat W w16 [ow elU8 r18 r29 5 r3_2, blk b1 (bytesV (List.ofFn (n := 20) (fun _ => 0)) ++ ([(.int .u64 0), (.int .u64 5), (.int .u32 3), (.bool false), (.int .u16 0), (.int .u16 0), (.int .u16 80), (.string (str ([97] : List UInt8)))] : List Value)) 47] := hb20 h18
  refine G.yl (yl_move rfl) rfl rfl rfl ?_
  rcases sp_b hm with ⟨hc21, hm⟩ | ⟨hc21, hm⟩
  · refine G.on rfl rfl hc21 ?_
    refine G.yl (yl_loadN (vs := (bytesV (List.ofFn (n := 20) (fun _ => 0)) ++ ([(.int .u64 0), (.int .u64 5), (.int .u32 3), (.bool false), (.int .u16 0), (.int .u16 0), (.int .u16 80), (.string (str ([97] : List UInt8)))] : List Value))) ag47 sz47 (by simp [bytesV_length]) rfl ((Sat.pick [1] h17).isBlk.view0)) rfl rfl rfl ?_
    refine G.on rfl rfl hc21 ?_
    obtain ⟨r1_3, hy22, hm⟩ := sp_bind hm
    refine G.does (does_fn 0 rfl rfl rfl en36 h17 (fun U hU hp hr hs => M_inst_Alive_w (i := (G_api_Instance.mk (fun _ => 0) 0 5 3 false 0 0 80 ([97] : List UInt8))) (now := 4) hp hy22)) rfl rfl rfl ?_
    rintro _ w23 ⟨U26, hb27, rfl, h25⟩
    have h24 : Sat W w23 [ow elU8 r18 r29 5 r3_2, blk b1 (bytesV (List.ofFn (n := 20) (fun _ => 0)) ++ ([(.int .u64 0), (.int .u64 5), (.int .u32 3), (.bool false), (.int .u16 0), (.int .u16 0), (.int .u16 80), (.string (str ([97] : List UInt8)))] : List Value)) 47] := hb27 h25
    refine G.on rfl rfl hc21 ?_
    refine G.yl (yl_not rfl) rfl rfl rfl ?_
    refine G.yl (yl_pick_t rfl hc21 rfl) rfl rfl rfl ?_
    refine G.yl (yl_move rfl) rfl rfl rfl ?_
    rcases sp_b hm with ⟨hc28, hm⟩ | ⟨hc28, hm⟩
    · refine G.offU rfl rfl (not_f hc28) rfl ?_
      refine G.offU rfl rfl (not_f hc28) rfl ?_
      refine G.yl (yl_pick_f rfl (not_f hc28) rfl) rfl rfl rfl ?_
      refine G.yl (yl_move rfl) rfl rfl rfl ?_
      refine G.offU rfl rfl rfl rfl ?_
      refine G.offU rfl rfl rfl rfl ?_
      refine G.offU rfl rfl rfl rfl ?_
      refine G.yl (yl_pick_f rfl rfl rfl) rfl rfl rfl ?_
      refine G.yl (yl_move rfl) rfl rfl rfl ?_
      refine G.offU rfl rfl rfl rfl ?_
      refine G.offU rfl rfl rfl rfl ?_
      refine G.offU rfl rfl rfl rfl ?_
      refine G.yl (yl_pick_f rfl rfl rfl) rfl rfl rfl ?_
      refine G.yl (yl_move rfl) rfl rfl rfl ?_
      refine G.offU rfl rfl rfl rfl ?_
      refine G.offU rfl rfl rfl rfl ?_
      refine G.yl (yl_pick_f rfl rfl rfl) rfl rfl rfl ?_
      refine G.yl (yl_move rfl) rfl rfl rfl ?_
      refine G.offU rfl rfl rfl rfl ?_
      refine G.offU rfl rfl rfl rfl ?_
      refine G.offU rfl rfl rfl rfl ?_
      refine G.yl (yl_pick_f rfl rfl rfl) rfl rfl rfl ?_
      refine G.yl (yl_assign rfl) rfl rfl rfl ?_
      refine G.nil ?_
      refine QA.then_normal ?_
      refine C.ret ?_
      refine QA.ret1 rfl rfl ?_
      obtain rfl := sp_ret1 hm
      exact ⟨rfl, (Sat.pick [] h24)⟩
    · refine G.on rfl rfl (not_t hc28) ?_
      refine G.yl (yl_loadN (vs := (bytesV (List.ofFn (n := 20) (fun _ => 0)) ++ ([(.int .u64 0), (.int .u64 5), (.int .u32 3), (.bool false), (.int .u16 0), (.int .u16 0), (.int .u16 80), (.string (str ([97] : List UInt8)))] : List Value))) ag47 sz47 (by simp [bytesV_length]) rfl ((Sat.pick [1] h24).isBlk.view0)) rfl rfl rfl ?_
      refine G.on rfl rfl (not_t hc28) ?_
      obtain ⟨r1_4, hy29, hm⟩ := sp_bind hm
      refine G.does (does_fn 0 rfl rfl rfl en36 h24 (fun U hU hp hr hs => M_inst_Alive_w (i := (G_api_Instance.mk (fun _ => 0) 0 5 3 false 0 0 80 ([97] : List UInt8))) (now := 5) hp hy29)) rfl rfl rfl ?_
      rintro _ w30 ⟨U33, hb34, rfl, h32⟩
      have h31 : Sat W w30 [ow elU8 r18 r29 5 r3_2, blk b1 (bytesV (List.ofFn (n := 20) (fun _ => 0)) ++ ([(.int .u64 0), (.int .u64 5), (.int .u32 3), (.bool false), (.int .u16 0), (.int .u16 0), (.int .u16 80), (.string (str ([97] : List UInt8)))] : List Value)) 47] := hb34 h32
      refine G.yl (yl_pick_t rfl (not_t hc28) rfl) rfl rfl rfl ?_
      refine G.yl (yl_move rfl) rfl rfl rfl ?_
      rcases sp_b hm with ⟨hc35, hm⟩ | ⟨hc35, hm⟩
      · refine G.on rfl rfl hc35 ?_
        refine G.yl (yl_loadN (vs := (bytesV (List.ofFn (n := 20) (fun _ => 0)) ++ ([(.int .u64 0), (.int .u64 5), (.int .u32 3), (.bool false), (.int .u16 0), (.int .u16 0), (.int .u16 80), (.string (str ([97] : List UInt8)))] : List Value))) ag47 sz47 (by simp [bytesV_length]) rfl ((Sat.pick [1] h31).isBlk.view0)) rfl rfl rfl ?_
        refine G.on rfl rfl hc35 ?_
        obtain ⟨r1_5, hy36, hm⟩ := sp_bind hm
        refine G.does (does_fn 0 rfl rfl rfl en36 h31 (fun U hU hp hr hs => M_inst_Alive_w (i := (G_api_Instance.mk (fun _ => 0) 0 5 3 false 0 0 80 ([97] : List UInt8))) (now := 8) hp hy36)) rfl rfl rfl ?_
        rintro _ w37 ⟨U40, hb41, rfl, h39⟩
        have h38 : Sat W w37 [ow elU8 r18 r29 5 r3_2, blk b1 (bytesV (List.ofFn (n := 20) (fun _ => 0)) ++ ([(.int .u64 0), (.int .u64 5), (.int .u32 3), (.bool false), (.int .u16 0), (.int .u16 0), (.int .u16 80), (.string (str ([97] : List UInt8)))] : List Value)) 47] := hb41 h39
        refine G.on rfl rfl hc35 ?_
        refine G.yl (yl_not rfl) rfl rfl rfl ?_
        refine G.yl (yl_pick_t rfl hc35 rfl) rfl rfl rfl ?_
        refine G.yl (yl_move rfl) rfl rfl rfl ?_
        rcases sp_b hm with ⟨hc42, hm⟩ | ⟨hc42, hm⟩
        · refine G.offU rfl rfl (not_f hc42) rfl ?_
          refine G.offU rfl rfl (not_f hc42) rfl ?_
          refine G.offU rfl rfl (not_f hc42) rfl ?_
          refine G.yl (yl_pick_f rfl (not_f hc42) rfl) rfl rfl rfl ?_
          refine G.yl (yl_move rfl) rfl rfl rfl ?_
          refine G.offU rfl rfl rfl rfl ?_
          refine G.offU rfl rfl rfl rfl ?_
          refine G.yl (yl_pick_f rfl rfl rfl) rfl rfl rfl ?_
          refine G.yl (yl_move rfl) rfl rfl rfl ?_
          refine G.offU rfl rfl rfl rfl ?_
          refine G.offU rfl rfl rfl rfl ?_
          refine G.offU rfl rfl rfl rfl ?_
          refine G.yl (yl_pick_f rfl rfl rfl) rfl rfl rfl ?_
          refine G.yl (yl_assign rfl) rfl rfl rfl ?_
          refine G.nil ?_
          refine QA.then_normal ?_
          refine C.ret ?_
          refine QA.ret1 rfl rfl ?_
          obtain rfl := sp_ret1 hm
          exact ⟨rfl, (Sat.pick [] h38)⟩
        · refine G.on rfl rfl (not_t hc42) ?_
          refine G.yl (yl_loadN (vs := (bytesV (List.ofFn (n := 20) (fun _ => 0)) ++ ([(.int .u64 0), (.int .u64 5), (.int .u32 3), (.bool false), (.int .u16 0), (.int .u16 0), (.int .u16 80), (.string (str ([97] : List UInt8)))] : List Value))) ag47 sz47 (by simp [bytesV_length]) rfl ((Sat.pick [1] h38).isBlk.view0)) rfl rfl rfl ?_
          refine G.on rfl rfl (not_t hc42) ?_
          obtain ⟨r1_6, hy43, hm⟩ := sp_bind hm
          refine G.does (does_fn 0 rfl rfl rfl en38 h38 (fun U hU hp hr hs => M_inst_Left_w (i := (G_api_Instance.mk (fun _ => 0) 0 5 3 false 0 0 80 ([97] : List UInt8))) (now := 6) hp hy43)) rfl rfl rfl ?_
          rintro _ w44 ⟨U47, hb48, rfl, h46⟩
          have h45 : Sat W w44 [ow elU8 r18 r29 5 r3_2, blk b1 (bytesV (List.ofFn (n := 20) (fun _ => 0)) ++ ([(.int .u64 0), (.int .u64 5), (.int .u32 3), (.bool false), (.int .u16 0), (.int .u16 0), (.int .u16 80), (.string (str ([97] : List UInt8)))] : List Value)) 47] := hb48 h46
          refine G.on rfl rfl (not_t hc42) ?_
          refine G.yl (yl_eq32 (b := 2) rfl rfl) rfl rfl rfl ?_
          refine G.yl (yl_pick_t rfl (not_t hc42) rfl) rfl rfl rfl ?_
          refine G.yl (yl_move rfl) rfl rfl rfl ?_
          rcases sp_ite hm with ⟨hc49, hm⟩ | ⟨hc49, hm⟩
          · refine G.on rfl rfl (dec_t hc49) ?_
            refine G.yl (yl_move rfl) rfl rfl rfl ?_
            refine G.on rfl rfl (dec_t hc49) ?_
            refine G.yl (yl_eqI rfl rfl) rfl rfl rfl ?_
            refine G.yl (yl_pick_t rfl (dec_t hc49) rfl) rfl rfl rfl ?_
            refine G.yl (yl_move rfl) rfl rfl rfl ?_
            rcases sp_ite hm with ⟨hc50, hm⟩ | ⟨hc50, hm⟩
            · refine G.on rfl rfl (dec_t hc50) ?_
              refine G.yl (yl_move rfl) rfl rfl rfl ?_
              refine G.on rfl rfl (dec_t hc50) ?_
              refine G.yl (yl_lenE Try.underlying49 rfl) rfl rfl rfl ?_
              refine G.on rfl rfl (dec_t hc50) ?_
              refine G.yl (yl_eqI rfl rfl) rfl rfl rfl ?_
              refine G.yl (yl_pick_t rfl (dec_t hc50) rfl) rfl rfl rfl ?_
              refine G.yl (yl_assign rfl) rfl rfl rfl ?_
              refine G.nil ?_
              refine QA.then_normal ?_
              refine C.ret ?_
              refine QA.ret1 rfl rfl ?_
              obtain rfl := sp_ret1 hm
              exact ⟨rfl, (Sat.pick [] h45)⟩
            · refine G.offU rfl rfl (dec_f hc50) rfl ?_
              refine G.offU rfl rfl (dec_f hc50) rfl ?_
              refine G.offU rfl rfl (dec_f hc50) rfl ?_
              refine G.yl (yl_pick_f rfl (dec_f hc50) rfl) rfl rfl rfl ?_
              refine G.yl (yl_assign rfl) rfl rfl rfl ?_
              refine G.nil ?_
              refine QA.then_normal ?_
              refine C.ret ?_
              refine QA.ret1 rfl rfl ?_
              obtain rfl := sp_ret1 hm
              exact ⟨rfl, (Sat.pick [] h45)⟩
          · refine G.offU rfl rfl (dec_f hc49) rfl ?_
            refine G.offU rfl rfl (dec_f hc49) rfl ?_
            refine G.yl (yl_pick_f rfl (dec_f hc49) rfl) rfl rfl rfl ?_
            refine G.yl (yl_move rfl) rfl rfl rfl ?_
            refine G.offU rfl rfl rfl rfl ?_
            refine G.offU rfl rfl rfl rfl ?_
            refine G.offU rfl rfl rfl rfl ?_
            refine G.yl (yl_pick_f rfl rfl rfl) rfl rfl rfl ?_
            refine G.yl (yl_assign rfl) rfl rfl rfl ?_
            refine G.nil ?_
            refine QA.then_normal ?_
            refine C.ret ?_
            refine QA.ret1 rfl rfl ?_
            obtain rfl := sp_ret1 hm
            exact ⟨rfl, (Sat.pick [] h45)⟩
      · refine G.offU rfl rfl hc35 rfl ?_
        refine G.offU rfl rfl hc35 rfl ?_
        refine G.offU rfl rfl hc35 rfl ?_
        refine G.yl (yl_pick_f rfl hc35 rfl) rfl rfl rfl ?_
        refine G.yl (yl_move rfl) rfl rfl rfl ?_
        refine G.offU rfl rfl rfl rfl ?_
        refine G.offU rfl rfl rfl rfl ?_
        refine G.offU rfl rfl rfl rfl ?_
        refine G.yl (yl_pick_f rfl rfl rfl) rfl rfl rfl ?_
        refine G.yl (yl_move rfl) rfl rfl rfl ?_
        refine G.offU rfl rfl rfl rfl ?_
        refine G.offU rfl rfl rfl rfl ?_
        refine G.yl (yl_pick_f rfl rfl rfl) rfl rfl rfl ?_
        refine G.yl (yl_move rfl) rfl rfl rfl ?_
        refine G.offU rfl rfl rfl rfl ?_
        refine G.offU rfl rfl rfl rfl ?_
        refine G.offU rfl rfl rfl rfl ?_
        refine G.yl (yl_pick_f rfl rfl rfl) rfl rfl rfl ?_
        refine G.yl (yl_assign rfl) rfl rfl rfl ?_
        refine G.nil ?_
        refine QA.then_normal ?_
        refine C.ret ?_
        refine QA.ret1 rfl rfl ?_
        obtain rfl := sp_ret1 hm
        exact ⟨rfl, (Sat.pick [] h31)⟩
  · refine G.offU rfl rfl hc21 rfl ?_
    refine G.offU rfl rfl hc21 rfl ?_
    refine G.offU rfl rfl hc21 rfl ?_
    refine G.yl (yl_pick_f rfl hc21 rfl) rfl rfl rfl ?_
    refine G.yl (yl_move rfl) rfl rfl rfl ?_
    refine G.offU rfl rfl rfl rfl ?_
    refine G.offU rfl rfl rfl rfl ?_
    refine G.yl (yl_pick_f rfl rfl rfl) rfl rfl rfl ?_
    refine G.yl (yl_move rfl) rfl rfl rfl ?_
    refine G.offU rfl rfl rfl rfl ?_
    refine G.offU rfl rfl rfl rfl ?_
    refine G.offU rfl rfl rfl rfl ?_
    refine G.yl (yl_pick_f rfl rfl rfl) rfl rfl rfl ?_
    refine G.yl (yl_move rfl) rfl rfl rfl ?_
    refine G.offU rfl rfl rfl rfl ?_
    refine G.offU rfl rfl rfl rfl ?_
    refine G.offU rfl rfl rfl rfl ?_
    refine G.yl (yl_pick_f rfl rfl rfl) rfl rfl rfl ?_
    refine G.yl (yl_move rfl) rfl rfl rfl ?_
    refine G.offU rfl rfl rfl rfl ?_
    refine G.offU rfl rfl rfl rfl ?_
    refine G.yl (yl_pick_f rfl rfl rfl) rfl rfl rfl ?_
    refine G.yl (yl_move rfl) rfl rfl rfl ?_
    refine G.offU rfl rfl rfl rfl ?_
    refine G.offU rfl rfl rfl rfl ?_
    refine G.offU rfl rfl rfl rfl ?_
    refine G.yl (yl_pick_f rfl rfl rfl) rfl rfl rfl ?_
    refine G.yl (yl_assign rfl) rfl rfl rfl ?_
    refine G.nil ?_
    refine QA.then_normal ?_
    refine C.ret ?_
    refine QA.ret1 rfl rfl ?_
    obtain rfl := sp_ret1 hm
    exact ⟨rfl, (Sat.pick [] h17)⟩
set_option maxRecDepth 20000 in
set_option maxHeartbeats 1000000 in
theorem M_octet_Open_v_w {W : Base} {w : World} {a : Option Addr} {c : Nat} {b : List UInt8} (hv_b : V W a (elU8.row b)) (hq_b : b.length ≤ c) (h : Sat W w [])  (hm : M_octet_Open_v b = some ()) :
    Calls Try.prog 52 #[(.slice a b.length c)] w (Ret fun v w' => ∃ r1 : Nat, ∃ r2 : Option Addr, ∃ r3 : Nat, v = (.pointer (some ⟨r1, 0, none⟩)) ∧ Sat W w' [blk r1 [(.slice r2 ((([] : List UInt8) ++ b).length) r3), (.bool true), (.bool false)] 155, ow elU8 r2 r3 5 (([] : List UInt8) ++ b)]) := by
  unfold M_octet_Open_v at hm
  refine C.enter (N := 9) Try.func52 rfl Try.ntmps52 rfl ?_
  show C _ _ _ [(0, (.slice a b.length c))] _ _
  refine C.seq ?_
  refine C.region ?_
  refine G.yl (yl_assign rfl) rfl rfl rfl ?_
  refine G.nil ?_
  refine QA.then_normal ?_
  refine C.seq ?_
  refine C.region ?_
  refine G.does (does_lit (E := elU8) (l := ([] : List UInt8)) (vs := []) (cs := []) (e := 5) h rfl (by kernel_rfl) rfl rfl (by decide)) rfl rfl rfl ?_
  rintro _ w2 ⟨a1, rfl, h3⟩
  refine G.yl (yl_move rfl) rfl rfl rfl ?_
  obtain ⟨hc4, hm⟩ := sp_chk hm
  refine G.does (does_app (E := elU8) (l := ([] : List UInt8)) (l2 := b) Try.underlying49 el5 (Sat.own_zero h3 elU8 a1 5) rfl rfl rfl rfl (by decide) (hv_b.at_ h3) hc4 (by decide)) rfl rfl rfl ?_
  rintro _ w7 ⟨a5, c6, rfl, h8⟩
  refine G.yl (yl_build (vs := [(.slice a5 ((([] : List UInt8) ++ b).length) c6), (.bool true)]) (cells := #[(.slice a5 ((([] : List UInt8) ++ b).length) c6), (.bool true), (.bool false)]) rfl (by kernel_rfl)) rfl rfl rfl ?_
  refine G.yl (yl_build (vs := [(.agg #[(.slice a5 ((([] : List UInt8) ++ b).length) c6), (.bool true), (.bool false)])]) (cells := #[(.slice a5 ((([] : List UInt8) ++ b).length) c6), (.bool true), (.bool false)]) rfl (by kernel_rfl)) rfl rfl rfl ?_
  refine G.does (does_box (cs := [(.slice a5 ((([] : List UInt8) ++ b).length) c6), (.bool true), (.bool false)]) h8 rfl rfl) rfl rfl rfl ?_
  rintro _ w10 ⟨b9, rfl, h11⟩
  refine G.yl (yl_assign rfl) rfl rfl rfl ?_
  refine G.nil ?_
  refine QA.then_normal ?_
  refine C.ret ?_
  refine QA.ret1 rfl rfl ?_
  exact ⟨b9, a5, c6, rfl, (Sat.pick [0, 0] h11)⟩
set_option maxRecDepth 20000 in
set_option maxHeartbeats 1000000 in
theorem M_octet_Reader_none_po_w {W : Base} {w : World} {b : Nat} {a : Option Addr} {c : Nat} {b2 : List UInt8} {open_ : Bool} {bad : Bool}  (h : Sat W w [blk b [(.slice a b2.length c), (.bool open_), (.bool bad)] 155, ow elU8 a c 5 b2])  (hm : M_octet_Reader_none_po b2 open_ bad = some ()) :
    Calls Try.prog 116 #[(.pointer (some ⟨b, 0, none⟩))] w (Ret fun v w' => v = (.bool (!open_)) ∧ Sat W w' [blk b [(.slice a b2.length c), (.bool open_), (.bool bad)] 155, ow elU8 a c 5 b2]) := by
  unfold M_octet_Reader_none_po at hm
  refine C.enter (N := 13) Try.func116 rfl Try.ntmps116 rfl ?_
  show C _ _ _ [(0, (.pointer (some ⟨b, 0, none⟩)))] _ _
  refine C.seq ?_
  refine C.region ?_
  refine G.yl (yl_assign rfl) rfl rfl rfl ?_
  refine G.nil ?_
  refine QA.then_normal ?_
  refine C.seq ?_
  refine C.region ?_
  refine G.yl (yl_move rfl) rfl rfl rfl ?_
  refine G.yl (yl_eq_nil np93 rfl rfl) rfl rfl rfl ?_
  refine G.yl (yl_move rfl) rfl rfl rfl ?_
  refine G.on rfl rfl rfl ?_
  refine G.yl (yl_move rfl) rfl rfl rfl ?_
  refine G.on rfl rfl rfl ?_
  refine G.yl (yl_nilCheck rfl) rfl rfl rfl ?_
  refine G.on rfl rfl rfl ?_
  refine G.yl (yl_fieldAddr fo155_0 rfl) rfl rfl rfl ?_
  refine G.on rfl rfl rfl ?_
  refine G.yl (yl_fieldAddr fo153_1 rfl) rfl rfl rfl ?_
  refine G.on rfl rfl rfl ?_
  refine G.yl (yl_load (v := (.bool open_)) ag4 rfl (View.at0 (j := 1) h.isBlk.view0 rfl)) rfl rfl rfl ?_
  refine G.on rfl rfl rfl ?_
  refine G.yl (yl_not rfl) rfl rfl rfl ?_
  refine G.yl (yl_pick_f rfl rfl rfl) rfl rfl rfl ?_
  refine G.yl (yl_assign rfl) rfl rfl rfl ?_
  refine G.nil ?_
  refine QA.then_normal ?_
  refine C.ret ?_
  refine QA.ret1 rfl rfl ?_
  exact ⟨rfl, (Sat.pick [0, 0] h)⟩
set_option maxRecDepth 20000 in
set_option maxHeartbeats 1000000 in
theorem M_octet_rest_fail_po_w {W : Base} {w : World} {b : Nat} {a : Option Addr} {c : Nat} {b2 : List UInt8} {open_ : Bool} {bad : Bool}  (h : Sat W w [blk b [(.slice a b2.length c), (.bool open_), (.bool bad)] 155, ow elU8 a c 5 b2])  (hm : M_octet_rest_fail_po b2 open_ bad = some ()) :
    Calls Try.prog 144 #[(.pointer (some ⟨b, 0, none⟩))] w (Ret fun v w' => v = (.tuple #[]) ∧ Sat W w' [blk b [(.slice none 0 0), (.bool open_), (.bool true)] 155]) := by
  unfold M_octet_rest_fail_po at hm
  refine C.enter (N := 8) Try.func144 rfl Try.ntmps144 rfl ?_
  show C _ _ _ [(0, (.pointer (some ⟨b, 0, none⟩)))] _ _
  refine C.region ?_
  refine G.yl (yl_move rfl) rfl rfl rfl ?_
  refine G.yl (yl_move rfl) rfl rfl rfl ?_
  refine G.yl (yl_nilCheck rfl) rfl rfl rfl ?_
  refine G.yl (yl_fieldAddr fo153_0 rfl) rfl rfl rfl ?_
  refine G.unit (does_store (vs := [(.slice none 0 0)]) h sz49 rfl rfl rfl rfl (List.forall_mem_cons.2 ⟨rfl, (fun _ hh => by cases hh)⟩) (Nat.le_of_ble_eq_true rfl)) rfl rfl ?_
  rintro _ w1 h3
  have h2 : Sat W w1 [blk b [(.slice none 0 0), (.bool open_), (.bool bad)] 155, ow elU8 a c 5 b2] := h3
  refine G.yl (yl_nilCheck rfl) rfl rfl rfl ?_
  refine G.yl (yl_fieldAddr fo153_2 rfl) rfl rfl rfl ?_
  refine G.unit (does_store (vs := [(.bool true)]) h2 sz4 rfl rfl rfl rfl (List.forall_mem_cons.2 ⟨rfl, (fun _ hh => by cases hh)⟩) (Nat.le_of_ble_eq_true rfl)) rfl rfl ?_
  rintro _ w4 h6
  have h5 : Sat W w4 [blk b [(.slice none 0 0), (.bool open_), (.bool true)] 155, ow elU8 a c 5 b2] := h6
  refine G.nil ?_
  refine QA.end0 rfl ?_
  exact ⟨rfl, (Sat.pick [0] h5)⟩
set_option maxRecDepth 20000 in
set_option maxHeartbeats 1000000 in
theorem M_octet_rest_cut_po_w {W : Base} {w : World} {b : Nat} {a : Option Addr} {c : Nat} {b2 : List UInt8} {open_ : Bool} {bad : Bool} {n : Int}  (h : Sat W w [blk b [(.slice a b2.length c), (.bool open_), (.bool bad)] 155, ow elU8 a c 5 b2]) {r : Unit ⊕ Unit} (hm : M_octet_rest_cut_po b2 open_ bad n = some r) :
    Calls Try.prog 143 #[(.pointer (some ⟨b, 0, none⟩)), (vI n)] w (Ret fun v w' => match r with | .inl () => v = (.tuple #[(.slice none 0 0), (.bool false)]) ∧ Sat W w' [blk b [(.slice none 0 0), (.bool open_), (.bool true)] 155] | .inr () => ∃ r1 : Option Addr, v = (.tuple #[(.slice a ((b2.take n.toNat).length) c), (.bool true)]) ∧ (Cut r1 a c n.toNat 1) ∧ Sat W w' [ow elU8 a c 5 b2, blk b [(.slice r1 ((b2.drop n.toNat).length) (c - n.toNat)), (.bool open_), (.bool bad)] 155]) := by
  unfold M_octet_rest_cut_po at hm
  refine C.enter (N := 42) Try.func143 rfl Try.ntmps143 rfl ?_
  show C _ _ _ [(0, (.pointer (some ⟨b, 0, none⟩))), (1, (vI n))] _ _
  refine C.seq ?_
  refine C.region ?_
  refine G.yl (yl_assign rfl) rfl rfl rfl ?_
  refine G.yl (yl_assign rfl) rfl rfl rfl ?_
  refine G.nil ?_
  refine QA.then_normal ?_
  refine C.seq ?_
  refine C.join (γ := Bool) (fun g => match g with | t23 => [(0, (.pointer (some ⟨b, 0, none⟩))), (1, (vI n)), (4, (.slice none 0 0)), (5, (.bool false)), (23, (.bool t23))]) (fun g ww => match g with | t23 => (M_octet_rest_cut_po_k1 b2 bad n open_ t23 = some r) ∧ Sat W ww [blk b [(.slice a b2.length c), (.bool open_), (.bool bad)] 155, ow elU8 a c 5 b2]) ?_ ?_
  · refine C.region ?_
    refine G.yl (yl_move rfl) rfl rfl rfl ?_
    refine G.yl (yl_nilCheck rfl) rfl rfl rfl ?_
    refine G.yl (yl_fieldAddr fo153_2 rfl) rfl rfl rfl ?_
    refine G.yl (yl_load (v := (.bool bad)) ag4 rfl (View.at0 (j := 2) h.isBlk.view0 rfl)) rfl rfl rfl ?_
    refine G.yl (yl_move rfl) rfl rfl rfl ?_
    rcases sp_b hm with ⟨hc1, hm⟩ | ⟨hc1, hm⟩
    · refine G.offU rfl rfl hc1 rfl ?_
      refine G.offU rfl rfl hc1 rfl ?_
      refine G.yl (yl_pick_t rfl hc1 rfl) rfl rfl rfl ?_
      refine G.yl (yl_move rfl) rfl rfl rfl ?_
      refine G.offU rfl rfl rfl rfl ?_
      refine G.offU rfl rfl rfl rfl ?_
      refine G.offU rfl rfl rfl rfl ?_
      refine G.offU rfl rfl rfl rfl ?_
      refine G.offU rfl rfl rfl rfl ?_
      refine G.offU rfl rfl rfl rfl ?_
      refine G.offU rfl rfl rfl rfl ?_
      refine G.yl (yl_pick_t rfl rfl rfl) rfl rfl rfl ?_
      refine G.nil ?_
      exact QA.join true (Sub.of ⟨rfl, rfl, rfl, rfl, rfl, trivial⟩) ⟨hm, (Sat.pick [0, 0] h)⟩
    · refine G.on rfl rfl hc1 ?_
      refine G.yl (yl_move rfl) rfl rfl rfl ?_
      refine G.on rfl rfl hc1 ?_
      refine G.yl (yl_ltI rfl rfl) rfl rfl rfl ?_
      refine G.yl (yl_pick_f rfl hc1 rfl) rfl rfl rfl ?_
      refine G.yl (yl_move rfl) rfl rfl rfl ?_
      rcases sp_ite hm with ⟨hc2, hm⟩ | ⟨hc2, hm⟩
      · refine G.offU rfl rfl (dec_t hc2) rfl ?_
        refine G.offU rfl rfl (dec_t hc2) rfl ?_
        refine G.offU rfl rfl (dec_t hc2) rfl ?_
        refine G.offU rfl rfl (dec_t hc2) rfl ?_
        refine G.offU rfl rfl (dec_t hc2) rfl ?_
        refine G.offU rfl rfl (dec_t hc2) rfl ?_
        refine G.offU rfl rfl (dec_t hc2) rfl ?_
        refine G.yl (yl_pick_t rfl (dec_t hc2) rfl) rfl rfl rfl ?_
        refine G.nil ?_
        exact QA.join true (Sub.of ⟨rfl, rfl, rfl, rfl, rfl, trivial⟩) ⟨hm, (Sat.pick [0, 0] h)⟩
      · refine G.on rfl rfl (dec_f hc2) ?_
        refine G.yl (yl_move rfl) rfl rfl rfl ?_
        refine G.on rfl rfl (dec_f hc2) ?_
        refine G.yl (yl_move rfl) rfl rfl rfl ?_
        refine G.on rfl rfl (dec_f hc2) ?_
        refine G.yl (yl_nilCheck rfl) rfl rfl rfl ?_
        refine G.on rfl rfl (dec_f hc2) ?_
        refine G.yl (yl_fieldAddr fo153_0 rfl) rfl rfl rfl ?_
        refine G.on rfl rfl (dec_f hc2) ?_
        refine G.yl (yl_load (v := (.slice a b2.length c)) ag49 rfl (View.at0 (j := 0) h.isBlk.view0 rfl)) rfl rfl rfl ?_
        refine G.on rfl rfl (dec_f hc2) ?_
        refine G.yl (yl_lenE Try.underlying49 rfl) rfl rfl rfl ?_
        refine G.on rfl rfl (dec_f hc2) ?_
        refine G.yl (yl_gtI rfl rfl) rfl rfl rfl ?_
        refine G.yl (yl_pick_f rfl (dec_f hc2) rfl) rfl rfl rfl ?_
        refine G.nil ?_
        exact QA.join (decide ((b2.length : Int) < n)) (Sub.of ⟨rfl, rfl, rfl, rfl, rfl, trivial⟩) ⟨hm, (Sat.pick [0, 0] h)⟩
  · rintro t23 w3 ⟨hm, h4⟩
    show C _ _ _ [(0, (.pointer (some ⟨b, 0, none⟩))), (1, (vI n)), (4, (.slice none 0 0)), (5, (.bool false)), (23, (.bool t23))] _ _
    unfold M_octet_rest_cut_po_k1 at hm
    rcases sp_b hm with ⟨hc5, hm⟩ | ⟨hc5, hm⟩
    · refine C.cond_t rfl hc5 ?_
      refine C.seq ?_
      refine C.region ?_
      refine G.yl (yl_move rfl) rfl rfl rfl ?_
      obtain ⟨_, hy6, hm⟩ := sp_bind hm
      refine G.does (does_fn 2 rfl rfl rfl en144 (Sat.pick [0, 0] h4) (fun U hU hp hr hs => M_octet_rest_fail_po_w (b2 := b2) (open_ := open_) (bad := bad) hp hy6)) rfl rfl rfl ?_
      rintro _ w7 ⟨U10, hb11, rfl, h9⟩
      have h8 : Sat W w7 [blk b [(.slice none 0 0), (.bool open_), (.bool true)] 155] := hb11 h9
      refine G.nil ?_
      refine QA.then_normal ?_
      refine C.seq ?_
      refine C.region ?_
      refine G.yl (yl_assign rfl) rfl rfl rfl ?_
      refine G.yl (yl_assign rfl) rfl rfl rfl ?_
      refine G.nil ?_
      refine QA.then_normal ?_
      refine C.ret ?_
      refine QA.then_ret ?_
      refine QA.ret2 rfl rfl rfl ?_
      obtain rfl := sp_ret1 hm
      exact ⟨rfl, (Sat.pick [0] h8)⟩
    · refine C.cond_f rfl hc5 ?_
      refine C.skip ?_
      refine QA.then_normal ?_
      refine C.seq ?_
      refine C.region ?_
      refine G.yl (yl_move rfl) rfl rfl rfl ?_
      refine G.yl (yl_nilCheck rfl) rfl rfl rfl ?_
      refine G.yl (yl_fieldAddr fo153_0 rfl) rfl rfl rfl ?_
      refine G.yl (yl_load (v := (.slice a b2.length c)) ag49 rfl (View.at0 (j := 0) h4.isBlk.view0 rfl)) rfl rfl rfl ?_
      refine G.yl (yl_move rfl) rfl rfl rfl ?_
      obtain ⟨hc12, hm⟩ := sp_chk hm
      refine G.yl (yl_slH (E := elU8) (l := b2) sl49 rfl rfl rfl hc12 (Sat.own_cap (Sat.pick [1] h4)).1) rfl rfl rfl ?_
      refine G.yl (yl_assign rfl) rfl rfl rfl ?_
      refine G.nil ?_
      refine QA.then_normal ?_
      refine C.seq ?_
      refine C.region ?_
      refine G.yl (yl_move rfl) rfl rfl rfl ?_
      refine G.yl (yl_move rfl) rfl rfl rfl ?_
      refine G.yl (yl_nilCheck rfl) rfl rfl rfl ?_
      refine G.yl (yl_fieldAddr fo153_0 rfl) rfl rfl rfl ?_
      refine G.yl (yl_load (v := (.slice a b2.length c)) ag49 rfl (View.at0 (j := 0) h4.isBlk.view0 rfl)) rfl rfl rfl ?_
      refine G.yl (yl_move rfl) rfl rfl rfl ?_
      obtain ⟨a13, ha14⟩ : ∃ p', Cut p' a c n.toNat 1 := Cut.mk _ _ _ _
      obtain ⟨hc15, hm⟩ := sp_chk hm
      refine G.yl (yl_slL (E := elU8) (l := b2) sl49 rfl rfl rfl hc15 ha14) rfl rfl rfl ?_
      refine G.yl (yl_nilCheck rfl) rfl rfl rfl ?_
      refine G.yl (yl_fieldAddr fo153_0 rfl) rfl rfl rfl ?_
      refine G.unit (does_store (vs := [(.slice a13 ((b2.drop n.toNat).length) (c - n.toNat))]) h4 sz49 rfl rfl rfl rfl (List.forall_mem_cons.2 ⟨rfl, (fun _ hh => by cases hh)⟩) (Nat.le_of_ble_eq_true rfl)) rfl rfl ?_
      rintro _ w16 h18
      have h17 : Sat W w16 [blk b [(.slice a13 ((b2.drop n.toNat).length) (c - n.toNat)), (.bool open_), (.bool bad)] 155, ow elU8 a c 5 b2] := h18
      refine G.nil ?_
      refine QA.then_normal ?_
      refine C.seq ?_
      refine C.region ?_
      refine G.yl (yl_move rfl) rfl rfl rfl ?_
      refine G.yl (yl_assign rfl) rfl rfl rfl ?_
      refine G.yl (yl_assign rfl) rfl rfl rfl ?_
      refine G.nil ?_
      refine QA.then_normal ?_
      refine C.ret ?_
      refine QA.ret2 rfl rfl rfl ?_
      obtain rfl := sp_ret1 hm
      exact ⟨a13, rfl, ha14, (Sat.pick [1, 0] h17)⟩
set_option maxRecDepth 20000 in
set_option maxHeartbeats 1000000 in
theorem M_octet_Reader_Take_po_w {W : Base} {w : World} {b : Nat} {a : Option Addr} {c : Nat} {b2 : List UInt8} {open_ : Bool} {bad : Bool} {n : Int}  (h : Sat W w [blk b [(.slice a b2.length c), (.bool open_), (.bool bad)] 155, ow elU8 a c 5 b2]) {r3 : List UInt8} {r6 : List UInt8} {r7 : Bool} (hm : M_octet_Reader_Take_po b2 open_ bad n = some (r3, r6, r7)) :
    Calls Try.prog 110 #[(.pointer (some ⟨b, 0, none⟩)), (vI n)] w (Ret fun v w' => ∃ r1 : Option Addr, ∃ r2 : Nat, ∃ r4 : Option Addr, ∃ r5 : Nat, v = (.slice r1 r3.length r2) ∧ Sat W w' [ow elU8 r1 r2 5 r3, blk b [(.slice r4 r6.length r5), (.bool open_), (.bool r7)] 155, ow elU8 r4 r5 5 r6]) := by
  unfold M_octet_Reader_Take_po at hm
  refine C.enter (N := 22) Try.func110 rfl Try.ntmps110 rfl ?_
  show C _ _ _ [(0, (.pointer (some ⟨b, 0, none⟩))), (1, (vI n))] _ _
  refine C.seq ?_
  refine C.region ?_
  refine G.yl (yl_assign rfl) rfl rfl rfl ?_
  refine G.nil ?_
  refine QA.then_normal ?_
  refine C.seq ?_
  refine C.seq ?_
  refine C.region ?_
  refine G.yl (yl_move rfl) rfl rfl rfl ?_
  obtain ⟨_, hy1, hm⟩ := sp_bind hm
  refine G.does (does_fn 2 rfl rfl rfl en116 (Sat.pick [0, 0] h) (fun U hU hp hr hs => M_octet_Reader_none_po_w (b2 := b2) (open_ := open_) (bad := bad) hp hy1)) rfl rfl rfl ?_
  rintro _ w2 ⟨U5, hb6, rfl, h4⟩
  have h3 : Sat W w2 [blk b [(.slice a b2.length c), (.bool open_), (.bool bad)] 155, ow elU8 a c 5 b2] := hb6 h4
  refine G.nil ?_
  refine QA.then_normal ?_
  rcases sp_b hm with ⟨hc7, hm⟩ | ⟨hc7, hm⟩
  · refine C.cond_f rfl (not_f hc7) ?_
    refine C.skip ?_
    refine QA.then_normal ?_
    refine C.seq ?_
    refine C.region ?_
    refine G.yl (yl_move rfl) rfl rfl rfl ?_
    refine G.yl (yl_nilCheck rfl) rfl rfl rfl ?_
    refine G.yl (yl_fieldAddr fo155_0 rfl) rfl rfl rfl ?_
    refine G.yl (yl_move rfl) rfl rfl rfl ?_
    obtain ⟨y_, hy8, hm⟩ := sp_bind hm
    rcases y_ with _ | _
    · refine G.does (does_fn 2 rfl rfl rfl en143 (Sat.pick [0, 0] h3) (fun U hU hp hr hs => M_octet_rest_cut_po_w (b2 := b2) (open_ := open_) (bad := bad) (n := n) hp hy8)) rfl rfl rfl ?_
      rintro _ w9 ⟨U12, hb13, rfl, h11⟩
      have h10 : Sat W w9 [blk b [(.slice none 0 0), (.bool open_), (.bool true)] 155] := hb13 h11
      refine G.yl (yl_move rfl) rfl rfl rfl ?_
      refine G.yl (yl_extract rfl rfl) rfl rfl rfl ?_
      refine G.yl (yl_extract rfl rfl) rfl rfl rfl ?_
      refine G.yl (yl_assign rfl) rfl rfl rfl ?_
      refine G.yl (yl_assign rfl) rfl rfl rfl ?_
      refine G.nil ?_
      refine QA.then_normal ?_
      refine C.seq ?_
      refine C.seq ?_
      refine C.region ?_
      refine G.yl (yl_move rfl) rfl rfl rfl ?_
      refine G.yl (yl_not rfl) rfl rfl rfl ?_
      refine G.nil ?_
      refine QA.then_normal ?_
      refine C.cond_t rfl (not_t rfl) ?_
      refine C.seq ?_
      refine C.region ?_
      refine G.yl (yl_assign rfl) rfl rfl rfl ?_
      refine G.nil ?_
      refine QA.then_normal ?_
      refine C.ret ?_
      refine QA.then_ret ?_
      refine QA.ret1 rfl rfl ?_
      obtain ⟨rfl, rfl, rfl⟩ := sp_ret3 hm
      exact ⟨none, 0, none, 0, rfl, (Sat.pick [0, 1, 0] (Sat.own_zero (Sat.own_zero h10 elU8 none 5) elU8 none 5))⟩
    · refine G.does (does_fn 2 rfl rfl rfl en143 (Sat.pick [0, 0] h3) (fun U hU hp hr hs => M_octet_rest_cut_po_w (b2 := b2) (open_ := open_) (bad := bad) (n := n) hp hy8)) rfl rfl rfl ?_
      rintro _ w16 ⟨U19, hb20, r114, rfl, hf15, h18⟩
      have h17 : Sat W w16 [ow elU8 a c 5 b2, blk b [(.slice r114 ((b2.drop n.toNat).length) (c - n.toNat)), (.bool open_), (.bool bad)] 155] := hb20 h18
      refine G.yl (yl_move rfl) rfl rfl rfl ?_
      refine G.yl (yl_extract rfl rfl) rfl rfl rfl ?_
      refine G.yl (yl_extract rfl rfl) rfl rfl rfl ?_
      refine G.yl (yl_assign rfl) rfl rfl rfl ?_
      refine G.yl (yl_assign rfl) rfl rfl rfl ?_
      refine G.nil ?_
      refine QA.then_normal ?_
      refine C.seq ?_
      refine C.seq ?_
      refine C.region ?_
      refine G.yl (yl_move rfl) rfl rfl rfl ?_
      refine G.yl (yl_not rfl) rfl rfl rfl ?_
      refine G.nil ?_
      refine QA.then_normal ?_
      refine C.cond_f rfl (not_f rfl) ?_
      refine C.skip ?_
      refine QA.then_normal ?_
      refine C.seq ?_
      refine C.region ?_
      refine G.does (does_lit (E := elU8) (l := ([] : List UInt8)) (vs := []) (cs := []) (e := 5) h17 rfl (by kernel_rfl) rfl rfl (by decide)) rfl rfl rfl ?_
      rintro _ w22 ⟨a21, rfl, h23⟩
      refine G.yl (yl_move rfl) rfl rfl rfl ?_
      obtain ⟨hc24, hm⟩ := sp_chk hm
      refine G.does (does_app (E := elU8) (l := ([] : List UInt8)) (l2 := b2.take n.toNat) Try.underlying49 el5 (Sat.own_zero h23 elU8 a21 5) rfl rfl rfl rfl (by decide) (View.rtake (Sat.own_view (Sat.pick [1] h23)) n.toNat) hc24 (by decide)) rfl rfl rfl ?_
      rintro _ w27 ⟨a25, c26, rfl, h28⟩
      refine G.yl (yl_assign rfl) rfl rfl rfl ?_
      refine G.nil ?_
      refine QA.then_normal ?_
      refine C.ret ?_
      refine QA.ret1 rfl rfl ?_
      have h29 : Sat W w27 [ow elU8 r114 (c - n.toNat) 5 (b2.drop n.toNat), ow elU8 a25 c26 5 (([] : List UInt8) ++ (b2.take n.toNat)), ow elU8 a21 0 5 ([] : List UInt8), blk b [(.slice r114 ((b2.drop n.toNat).length) (c - n.toNat)), (.bool open_), (.bool bad)] 155] := Sat.own_cut (Sat.pick [2, 0, 0, 0] h28) hf15
      obtain ⟨rfl, rfl, rfl⟩ := sp_ret3 hm
      exact ⟨a25, c26, r114, c - n.toNat, rfl, (Sat.pick [1, 2, 0] h29)⟩
  · refine C.cond_t rfl (not_t hc7) ?_
    refine C.seq ?_
    refine C.region ?_
    refine G.yl (yl_assign rfl) rfl rfl rfl ?_
    refine G.nil ?_
    refine QA.then_normal ?_
    refine C.ret ?_
    refine QA.then_ret ?_
    refine QA.ret1 rfl rfl ?_
    obtain ⟨rfl, rfl, rfl⟩ := sp_ret3 hm
    exact ⟨none, 0, a, c, rfl, (Sat.pick [0, 0, 0] (Sat.own_zero h3 elU8 none 5))⟩
set_option maxRecDepth 20000 in
set_option maxHeartbeats 1000000 in
theorem M_octet_Get_v_w {W : Base} {w : World} {a : Option Addr} {c : Nat} {b : List UInt8} {at_ : Int} {width : Int} (hv_b : V W a (elU8.row b)) (hq_b : b.length ≤ c) (h : Sat W w []) {r1 : UInt64} {r2 : Bool} (hm : M_octet_Get_v b at_ width = some (r1, r2)) :
    Calls Try.prog 145 #[(.slice a b.length c), (vI at_), (vI width)] w (Ret fun v w' => v = (.tuple #[(v64 r1), (.bool r2)]) ∧ Sat W w' []) := by
  unfold M_octet_Get_v at hm
  refine C.enter (N := 50) Try.func145 rfl Try.ntmps145 rfl ?_
  show C _ _ _ [(0, (.slice a b.length c)), (1, (vI at_)), (2, (vI width))] _ _
  refine C.seq ?_
  refine C.region ?_
  refine G.yl (yl_assign rfl) rfl rfl rfl ?_
  refine G.yl (yl_assign rfl) rfl rfl rfl ?_
  refine G.nil ?_
  refine QA.then_normal ?_
  refine C.seq ?_
  refine C.join (γ := Bool) (fun g => match g with | t31 => [(0, (.slice a b.length c)), (1, (vI at_)), (2, (vI width)), (6, (.int .u64 0)), (7, (.bool false)), (31, (.bool t31))]) (fun g ww => match g with | t31 => (M_octet_Get_v_k1 at_ b width t31 = some (r1, r2)) ∧ Sat W ww []) ?_ ?_
  · refine C.region ?_
    refine G.yl (yl_move rfl) rfl rfl rfl ?_
    obtain ⟨r1_2, hy1, hm⟩ := sp_bind hm
    refine G.does (does_fn 0 rfl rfl rfl en133 h (fun U hU hp hr hs => M_octet_may_w (width := width) hp hy1)) rfl rfl rfl ?_
    rintro _ w2 ⟨U5, hb6, rfl, h4⟩
    have h3 : Sat W w2 [] := hb6 h4
    refine G.yl (yl_not rfl) rfl rfl rfl ?_
    refine G.yl (yl_move rfl) rfl rfl rfl ?_
    rcases sp_b hm with ⟨hc7, hm⟩ | ⟨hc7, hm⟩
    · refine G.on rfl rfl (not_f hc7) ?_
      refine G.yl (yl_move rfl) rfl rfl rfl ?_
      refine G.on rfl rfl (not_f hc7) ?_
      refine G.yl (yl_ltI rfl rfl) rfl rfl rfl ?_
      refine G.yl (yl_pick_f rfl (not_f hc7) rfl) rfl rfl rfl ?_
      refine G.yl (yl_move rfl) rfl rfl rfl ?_
      rcases sp_ite hm with ⟨hc8, hm⟩ | ⟨hc8, hm⟩
      · refine G.offU rfl rfl (dec_t hc8) rfl ?_
        refine G.offU rfl rfl (dec_t hc8) rfl ?_
        refine G.offU rfl rfl (dec_t hc8) rfl ?_
        refine G.offU rfl rfl (dec_t hc8) rfl ?_
        refine G.yl (yl_pick_t rfl (dec_t hc8) rfl) rfl rfl rfl ?_
        refine G.yl (yl_move rfl) rfl rfl rfl ?_
        refine G.offU rfl rfl rfl rfl ?_
        refine G.offU rfl rfl rfl rfl ?_
        refine G.offU rfl rfl rfl rfl ?_
        refine G.offU rfl rfl rfl rfl ?_
        refine G.offU rfl rfl rfl rfl ?_
        refine G.offU rfl rfl rfl rfl ?_
        refine G.yl (yl_pick_t rfl rfl rfl) rfl rfl rfl ?_
        refine G.nil ?_
        exact QA.join true (Sub.of ⟨rfl, rfl, rfl, rfl, rfl, rfl, trivial⟩) ⟨hm, (Sat.pick [] h3)⟩
      · refine G.on rfl rfl (dec_f hc8) ?_
        refine G.yl (yl_move rfl) rfl rfl rfl ?_
        refine G.on rfl rfl (dec_f hc8) ?_
        refine G.yl (yl_move rfl) rfl rfl rfl ?_
        refine G.on rfl rfl (dec_f hc8) ?_
        refine G.yl (yl_lenE Try.underlying49 rfl) rfl rfl rfl ?_
        refine G.on rfl rfl (dec_f hc8) ?_
        refine G.yl (yl_gtI rfl rfl) rfl rfl rfl ?_
        refine G.yl (yl_pick_f rfl (dec_f hc8) rfl) rfl rfl rfl ?_
        refine G.yl (yl_move rfl) rfl rfl rfl ?_
        rcases sp_ite hm with ⟨hc9, hm⟩ | ⟨hc9, hm⟩
        · refine G.offU rfl rfl (dec_t hc9) rfl ?_
          refine G.offU rfl rfl (dec_t hc9) rfl ?_
          refine G.offU rfl rfl (dec_t hc9) rfl ?_
          refine G.offU rfl rfl (dec_t hc9) rfl ?_
          refine G.offU rfl rfl (dec_t hc9) rfl ?_
          refine G.offU rfl rfl (dec_t hc9) rfl ?_
          refine G.yl (yl_pick_t rfl (dec_t hc9) rfl) rfl rfl rfl ?_
          refine G.nil ?_
          exact QA.join true (Sub.of ⟨rfl, rfl, rfl, rfl, rfl, rfl, trivial⟩) ⟨hm, (Sat.pick [] h3)⟩
        · refine G.on rfl rfl (dec_f hc9) ?_
          refine G.yl (yl_move rfl) rfl rfl rfl ?_
          refine G.on rfl rfl (dec_f hc9) ?_
          refine G.yl (yl_lenE Try.underlying49 rfl) rfl rfl rfl ?_
          refine G.on rfl rfl (dec_f hc9) ?_
          refine G.yl (yl_move rfl) rfl rfl rfl ?_
          refine G.on rfl rfl (dec_f hc9) ?_
          obtain ⟨hc10, hm⟩ := sp_chk hm
          refine G.yl (yl_subI rfl rfl hc10) rfl rfl rfl ?_
          refine G.on rfl rfl (dec_f hc9) ?_
          refine G.yl (yl_move rfl) rfl rfl rfl ?_
          refine G.on rfl rfl (dec_f hc9) ?_
          refine G.yl (yl_ltI rfl rfl) rfl rfl rfl ?_
          refine G.yl (yl_pick_f rfl (dec_f hc9) rfl) rfl rfl rfl ?_
          refine G.nil ?_
          exact QA.join (decide (((b.length : Int) - at_) < width)) (Sub.of ⟨rfl, rfl, rfl, rfl, rfl, rfl, trivial⟩) ⟨hm, (Sat.pick [] h3)⟩
    · refine G.offU rfl rfl (not_t hc7) rfl ?_
      refine G.offU rfl rfl (not_t hc7) rfl ?_
      refine G.yl (yl_pick_t rfl (not_t hc7) rfl) rfl rfl rfl ?_
      refine G.yl (yl_move rfl) rfl rfl rfl ?_
      refine G.offU rfl rfl rfl rfl ?_
      refine G.offU rfl rfl rfl rfl ?_
      refine G.offU rfl rfl rfl rfl ?_
      refine G.offU rfl rfl rfl rfl ?_
      refine G.yl (yl_pick_t rfl rfl rfl) rfl rfl rfl ?_
      refine G.yl (yl_move rfl) rfl rfl rfl ?_
      refine G.offU rfl rfl rfl rfl ?_
      refine G.offU rfl rfl rfl rfl ?_
      refine G.offU rfl rfl rfl rfl ?_
      refine G.offU rfl rfl rfl rfl ?_
      refine G.offU rfl rfl rfl rfl ?_
      refine G.offU rfl rfl rfl rfl ?_
      refine G.yl (yl_pick_t rfl rfl rfl) rfl rfl rfl ?_
      refine G.nil ?_
      exact QA.join true (Sub.of ⟨rfl, rfl, rfl, rfl, rfl, rfl, trivial⟩) ⟨hm, (Sat.pick [] h3)⟩
  · rintro t31 w11 ⟨hm, h12⟩
    show C _ _ _ [(0, (.slice a b.length c)), (1, (vI at_)), (2, (vI width)), (6, (.int .u64 0)), (7, (.bool false)), (31, (.bool t31))] _ _
    unfold M_octet_Get_v_k1 at hm
    rcases sp_b hm with ⟨hc13, hm⟩ | ⟨hc13, hm⟩
    · refine C.cond_t rfl hc13 ?_
      refine C.seq ?_
      refine C.region ?_
      refine G.yl (yl_assign rfl) rfl rfl rfl ?_
      refine G.yl (yl_assign rfl) rfl rfl rfl ?_
      refine G.nil ?_
      refine QA.then_normal ?_
      refine C.ret ?_
      refine QA.then_ret ?_
      refine QA.ret2 rfl rfl rfl ?_
      obtain ⟨rfl, rfl⟩ := sp_ret2 hm
      exact ⟨rfl, (Sat.pick [] h12)⟩
    · refine C.cond_f rfl hc13 ?_
      refine C.skip ?_
      refine QA.then_normal ?_
      refine C.seq ?_
      refine C.region ?_
      refine G.yl (yl_assign rfl) rfl rfl rfl ?_
      refine G.nil ?_
      refine QA.then_normal ?_
      refine C.seq ?_
      refine C.seq ?_
      refine C.region ?_
      refine G.yl (yl_move rfl) rfl rfl rfl ?_
      refine G.yl (yl_move rfl) rfl rfl rfl ?_
      refine G.yl (yl_move rfl) rfl rfl rfl ?_
      refine G.yl (yl_move rfl) rfl rfl rfl ?_
      obtain ⟨hc14, hm⟩ := sp_chk hm
      refine G.yl (yl_addI rfl rfl hc14) rfl rfl rfl ?_
      obtain ⟨a15, ha16⟩ : ∃ p', Cut p' a c at_.toNat 1 := Cut.mk _ _ _ _
      obtain ⟨hc17, hm⟩ := sp_chk hm
      refine G.yl (yl_slLH (E := elU8) (l := b) sl49 rfl rfl rfl rfl hc17 hq_b ha16) rfl rfl rfl ?_
      refine G.yl (yl_lenE Try.underlying49 rfl) rfl rfl rfl ?_
      refine G.yl (yl_move rfl) rfl rfl rfl ?_
      refine G.nil ?_
      refine QA.then_normal ?_
      refine C.block ?_
      obtain ⟨o, ho18, hm19⟩ := sp_bind hm
      refine C.left (γ := UInt64) (.exit 0) (fun g => match g with | n_2 => [(6, (.int .u64 0)), (7, (.bool false)), (8, (v64 n_2))]) (fun g ww => match g with | n_2 => n_2 = o ∧ Sat W ww []) ?_ ?_
      · refine C.loopO (γ := UInt64 × Int) (fun g => match g with | (n, t39) => [(6, (.int .u64 0)), (7, (.bool false)), (8, (v64 n)), (37, (.slice a15 (((b.take ((at_ + width).toNat)).drop at_.toNat).length) (c - at_.toNat))), (38, (vI (((b.take ((at_ + width).toNat)).drop at_.toNat).length : Int))), (39, (vI t39))]) (fun g ww => match g with | (n, t39) => Sat W ww []) (fun g => match g with | (n, t39) => (n, t39)) (0, 0) ho18 (Sub.of ⟨rfl, rfl, rfl, rfl, rfl, rfl, trivial⟩) (Sat.pick [] h12) ?_
        rintro ⟨n, t39⟩ k22 w20 y_ h21 hm hg23
        show C _ _ _ [(6, (.int .u64 0)), (7, (.bool false)), (8, (v64 n)), (37, (.slice a15 (((b.take ((at_ + width).toNat)).drop at_.toNat).length) (c - at_.toNat))), (38, (vI (((b.take ((at_ + width).toNat)).drop at_.toNat).length : Int))), (39, (vI t39))] _ _
        change M_octet_Get_v_b2 at_ b width n t39 = some y_ at hm
        unfold M_octet_Get_v_b2 at hm
        refine C.seq ?_
        refine C.region ?_
        refine G.yl (yl_ltI rfl rfl) rfl rfl rfl ?_
        refine G.nil ?_
        refine QA.then_normal ?_
        refine C.seq ?_
        rcases sp_ite hm with ⟨hc24, hm⟩ | ⟨hc24, hm⟩
        · refine C.cond_t rfl (dec_t hc24) ?_
          refine C.skip ?_
          refine QA.then_normal ?_
          refine C.seq ?_
          refine C.block ?_
          refine C.seq ?_
          refine C.region ?_
          obtain ⟨x, hy25, hm⟩ := sp_bind hm
          refine G.yl (yl_ixP (l := (b.take ((at_ + width).toNat)).drop at_.toNat) sl49 rfl rfl (View.isA (E := elU8) (View.cut (View.rtake (hv_b.at_ h21) ((at_ + width).toNat)) ha16 (by have := hq_b; simp only [List.length_drop, List.length_take, List.length_append, List.length_set, List.length_cons, List.length_nil, List.length_ofFn, copyL_length] at *; omega)) (by decide) (at?_lt hy25)) rfl (at?_lt hy25)) rfl rfl rfl ?_
          refine G.yl (yl_ld1 (E := elU8) (v := (v8 x)) ag5 rfl (View.cut (View.rtake (hv_b.at_ h21) ((at_ + width).toNat)) ha16 (by have := hq_b; simp only [List.length_drop, List.length_take, List.length_append, List.length_set, List.length_cons, List.length_nil, List.length_ofFn, copyL_length] at *; omega)) (at?_some hy25).2 rfl) rfl rfl rfl ?_
          refine G.yl (yl_assign rfl) rfl rfl rfl ?_
          refine G.nil ?_
          refine QA.then_normal ?_
          refine C.region ?_
          refine G.yl (yl_move rfl) rfl rfl rfl ?_
          refine G.yl (yl_shl64 rfl rfl (by decide)) rfl rfl rfl ?_
          refine G.yl (yl_move rfl) rfl rfl rfl ?_
          refine G.yl (yl_8to64 us5 Try.underlying28 rfl) rfl rfl rfl ?_
          refine G.yl (yl_or64 rfl rfl) rfl rfl rfl ?_
          refine G.yl (yl_assign rfl) rfl rfl rfl ?_
          refine G.nil ?_
          refine QA.block_normal ?_
          refine QA.then_normal ?_
          refine C.region ?_
          obtain ⟨hc26, hm⟩ := sp_chk hm
          refine G.yl (yl_addI rfl rfl hc26) rfl rfl rfl ?_
          refine G.yl (yl_move rfl) rfl rfl rfl ?_
          refine G.nil ?_
          obtain rfl := sp_ret1 hm
          exact QA.againO ((shl64 n 8) ||| x.toUInt64, t39 + 1) hg23 (Sub.of ⟨rfl, rfl, rfl, rfl, rfl, rfl, trivial⟩) (Sat.pick [] h21)
        · refine C.cond_f rfl (dec_f hc24) ?_
          refine C.exit ?_
          refine QA.then_exit ?_
          refine QA.then_exit ?_
          obtain rfl := sp_ret1 hm
          exact QA.left n (Sub.of ⟨rfl, rfl, rfl, trivial⟩) ⟨hg23, (Sat.pick [] h21)⟩
      · rintro n_2 w27 ⟨rfl, h28⟩
        have hm := hm19
        show QA _ _ [(6, (.int .u64 0)), (7, (.bool false)), (8, (v64 n_2))] _ _
        refine QA.block_here ?_
        refine QA.then_normal ?_
        refine C.seq ?_
        refine C.region ?_
        refine G.yl (yl_move rfl) rfl rfl rfl ?_
        refine G.yl (yl_assign rfl) rfl rfl rfl ?_
        refine G.yl (yl_assign rfl) rfl rfl rfl ?_
        refine G.nil ?_
        refine QA.then_normal ?_
        refine C.ret ?_
        refine QA.ret2 rfl rfl rfl ?_
        obtain ⟨rfl, rfl⟩ := sp_ret2 hm
        exact ⟨rfl, (Sat.pick [] h28)⟩
set_option maxRecDepth 20000 in
set_option maxHeartbeats 1000000 in
theorem M_octet_Reader_Num_po_w {W : Base} {w : World} {b : Nat} {a : Option Addr} {c : Nat} {b2 : List UInt8} {open_ : Bool} {bad : Bool} {width : Int}  (h : Sat W w [blk b [(.slice a b2.length c), (.bool open_), (.bool bad)] 155, ow elU8 a c 5 b2]) {r1 : UInt64} {r4 : List UInt8} {r5 : Bool} (hm : M_octet_Reader_Num_po b2 open_ bad width = some (r1, r4, r5)) :
    Calls Try.prog 111 #[(.pointer (some ⟨b, 0, none⟩)), (vI width)] w (Ret fun v w' => ∃ r2 : Option Addr, ∃ r3 : Nat, v = (v64 r1) ∧ Sat W w' [blk b [(.slice r2 r4.length r3), (.bool open_), (.bool r5)] 155, ow elU8 r2 r3 5 r4]) := by
  unfold M_octet_Reader_Num_po at hm
  refine C.enter (N := 35) Try.func111 rfl Try.ntmps111 rfl ?_
  show C _ _ _ [(0, (.pointer (some ⟨b, 0, none⟩))), (1, (vI width))] _ _
  refine C.seq ?_
  refine C.region ?_
  refine G.yl (yl_assign rfl) rfl rfl rfl ?_
  refine G.nil ?_
  refine QA.then_normal ?_
  refine C.seq ?_
  refine C.seq ?_
  refine C.region ?_
  refine G.yl (yl_move rfl) rfl rfl rfl ?_
  obtain ⟨_, hy1, hm⟩ := sp_bind hm
  refine G.does (does_fn 2 rfl rfl rfl en116 (Sat.pick [0, 0] h) (fun U hU hp hr hs => M_octet_Reader_none_po_w (b2 := b2) (open_ := open_) (bad := bad) hp hy1)) rfl rfl rfl ?_
  rintro _ w2 ⟨U5, hb6, rfl, h4⟩
  have h3 : Sat W w2 [blk b [(.slice a b2.length c), (.bool open_), (.bool bad)] 155, ow elU8 a c 5 b2] := hb6 h4
  refine G.nil ?_
  refine QA.then_normal ?_
  rcases sp_b hm with ⟨hc7, hm⟩ | ⟨hc7, hm⟩
  · refine C.cond_f rfl (not_f hc7) ?_
    refine C.skip ?_
    refine QA.then_normal ?_
    refine C.seq ?_
    refine C.seq ?_
    refine C.region ?_
    refine G.yl (yl_move rfl) rfl rfl rfl ?_
    obtain ⟨r1_2, hy8, hm⟩ := sp_bind hm
    refine G.does (does_fn 0 rfl rfl rfl en133 h3 (fun U hU hp hr hs => M_octet_may_w (width := width) hp hy8)) rfl rfl rfl ?_
    rintro _ w9 ⟨U12, hb13, rfl, h11⟩
    have h10 : Sat W w9 [blk b [(.slice a b2.length c), (.bool open_), (.bool bad)] 155, ow elU8 a c 5 b2] := hb13 h11
    refine G.yl (yl_not rfl) rfl rfl rfl ?_
    refine G.nil ?_
    refine QA.then_normal ?_
    rcases sp_b hm with ⟨hc14, hm⟩ | ⟨hc14, hm⟩
    · refine C.cond_f rfl (not_f hc14) ?_
      refine C.skip ?_
      refine QA.then_normal ?_
      refine C.seq ?_
      refine C.region ?_
      refine G.yl (yl_move rfl) rfl rfl rfl ?_
      refine G.yl (yl_nilCheck rfl) rfl rfl rfl ?_
      refine G.yl (yl_fieldAddr fo155_0 rfl) rfl rfl rfl ?_
      refine G.yl (yl_move rfl) rfl rfl rfl ?_
      obtain ⟨y_, hy15, hm⟩ := sp_bind hm
      rcases y_ with _ | _
      · refine G.does (does_fn 2 rfl rfl rfl en143 (Sat.pick [0, 0] h10) (fun U hU hp hr hs => M_octet_rest_cut_po_w (b2 := b2) (open_ := open_) (bad := bad) (n := width) hp hy15)) rfl rfl rfl ?_
        rintro _ w16 ⟨U19, hb20, rfl, h18⟩
        have h17 : Sat W w16 [blk b [(.slice none 0 0), (.bool open_), (.bool true)] 155] := hb20 h18
        refine G.yl (yl_move rfl) rfl rfl rfl ?_
        refine G.yl (yl_extract rfl rfl) rfl rfl rfl ?_
        refine G.yl (yl_extract rfl rfl) rfl rfl rfl ?_
        refine G.yl (yl_assign rfl) rfl rfl rfl ?_
        refine G.yl (yl_assign rfl) rfl rfl rfl ?_
        refine G.nil ?_
        refine QA.then_normal ?_
        refine C.seq ?_
        refine C.seq ?_
        refine C.region ?_
        refine G.yl (yl_move rfl) rfl rfl rfl ?_
        refine G.yl (yl_not rfl) rfl rfl rfl ?_
        refine G.nil ?_
        refine QA.then_normal ?_
        refine C.cond_t rfl (not_t rfl) ?_
        refine C.seq ?_
        refine C.region ?_
        refine G.yl (yl_assign rfl) rfl rfl rfl ?_
        refine G.nil ?_
        refine QA.then_normal ?_
        refine C.ret ?_
        refine QA.then_ret ?_
        refine QA.ret1 rfl rfl ?_
        obtain ⟨rfl, rfl, rfl⟩ := sp_ret3 hm
        exact ⟨none, 0, rfl, (Sat.pick [1, 0] (Sat.own_zero h17 elU8 none 5))⟩
      · refine G.does (does_fn 2 rfl rfl rfl en143 (Sat.pick [0, 0] h10) (fun U hU hp hr hs => M_octet_rest_cut_po_w (b2 := b2) (open_ := open_) (bad := bad) (n := width) hp hy15)) rfl rfl rfl ?_
        rintro _ w23 ⟨U26, hb27, r121, rfl, hf22, h25⟩
        have h24 : Sat W w23 [ow elU8 a c 5 b2, blk b [(.slice r121 ((b2.drop width.toNat).length) (c - width.toNat)), (.bool open_), (.bool bad)] 155] := hb27 h25
        refine G.yl (yl_move rfl) rfl rfl rfl ?_
        refine G.yl (yl_extract rfl rfl) rfl rfl rfl ?_
        refine G.yl (yl_extract rfl rfl) rfl rfl rfl ?_
        refine G.yl (yl_assign rfl) rfl rfl rfl ?_
        refine G.yl (yl_assign rfl) rfl rfl rfl ?_
        refine G.nil ?_
        refine QA.then_normal ?_
        refine C.seq ?_
        refine C.seq ?_
        refine C.region ?_
        refine G.yl (yl_move rfl) rfl rfl rfl ?_
        refine G.yl (yl_not rfl) rfl rfl rfl ?_
        refine G.nil ?_
        refine QA.then_normal ?_
        refine C.cond_f rfl (not_f rfl) ?_
        refine C.skip ?_
        refine QA.then_normal ?_
        refine C.seq ?_
        refine C.region ?_
        refine G.yl (yl_move rfl) rfl rfl rfl ?_
        refine G.yl (yl_move rfl) rfl rfl rfl ?_
        obtain ⟨⟨r1_3, r2_2⟩, hy28, hm⟩ := sp_bind hm
        refine G.does (does_fn 0 rfl rfl rfl en145 h24 (fun U hU hp hr hs => M_octet_Get_v_w (b := b2.take width.toNat) (at_ := 0) (width := width) (V.rtake (Rest.view hr) width.toNat) (by have := (Sat.own_cap h24).1; simp only [List.length_drop, List.length_take, List.length_append, List.length_set, List.length_cons, List.length_nil, List.length_ofFn, copyL_length] at *; omega) hp hy28)) rfl rfl rfl ?_
        rintro _ w29 ⟨U32, hb33, rfl, h31⟩
        have h30 : Sat W w29 [ow elU8 a c 5 b2, blk b [(.slice r121 ((b2.drop width.toNat).length) (c - width.toNat)), (.bool open_), (.bool bad)] 155] := hb33 h31
        refine G.yl (yl_move rfl) rfl rfl rfl ?_
        refine G.yl (yl_extract rfl rfl) rfl rfl rfl ?_
        refine G.yl (yl_extract rfl rfl) rfl rfl rfl ?_
        refine G.yl (yl_assign rfl) rfl rfl rfl ?_
        refine G.yl (yl_assign rfl) rfl rfl rfl ?_
        refine G.nil ?_
        refine QA.then_normal ?_
        refine C.seq ?_
        refine C.region ?_
        refine G.yl (yl_move rfl) rfl rfl rfl ?_
        refine G.yl (yl_assign rfl) rfl rfl rfl ?_
        refine G.nil ?_
        refine QA.then_normal ?_
        refine C.ret ?_
        refine QA.ret1 rfl rfl ?_
        have h34 : Sat W w29 [ow elU8 r121 (c - width.toNat) 5 (b2.drop width.toNat), blk b [(.slice r121 ((b2.drop width.toNat).length) (c - width.toNat)), (.bool open_), (.bool bad)] 155] := Sat.own_cut h30 hf22
        obtain ⟨rfl, rfl, rfl⟩ := sp_ret3 hm
        exact ⟨r121, c - width.toNat, rfl, (Sat.pick [1, 0] h34)⟩
    · refine C.cond_t rfl (not_t hc14) ?_
      refine C.seq ?_
      refine C.region ?_
      refine G.yl (yl_move rfl) rfl rfl rfl ?_
      refine G.yl (yl_nilCheck rfl) rfl rfl rfl ?_
      refine G.yl (yl_fieldAddr fo155_0 rfl) rfl rfl rfl ?_
      obtain ⟨_, hy35, hm⟩ := sp_bind hm
      refine G.does (does_fn 2 rfl rfl rfl en144 (Sat.pick [0, 0] h10) (fun U hU hp hr hs => M_octet_rest_fail_po_w (b2 := b2) (open_ := open_) (bad := bad) hp hy35)) rfl rfl rfl ?_
      rintro _ w36 ⟨U39, hb40, rfl, h38⟩
      have h37 : Sat W w36 [blk b [(.slice none 0 0), (.bool open_), (.bool true)] 155] := hb40 h38
      refine G.nil ?_
      refine QA.then_normal ?_
      refine C.seq ?_
      refine C.region ?_
      refine G.yl (yl_assign rfl) rfl rfl rfl ?_
      refine G.nil ?_
      refine QA.then_normal ?_
      refine C.ret ?_
      refine QA.then_ret ?_
      refine QA.ret1 rfl rfl ?_
      obtain ⟨rfl, rfl, rfl⟩ := sp_ret3 hm
      exact ⟨none, 0, rfl, (Sat.pick [1, 0] (Sat.own_zero h37 elU8 none 5))⟩
  · refine C.cond_t rfl (not_t hc7) ?_
    refine C.seq ?_
    refine C.region ?_
    refine G.yl (yl_assign rfl) rfl rfl rfl ?_
    refine G.nil ?_
    refine QA.then_normal ?_
    refine C.ret ?_
    refine QA.then_ret ?_
    refine QA.ret1 rfl rfl ?_
    obtain ⟨rfl, rfl, rfl⟩ := sp_ret3 hm
    exact ⟨a, c, rfl, (Sat.pick [0, 0] h3)⟩
set_option maxRecDepth 20000 in
set_option maxHeartbeats 1000000 in
theorem M_octet_Reader_Text_po_w {W : Base} {w : World} {b : Nat} {a : Option Addr} {c : Nat} {b2 : List UInt8} {open_ : Bool} {bad : Bool} {most : Int}  (h : Sat W w [blk b [(.slice a b2.length c), (.bool open_), (.bool bad)] 155, ow elU8 a c 5 b2]) {r1 : List UInt8} {r4 : List UInt8} {r5 : Bool} (hm : M_octet_Reader_Text_po b2 open_ bad most = some (r1, r4, r5)) :
    Calls Try.prog 112 #[(.pointer (some ⟨b, 0, none⟩)), (vI most)] w (Ret fun v w' => ∃ r2 : Option Addr, ∃ r3 : Nat, v = (.string (str r1)) ∧ Sat W w' [blk b [(.slice r2 r4.length r3), (.bool open_), (.bool r5)] 155, ow elU8 r2 r3 5 r4]) := by
  unfold M_octet_Reader_Text_po at hm
  refine C.enter (N := 33) Try.func112 rfl Try.ntmps112 rfl ?_
  show C _ _ _ [(0, (.pointer (some ⟨b, 0, none⟩))), (1, (vI most))] _ _
  refine C.seq ?_
  refine C.region ?_
  refine G.yl (yl_assign rfl) rfl rfl rfl ?_
  refine G.nil ?_
  refine QA.then_normal ?_
  refine C.seq ?_
  refine C.seq ?_
  refine C.region ?_
  refine G.yl (yl_move rfl) rfl rfl rfl ?_
  obtain ⟨_, hy1, hm⟩ := sp_bind hm
  refine G.does (does_fn 2 rfl rfl rfl en116 (Sat.pick [0, 0] h) (fun U hU hp hr hs => M_octet_Reader_none_po_w (b2 := b2) (open_ := open_) (bad := bad) hp hy1)) rfl rfl rfl ?_
  rintro _ w2 ⟨U5, hb6, rfl, h4⟩
  have h3 : Sat W w2 [blk b [(.slice a b2.length c), (.bool open_), (.bool bad)] 155, ow elU8 a c 5 b2] := hb6 h4
  refine G.nil ?_
  refine QA.then_normal ?_
  rcases sp_b hm with ⟨hc7, hm⟩ | ⟨hc7, hm⟩
  · refine C.cond_f rfl (not_f hc7) ?_
    refine C.skip ?_
    refine QA.then_normal ?_
    refine C.seq ?_
    refine C.region ?_
    refine G.yl (yl_move rfl) rfl rfl rfl ?_
    obtain ⟨⟨r1_2, r4_2, r5_2⟩, hy8, hm⟩ := sp_bind hm
    refine G.does (does_fn 2 rfl rfl rfl en111 (Sat.pick [0, 0] h3) (fun U hU hp hr hs => M_octet_Reader_Num_po_w (b2 := b2) (open_ := open_) (bad := bad) (width := 2) hp hy8)) rfl rfl rfl ?_
    rintro _ w11 ⟨U14, hb15, r29, r310, rfl, h13⟩
    have h12 : Sat W w11 [blk b [(.slice r29 r4_2.length r310), (.bool open_), (.bool r5_2)] 155, ow elU8 r29 r310 5 r4_2] := hb15 h13
    obtain ⟨hc16, hm⟩ := sp_chk hm
    refine G.yl (yl_64I us28 Try.underlying3 rfl hc16) rfl rfl rfl ?_
    refine G.yl (yl_assign rfl) rfl rfl rfl ?_
    refine G.nil ?_
    refine QA.then_normal ?_
    refine C.seq ?_
    refine C.join (γ := Bool) (fun g => match g with | t24 => [(0, (.pointer (some ⟨b, 0, none⟩))), (4, (.string (str ([] : List UInt8)))), (5, (vI (r1_2.toNat : Int))), (24, (.bool t24))]) (fun g ww => match g with | t24 => (M_octet_Reader_Text_po_k1 open_ r1_2 r4_2 r5_2 t24 = some (r1, r4, r5)) ∧ Sat W ww [blk b [(.slice r29 r4_2.length r310), (.bool open_), (.bool r5_2)] 155, ow elU8 r29 r310 5 r4_2]) ?_ ?_
    · refine C.region ?_
      refine G.yl (yl_move rfl) rfl rfl rfl ?_
      refine G.yl (yl_nilCheck rfl) rfl rfl rfl ?_
      refine G.yl (yl_fieldAddr fo155_0 rfl) rfl rfl rfl ?_
      refine G.yl (yl_fieldAddr fo153_2 rfl) rfl rfl rfl ?_
      refine G.yl (yl_load (v := (.bool r5_2)) ag4 rfl (View.at0 (j := 2) h12.isBlk.view0 rfl)) rfl rfl rfl ?_
      refine G.yl (yl_move rfl) rfl rfl rfl ?_
      rcases sp_b hm with ⟨hc17, hm⟩ | ⟨hc17, hm⟩
      · refine G.offU rfl rfl hc17 rfl ?_
        refine G.offU rfl rfl hc17 rfl ?_
        refine G.offU rfl rfl hc17 rfl ?_
        refine G.yl (yl_pick_t rfl hc17 rfl) rfl rfl rfl ?_
        refine G.yl (yl_move rfl) rfl rfl rfl ?_
        refine G.offU rfl rfl rfl rfl ?_
        refine G.offU rfl rfl rfl rfl ?_
        refine G.yl (yl_pick_t rfl rfl rfl) rfl rfl rfl ?_
        refine G.nil ?_
        exact QA.join true (Sub.of ⟨rfl, rfl, rfl, rfl, trivial⟩) ⟨hm, (Sat.pick [0, 0] h12)⟩
      · refine G.on rfl rfl hc17 ?_
        refine G.yl (yl_move rfl) rfl rfl rfl ?_
        refine G.on rfl rfl hc17 ?_
        refine G.yl (yl_move rfl) rfl rfl rfl ?_
        refine G.on rfl rfl hc17 ?_
        refine G.yl (yl_gtI rfl rfl) rfl rfl rfl ?_
        refine G.yl (yl_pick_f rfl hc17 rfl) rfl rfl rfl ?_
        refine G.yl (yl_move rfl) rfl rfl rfl ?_
        rcases sp_ite hm with ⟨hc18, hm⟩ | ⟨hc18, hm⟩
        · refine G.offU rfl rfl (dec_t hc18) rfl ?_
          refine G.offU rfl rfl (dec_t hc18) rfl ?_
          refine G.yl (yl_pick_t rfl (dec_t hc18) rfl) rfl rfl rfl ?_
          refine G.nil ?_
          exact QA.join true (Sub.of ⟨rfl, rfl, rfl, rfl, trivial⟩) ⟨hm, (Sat.pick [0, 0] h12)⟩
        · refine G.on rfl rfl (dec_f hc18) ?_
          refine G.yl (yl_move rfl) rfl rfl rfl ?_
          refine G.on rfl rfl (dec_f hc18) ?_
          refine G.yl (yl_gtI rfl rfl) rfl rfl rfl ?_
          refine G.yl (yl_pick_f rfl (dec_f hc18) rfl) rfl rfl rfl ?_
          refine G.nil ?_
          exact QA.join (decide ((1024 : Int) < (r1_2.toNat : Int))) (Sub.of ⟨rfl, rfl, rfl, rfl, trivial⟩) ⟨hm, (Sat.pick [0, 0] h12)⟩
    · rintro t24 w19 ⟨hm, h20⟩
      show C _ _ _ [(0, (.pointer (some ⟨b, 0, none⟩))), (4, (.string (str ([] : List UInt8)))), (5, (vI (r1_2.toNat : Int))), (24, (.bool t24))] _ _
      unfold M_octet_Reader_Text_po_k1 at hm
      rcases sp_b hm with ⟨hc21, hm⟩ | ⟨hc21, hm⟩
      · refine C.cond_t rfl hc21 ?_
        refine C.seq ?_
        refine C.region ?_
        refine G.yl (yl_move rfl) rfl rfl rfl ?_
        refine G.yl (yl_nilCheck rfl) rfl rfl rfl ?_
        refine G.yl (yl_fieldAddr fo155_0 rfl) rfl rfl rfl ?_
        obtain ⟨_, hy22, hm⟩ := sp_bind hm
        refine G.does (does_fn 2 rfl rfl rfl en144 (Sat.pick [0, 0] h20) (fun U hU hp hr hs => M_octet_rest_fail_po_w (b2 := r4_2) (open_ := open_) (bad := r5_2) hp hy22)) rfl rfl rfl ?_
        rintro _ w23 ⟨U26, hb27, rfl, h25⟩
        have h24 : Sat W w23 [blk b [(.slice none 0 0), (.bool open_), (.bool true)] 155] := hb27 h25
        refine G.nil ?_
        refine QA.then_normal ?_
        refine C.seq ?_
        refine C.region ?_
        refine G.yl (yl_assign rfl) rfl rfl rfl ?_
        refine G.nil ?_
        refine QA.then_normal ?_
        refine C.ret ?_
        refine QA.then_ret ?_
        refine QA.ret1 rfl rfl ?_
        obtain ⟨rfl, rfl, rfl⟩ := sp_ret3 hm
        exact ⟨none, 0, rfl, (Sat.pick [1, 0] (Sat.own_zero h24 elU8 none 5))⟩
      · refine C.cond_f rfl hc21 ?_
        refine C.skip ?_
        refine QA.then_normal ?_
        refine C.seq ?_
        refine C.region ?_
        refine G.yl (yl_move rfl) rfl rfl rfl ?_
        refine G.yl (yl_move rfl) rfl rfl rfl ?_
        obtain ⟨⟨r3_2, r6_2, r7_2⟩, hy28, hm⟩ := sp_bind hm
        refine G.does (does_fn 2 rfl rfl rfl en110 (Sat.pick [0, 0] h20) (fun U hU hp hr hs => M_octet_Reader_Take_po_w (b2 := r4_2) (open_ := open_) (bad := r5_2) (n := (r1_2.toNat : Int)) hp hy28)) rfl rfl rfl ?_
        rintro _ w33 ⟨U36, hb37, r129, r230, r431, r532, rfl, h35⟩
        have h34 : Sat W w33 [ow elU8 r129 r230 5 r3_2, blk b [(.slice r431 r6_2.length r532), (.bool open_), (.bool r7_2)] 155, ow elU8 r431 r532 5 r6_2] := hb37 h35
        refine G.yl (yl_strE Try.underlying49 Try.underlying5 Try.underlying9 rfl rfl (Sat.own_view h34)) rfl rfl rfl ?_
        refine G.yl (yl_assign rfl) rfl rfl rfl ?_
        refine G.nil ?_
        refine QA.then_normal ?_
        refine C.ret ?_
        refine QA.ret1 rfl rfl ?_
        obtain ⟨rfl, rfl, rfl⟩ := sp_ret3 hm
        exact ⟨r431, r532, rfl, (Sat.pick [1, 1] h34)⟩
  · refine C.cond_t rfl (not_t hc7) ?_
    refine C.seq ?_
    refine C.region ?_
    refine G.yl (yl_assign rfl) rfl rfl rfl ?_
    refine G.nil ?_
    refine QA.then_normal ?_
    refine C.ret ?_
    refine QA.then_ret ?_
    refine QA.ret1 rfl rfl ?_
    obtain ⟨rfl, rfl, rfl⟩ := sp_ret3 hm
    exact ⟨a, c, rfl, (Sat.pick [0, 0] h3)⟩
set_option maxRecDepth 20000 in
set_option maxHeartbeats 1000000 in
theorem M_octet_Reader_Bad_po_w {W : Base} {w : World} {b : Nat} {a : Option Addr} {c : Nat} {b2 : List UInt8} {open_ : Bool} {bad : Bool}  (h : Sat W w [blk b [(.slice a b2.length c), (.bool open_), (.bool bad)] 155, ow elU8 a c 5 b2]) {r1 : Bool} (hm : M_octet_Reader_Bad_po b2 open_ bad = some r1) :
    Calls Try.prog 57 #[(.pointer (some ⟨b, 0, none⟩))] w (Ret fun v w' => v = (.bool r1) ∧ Sat W w' [blk b [(.slice a b2.length c), (.bool open_), (.bool bad)] 155, ow elU8 a c 5 b2]) := by
  unfold M_octet_Reader_Bad_po at hm
  refine C.enter (N := 12) Try.func57 rfl Try.ntmps57 rfl ?_
  show C _ _ _ [(0, (.pointer (some ⟨b, 0, none⟩)))] _ _
  refine C.seq ?_
  refine C.region ?_
  refine G.yl (yl_assign rfl) rfl rfl rfl ?_
  refine G.nil ?_
  refine QA.then_normal ?_
  refine C.seq ?_
  refine C.region ?_
  refine G.yl (yl_move rfl) rfl rfl rfl ?_
  obtain ⟨_, hy1, hm⟩ := sp_bind hm
  refine G.does (does_fn 2 rfl rfl rfl en116 (Sat.pick [0, 0] h) (fun U hU hp hr hs => M_octet_Reader_none_po_w (b2 := b2) (open_ := open_) (bad := bad) hp hy1)) rfl rfl rfl ?_
  rintro _ w2 ⟨U5, hb6, rfl, h4⟩
  have h3 : Sat W w2 [blk b [(.slice a b2.length c), (.bool open_), (.bool bad)] 155, ow elU8 a c 5 b2] := hb6 h4
  refine G.yl (yl_move rfl) rfl rfl rfl ?_
  rcases sp_b hm with ⟨hc7, hm⟩ | ⟨hc7, hm⟩
  · refine G.on rfl rfl (not_f hc7) ?_
    refine G.yl (yl_move rfl) rfl rfl rfl ?_
    refine G.on rfl rfl (not_f hc7) ?_
    refine G.yl (yl_nilCheck rfl) rfl rfl rfl ?_
    refine G.on rfl rfl (not_f hc7) ?_
    refine G.yl (yl_fieldAddr fo155_0 rfl) rfl rfl rfl ?_
    refine G.on rfl rfl (not_f hc7) ?_
    refine G.yl (yl_fieldAddr fo153_2 rfl) rfl rfl rfl ?_
    refine G.on rfl rfl (not_f hc7) ?_
    refine G.yl (yl_load (v := (.bool bad)) ag4 rfl (View.at0 (j := 2) h3.isBlk.view0 rfl)) rfl rfl rfl ?_
    refine G.yl (yl_pick_f rfl (not_f hc7) rfl) rfl rfl rfl ?_
    refine G.yl (yl_assign rfl) rfl rfl rfl ?_
    refine G.nil ?_
    refine QA.then_normal ?_
    refine C.ret ?_
    refine QA.ret1 rfl rfl ?_
    obtain rfl := sp_ret1 hm
    exact ⟨rfl, (Sat.pick [0, 0] h3)⟩
  · refine G.offU rfl rfl (not_t hc7) rfl ?_
    refine G.offU rfl rfl (not_t hc7) rfl ?_
    refine G.offU rfl rfl (not_t hc7) rfl ?_
    refine G.offU rfl rfl (not_t hc7) rfl ?_
    refine G.offU rfl rfl (not_t hc7) rfl ?_
    refine G.yl (yl_pick_t rfl (not_t hc7) rfl) rfl rfl rfl ?_
    refine G.yl (yl_assign rfl) rfl rfl rfl ?_
    refine G.nil ?_
    refine QA.then_normal ?_
    refine C.ret ?_
    refine QA.ret1 rfl rfl ?_
    obtain rfl := sp_ret1 hm
    exact ⟨rfl, (Sat.pick [0, 0] h3)⟩
set_option maxRecDepth 20000 in
set_option maxHeartbeats 1000000 in
theorem M_inst_Read_po_w {W : Base} {w : World} {b : Nat} {a : Option Addr} {c : Nat} {b2 : List UInt8} {open_ : Bool} {bad : Bool}  (h : Sat W w [blk b [(.slice a b2.length c), (.bool open_), (.bool bad)] 155, ow elU8 a c 5 b2]) {r1 : G_api_Instance} {r2 : Bool} {r5 : List UInt8} {r6 : Bool} (hm : M_inst_Read_po b2 open_ bad = some (r1, r2, r5, r6)) :
    Calls Try.prog 53 #[(.pointer (some ⟨b, 0, none⟩))] w (Ret fun v w' => ∃ r3 : Option Addr, ∃ r4 : Nat, v = (.tuple #[(.agg (bytesV (List.ofFn (n := 20) r1.Publisher) ++ ([(v64 r1.Seq), (v64 r1.Born), (v32 r1.Life), (.bool r1.Gone), (v16 r1.Priority), (v16 r1.Weight), (v16 r1.Port), (.string (str r1.Target))] : List Value)).toArray), (.bool r2)]) ∧ Sat W w' [blk b [(.slice r3 r5.length r4), (.bool open_), (.bool r6)] 155, ow elU8 r3 r4 5 r5]) := by
  unfold M_inst_Read_po at hm
  refine C.enter (N := 58) Try.func53 rfl Try.ntmps53 rfl ?_
  show C _ _ _ [(0, (.pointer (some ⟨b, 0, none⟩)))] _ _
  refine C.seq ?_
  refine C.region ?_
  refine G.does (does_alloc (cs := (bytesV (List.ofFn (n := 20) (fun _ => 0)) ++ ([(.int .u64 0), (.int .u64 0), (.int .u32 0), (.bool false), (.int .u16 0), (.int .u16 0), (.int .u16 0), (.string (str ([] : List UInt8)))] : List Value))) h z47 rfl) rfl rfl rfl ?_
  rintro _ w2 ⟨b1, rfl, h3⟩
  refine G.yl (yl_assign rfl) rfl rfl rfl ?_
  refine G.nil ?_
  refine QA.then_normal ?_
  refine C.seq ?_
  refine C.region ?_
  refine G.does (does_alloc (cs := (bytesV (List.ofFn (n := 20) (fun _ => 0)) ++ ([(.int .u64 0), (.int .u64 0), (.int .u32 0), (.bool false), (.int .u16 0), (.int .u16 0), (.int .u16 0), (.string (str ([] : List UInt8)))] : List Value))) h3 z47 rfl) rfl rfl rfl ?_
  rintro _ w5 ⟨b4, rfl, h6⟩
  refine G.nil ?_
  refine QA.then_normal ?_
  refine C.seq ?_
  refine C.draw (V := fun w' => True) (nd := []) (sp := []) (n := 5) rfl h6 rfl rfl ?_
  intro w7 h8
  have hS9 : Cls (fun w' => True) [] [] #[false, false, false, false, false] w7 := Cls.keep (trivial) (by kernel_rfl)
  refine GH.yl (i := 0) (listed' := #[true, false, false, false, false]) rfl (by kernel_rfl) rfl (NP.next NP.body) rfl rfl rfl (fun w' => yl_fieldAddr fo47_0 rfl) hS9 (fun hS10 => ?_)
  refine GH.yl (i := 1) (listed' := #[true, true, false, false, false]) rfl (by kernel_rfl) rfl (NP.next NP.body) rfl rfl rfl (fun w' => yl_slice_arr (n := 20) (l := 0) (h := 20) (s := 1) (v := (.slice (some ⟨b4, 0, none⟩) 20 20)) Try.underlying43 (by kernel_rfl) (by kernel_rfl) rfl rfl rfl (by decide) (by decide) rfl) hS10 (fun hS11 => ?_)
  refine GH.yl (i := 2) (listed' := #[true, true, true, false, false]) rfl (by kernel_rfl) rfl (NP.next NP.body) rfl rfl rfl (fun w' => yl_move rfl) hS11 (fun hS12 => ?_)
  obtain ⟨⟨r3_2, r6_2, r7_2⟩, hy13, hm⟩ := sp_bind hm
  refine GH.does (i := 3) (listed' := #[true, true, true, true, false]) rfl (by kernel_rfl) rfl rfl rfl rfl (does_fn 2 rfl rfl rfl en110 (Sat.pick [2, 2, 0, 0] h8) (fun U hU hp hr hs => M_octet_Reader_Take_po_w (b2 := b2) (open_ := open_) (bad := bad) (n := 20) hp hy13)) ?_
  rintro _ w18 ⟨U21, hb22, r114, r215, r416, r517, rfl, h20⟩
  have h19 : Sat W w18 [ow elU8 r114 r215 5 r3_2, blk b [(.slice r416 r6_2.length r517), (.bool open_), (.bool r7_2)] 155, ow elU8 r416 r517 5 r6_2, blk b4 (bytesV (List.ofFn (n := 20) (fun _ => 0)) ++ ([(.int .u64 0), (.int .u64 0), (.int .u32 0), (.bool false), (.int .u16 0), (.int .u16 0), (.int .u16 0), (.string (str ([] : List UInt8)))] : List Value)) 47, blk b1 (bytesV (List.ofFn (n := 20) (fun _ => 0)) ++ ([(.int .u64 0), (.int .u64 0), (.int .u32 0), (.bool false), (.int .u16 0), (.int .u16 0), (.int .u16 0), (.string (str ([] : List UInt8)))] : List Value)) 47] := hb22 h20
  have hS23 : Cls (fun w' => True) [] [] #[true, true, true, true, false] w18 := Cls.keep (trivial) (by kernel_rfl)
  refine ⟨hS23, ?_⟩
  refine GH.does (i := 4) (listed' := #[true, true, true, true, true]) rfl (by kernel_rfl) rfl rfl rfl rfl (does_cpAH (l := r3_2) (Sat.pick [3, 0, 0, 0, 0] h19) Try.underlying49 sz5 rfl rfl rfl (Sat.own_view h19) rfl) ?_
  rintro _ w24 ⟨rfl, h25⟩
  have hS26 : Cls (fun w' => True) [] [] #[true, true, true, true, true] w24 := Cls.keep (trivial) (by kernel_rfl)
  refine ⟨hS26, ?_⟩
  refine GH.done (by kernel_rfl) ?_
  refine QA.then_normal ?_
  refine C.seq ?_
  refine C.region ?_
  refine G.yl (yl_move rfl) rfl rfl rfl ?_
  obtain ⟨⟨r1_2, r4_2, r5_2⟩, hy27, hm⟩ := sp_bind hm
  refine G.does (does_fn 2 rfl rfl rfl en111 (Sat.pick [2, 2, 0, 0, 0] h25) (fun U hU hp hr hs => M_octet_Reader_Num_po_w (b2 := r6_2) (open_ := open_) (bad := r7_2) (width := 8) hp hy27)) rfl rfl rfl ?_
  rintro _ w30 ⟨U33, hb34, r228, r329, rfl, h32⟩
  have h31 : Sat W w30 [blk b [(.slice r228 r4_2.length r329), (.bool open_), (.bool r5_2)] 155, ow elU8 r228 r329 5 r4_2, blk b4 (bytesV (List.ofFn (n := 20) (copyA (fun _ => 0) r3_2)) ++ ([(.int .u64 0), (.int .u64 0), (.int .u32 0), (.bool false), (.int .u16 0), (.int .u16 0), (.int .u16 0), (.string (str ([] : List UInt8)))] : List Value)) 47, ow elU8 r114 r215 5 r3_2, blk b1 (bytesV (List.ofFn (n := 20) (fun _ => 0)) ++ ([(.int .u64 0), (.int .u64 0), (.int .u32 0), (.bool false), (.int .u16 0), (.int .u16 0), (.int .u16 0), (.string (str ([] : List UInt8)))] : List Value)) 47] := hb34 h32
  refine G.yl (yl_move rfl) rfl rfl rfl ?_
  obtain ⟨⟨r1_3, r4_3, r5_3⟩, hy35, hm⟩ := sp_bind hm
  refine G.does (does_fn 2 rfl rfl rfl en111 (Sat.pick [0, 0, 0, 0, 0] h31) (fun U hU hp hr hs => M_octet_Reader_Num_po_w (b2 := r4_2) (open_ := open_) (bad := r5_2) (width := 8) hp hy35)) rfl rfl rfl ?_
  rintro _ w38 ⟨U41, hb42, r236, r337, rfl, h40⟩
  have h39 : Sat W w38 [blk b [(.slice r236 r4_3.length r337), (.bool open_), (.bool r5_3)] 155, ow elU8 r236 r337 5 r4_3, blk b4 (bytesV (List.ofFn (n := 20) (copyA (fun _ => 0) r3_2)) ++ ([(.int .u64 0), (.int .u64 0), (.int .u32 0), (.bool false), (.int .u16 0), (.int .u16 0), (.int .u16 0), (.string (str ([] : List UInt8)))] : List Value)) 47, ow elU8 r114 r215 5 r3_2, blk b1 (bytesV (List.ofFn (n := 20) (fun _ => 0)) ++ ([(.int .u64 0), (.int .u64 0), (.int .u32 0), (.bool false), (.int .u16 0), (.int .u16 0), (.int .u16 0), (.string (str ([] : List UInt8)))] : List Value)) 47] := hb42 h40
  refine G.yl (yl_move rfl) rfl rfl rfl ?_
  obtain ⟨⟨r1_4, r4_4, r5_4⟩, hy43, hm⟩ := sp_bind hm
  refine G.does (does_fn 2 rfl rfl rfl en111 (Sat.pick [0, 0, 0, 0, 0] h39) (fun U hU hp hr hs => M_octet_Reader_Num_po_w (b2 := r4_3) (open_ := open_) (bad := r5_3) (width := 4) hp hy43)) rfl rfl rfl ?_
  rintro _ w46 ⟨U49, hb50, r244, r345, rfl, h48⟩
  have h47 : Sat W w46 [blk b [(.slice r244 r4_4.length r345), (.bool open_), (.bool r5_4)] 155, ow elU8 r244 r345 5 r4_4, blk b4 (bytesV (List.ofFn (n := 20) (copyA (fun _ => 0) r3_2)) ++ ([(.int .u64 0), (.int .u64 0), (.int .u32 0), (.bool false), (.int .u16 0), (.int .u16 0), (.int .u16 0), (.string (str ([] : List UInt8)))] : List Value)) 47, ow elU8 r114 r215 5 r3_2, blk b1 (bytesV (List.ofFn (n := 20) (fun _ => 0)) ++ ([(.int .u64 0), (.int .u64 0), (.int .u32 0), (.bool false), (.int .u16 0), (.int .u16 0), (.int .u16 0), (.string (str ([] : List UInt8)))] : List Value)) 47] := hb50 h48
  refine G.yl (yl_64to32 us28 Try.underlying44 rfl) rfl rfl rfl ?_
  refine G.yl (yl_fieldAddr fo47_1 rfl) rfl rfl rfl ?_
  refine G.unit (does_store (vs := [(v64 r1_2)]) (Sat.pick [2, 0, 0, 0, 0] h47) sz28 rfl rfl rfl (by simp [bytesV_length]) (List.forall_mem_cons.2 ⟨rfl, (fun _ hh => by cases hh)⟩) (by simp [bytesV_length])) rfl rfl ?_
  rintro _ w51 h53
  have h52 : Sat W w51 [blk b4 (bytesV (List.ofFn (n := 20) (copyA (fun _ => 0) r3_2)) ++ ([(v64 r1_2), (.int .u64 0), (.int .u32 0), (.bool false), (.int .u16 0), (.int .u16 0), (.int .u16 0), (.string (str ([] : List UInt8)))] : List Value)) 47, blk b [(.slice r244 r4_4.length r345), (.bool open_), (.bool r5_4)] 155, ow elU8 r244 r345 5 r4_4, ow elU8 r114 r215 5 r3_2, blk b1 (bytesV (List.ofFn (n := 20) (fun _ => 0)) ++ ([(.int .u64 0), (.int .u64 0), (.int .u32 0), (.bool false), (.int .u16 0), (.int .u16 0), (.int .u16 0), (.string (str ([] : List UInt8)))] : List Value)) 47] := sl_blk (by kernel_rfl) h53
  refine G.yl (yl_fieldAddr fo47_2 rfl) rfl rfl rfl ?_
  refine G.unit (does_store (vs := [(v64 r1_3)]) h52 sz28 rfl rfl rfl (by simp [bytesV_length]) (List.forall_mem_cons.2 ⟨rfl, (fun _ hh => by cases hh)⟩) (by simp [bytesV_length])) rfl rfl ?_
  rintro _ w54 h56
  have h55 : Sat W w54 [blk b4 (bytesV (List.ofFn (n := 20) (copyA (fun _ => 0) r3_2)) ++ ([(v64 r1_2), (v64 r1_3), (.int .u32 0), (.bool false), (.int .u16 0), (.int .u16 0), (.int .u16 0), (.string (str ([] : List UInt8)))] : List Value)) 47, blk b [(.slice r244 r4_4.length r345), (.bool open_), (.bool r5_4)] 155, ow elU8 r244 r345 5 r4_4, ow elU8 r114 r215 5 r3_2, blk b1 (bytesV (List.ofFn (n := 20) (fun _ => 0)) ++ ([(.int .u64 0), (.int .u64 0), (.int .u32 0), (.bool false), (.int .u16 0), (.int .u16 0), (.int .u16 0), (.string (str ([] : List UInt8)))] : List Value)) 47] := sl_blk (by kernel_rfl) h56
  refine G.yl (yl_fieldAddr fo47_3 rfl) rfl rfl rfl ?_
  refine G.unit (does_store (vs := [(v32 r1_4.toUInt32)]) h55 sz44 rfl rfl rfl (by simp [bytesV_length]) (List.forall_mem_cons.2 ⟨rfl, (fun _ hh => by cases hh)⟩) (by simp [bytesV_length])) rfl rfl ?_
  rintro _ w57 h59
  have h58 : Sat W w57 [blk b4 (bytesV (List.ofFn (n := 20) (copyA (fun _ => 0) r3_2)) ++ ([(v64 r1_2), (v64 r1_3), (v32 r1_4.toUInt32), (.bool false), (.int .u16 0), (.int .u16 0), (.int .u16 0), (.string (str ([] : List UInt8)))] : List Value)) 47, blk b [(.slice r244 r4_4.length r345), (.bool open_), (.bool r5_4)] 155, ow elU8 r244 r345 5 r4_4, ow elU8 r114 r215 5 r3_2, blk b1 (bytesV (List.ofFn (n := 20) (fun _ => 0)) ++ ([(.int .u64 0), (.int .u64 0), (.int .u32 0), (.bool false), (.int .u16 0), (.int .u16 0), (.int .u16 0), (.string (str ([] : List UInt8)))] : List Value)) 47] := sl_blk (by kernel_rfl) h59
  refine G.nil ?_
  refine QA.then_normal ?_
  refine C.seq ?_
  refine C.region ?_
  refine G.yl (yl_move rfl) rfl rfl rfl ?_
  obtain ⟨⟨r1_5, r4_5, r5_5⟩, hy60, hm⟩ := sp_bind hm
  refine G.does (does_fn 2 rfl rfl rfl en111 (Sat.pick [1, 1, 0, 0, 0] h58) (fun U hU hp hr hs => M_octet_Reader_Num_po_w (b2 := r4_4) (open_ := open_) (bad := r5_4) (width := 1) hp hy60)) rfl rfl rfl ?_
  rintro _ w63 ⟨U66, hb67, r261, r362, rfl, h65⟩
  have h64 : Sat W w63 [blk b [(.slice r261 r4_5.length r362), (.bool open_), (.bool r5_5)] 155, ow elU8 r261 r362 5 r4_5, blk b4 (bytesV (List.ofFn (n := 20) (copyA (fun _ => 0) r3_2)) ++ ([(v64 r1_2), (v64 r1_3), (v32 r1_4.toUInt32), (.bool false), (.int .u16 0), (.int .u16 0), (.int .u16 0), (.string (str ([] : List UInt8)))] : List Value)) 47, ow elU8 r114 r215 5 r3_2, blk b1 (bytesV (List.ofFn (n := 20) (fun _ => 0)) ++ ([(.int .u64 0), (.int .u64 0), (.int .u32 0), (.bool false), (.int .u16 0), (.int .u16 0), (.int .u16 0), (.string (str ([] : List UInt8)))] : List Value)) 47] := hb67 h65
  refine G.yl (yl_assign rfl) rfl rfl rfl ?_
  refine G.nil ?_
  refine QA.then_normal ?_
  refine C.seq ?_
  refine C.region ?_
  refine G.yl (yl_move rfl) rfl rfl rfl ?_
  refine G.yl (yl_eq64 (b := 1) rfl rfl) rfl rfl rfl ?_
  refine G.yl (yl_fieldAddr fo47_4 rfl) rfl rfl rfl ?_
  refine G.unit (does_store (vs := [(.bool (decide (r1_5 = 1)))]) (Sat.pick [2, 0, 0, 0, 0] h64) sz4 rfl rfl rfl (by simp [bytesV_length]) (List.forall_mem_cons.2 ⟨rfl, (fun _ hh => by cases hh)⟩) (by simp [bytesV_length])) rfl rfl ?_
  rintro _ w68 h70
  have h69 : Sat W w68 [blk b4 (bytesV (List.ofFn (n := 20) (copyA (fun _ => 0) r3_2)) ++ ([(v64 r1_2), (v64 r1_3), (v32 r1_4.toUInt32), (.bool (decide (r1_5 = 1))), (.int .u16 0), (.int .u16 0), (.int .u16 0), (.string (str ([] : List UInt8)))] : List Value)) 47, blk b [(.slice r261 r4_5.length r362), (.bool open_), (.bool r5_5)] 155, ow elU8 r261 r362 5 r4_5, ow elU8 r114 r215 5 r3_2, blk b1 (bytesV (List.ofFn (n := 20) (fun _ => 0)) ++ ([(.int .u64 0), (.int .u64 0), (.int .u32 0), (.bool false), (.int .u16 0), (.int .u16 0), (.int .u16 0), (.string (str ([] : List UInt8)))] : List Value)) 47] := sl_blk (by kernel_rfl) h70
  refine G.nil ?_
  refine QA.then_normal ?_
  refine C.join (γ := Option Addr × Nat × List UInt8 × Bool × G_api_Instance) (fun g => match g with | (a_2, c_2, b_2, bad_2, i) => [(0, (.pointer (some ⟨b, 0, none⟩))), (2, (.pointer (some ⟨b1, 0, none⟩))), (3, (.bool false)), (4, (.pointer (some ⟨b4, 0, none⟩))), (5, (v64 r1_5))]) (fun g ww => match g with | (a_2, c_2, b_2, bad_2, i) => (M_inst_Read_po_k1 open_ r1_5 b_2 bad_2 i = some (r1, r2, r5, r6)) ∧ Sat W ww [blk b [(.slice a_2 b_2.length c_2), (.bool open_), (.bool bad_2)] 155, ow elU8 a_2 c_2 5 b_2, blk b1 (bytesV (List.ofFn (n := 20) (fun _ => 0)) ++ ([(.int .u64 0), (.int .u64 0), (.int .u32 0), (.bool false), (.int .u16 0), (.int .u16 0), (.int .u16 0), (.string (str ([] : List UInt8)))] : List Value)) 47, blk b4 (bytesV (List.ofFn (n := 20) i.Publisher) ++ ([(v64 i.Seq), (v64 i.Born), (v32 i.Life), (.bool i.Gone), (v16 i.Priority), (v16 i.Weight), (v16 i.Port), (.string (str i.Target))] : List Value)) 47]) ?_ ?_
  · refine C.seq ?_
    refine C.region ?_
    refine G.yl (yl_move rfl) rfl rfl rfl ?_
    refine G.yl (yl_eq64 (b := 0) rfl rfl) rfl rfl rfl ?_
    refine G.nil ?_
    refine QA.then_normal ?_
    rcases sp_ite hm with ⟨hc71, hm⟩ | ⟨hc71, hm⟩
    · refine C.cond_t rfl (dec_t hc71) ?_
      refine C.seq ?_
      refine C.region ?_
      refine G.yl (yl_move rfl) rfl rfl rfl ?_
      obtain ⟨⟨r1_6, r4_6, r5_6⟩, hy72, hm⟩ := sp_bind hm
      refine G.does (does_fn 2 rfl rfl rfl en111 (Sat.pick [1, 1, 0, 0, 0] h69) (fun U hU hp hr hs => M_octet_Reader_Num_po_w (b2 := r4_5) (open_ := open_) (bad := r5_5) (width := 2) hp hy72)) rfl rfl rfl ?_
      rintro _ w75 ⟨U78, hb79, r273, r374, rfl, h77⟩
      have h76 : Sat W w75 [blk b [(.slice r273 r4_6.length r374), (.bool open_), (.bool r5_6)] 155, ow elU8 r273 r374 5 r4_6, blk b4 (bytesV (List.ofFn (n := 20) (copyA (fun _ => 0) r3_2)) ++ ([(v64 r1_2), (v64 r1_3), (v32 r1_4.toUInt32), (.bool (decide (r1_5 = 1))), (.int .u16 0), (.int .u16 0), (.int .u16 0), (.string (str ([] : List UInt8)))] : List Value)) 47, ow elU8 r114 r215 5 r3_2, blk b1 (bytesV (List.ofFn (n := 20) (fun _ => 0)) ++ ([(.int .u64 0), (.int .u64 0), (.int .u32 0), (.bool false), (.int .u16 0), (.int .u16 0), (.int .u16 0), (.string (str ([] : List UInt8)))] : List Value)) 47] := hb79 h77
      refine G.yl (yl_64to16 us28 Try.underlying45 rfl) rfl rfl rfl ?_
      refine G.yl (yl_move rfl) rfl rfl rfl ?_
      obtain ⟨⟨r1_7, r4_7, r5_7⟩, hy80, hm⟩ := sp_bind hm
      refine G.does (does_fn 2 rfl rfl rfl en111 (Sat.pick [0, 0, 0, 0, 0] h76) (fun U hU hp hr hs => M_octet_Reader_Num_po_w (b2 := r4_6) (open_ := open_) (bad := r5_6) (width := 2) hp hy80)) rfl rfl rfl ?_
      rintro _ w83 ⟨U86, hb87, r281, r382, rfl, h85⟩
      have h84 : Sat W w83 [blk b [(.slice r281 r4_7.length r382), (.bool open_), (.bool r5_7)] 155, ow elU8 r281 r382 5 r4_7, blk b4 (bytesV (List.ofFn (n := 20) (copyA (fun _ => 0) r3_2)) ++ ([(v64 r1_2), (v64 r1_3), (v32 r1_4.toUInt32), (.bool (decide (r1_5 = 1))), (.int .u16 0), (.int .u16 0), (.int .u16 0), (.string (str ([] : List UInt8)))] : List Value)) 47, ow elU8 r114 r215 5 r3_2, blk b1 (bytesV (List.ofFn (n := 20) (fun _ => 0)) ++ ([(.int .u64 0), (.int .u64 0), (.int .u32 0), (.bool false), (.int .u16 0), (.int .u16 0), (.int .u16 0), (.string (str ([] : List UInt8)))] : List Value)) 47] := hb87 h85
      refine G.yl (yl_64to16 us28 Try.underlying45 rfl) rfl rfl rfl ?_
      refine G.yl (yl_move rfl) rfl rfl rfl ?_
      obtain ⟨⟨r1_8, r4_8, r5_8⟩, hy88, hm⟩ := sp_bind hm
      refine G.does (does_fn 2 rfl rfl rfl en111 (Sat.pick [0, 0, 0, 0, 0] h84) (fun U hU hp hr hs => M_octet_Reader_Num_po_w (b2 := r4_7) (open_ := open_) (bad := r5_7) (width := 2) hp hy88)) rfl rfl rfl ?_
      rintro _ w91 ⟨U94, hb95, r289, r390, rfl, h93⟩
      have h92 : Sat W w91 [blk b [(.slice r289 r4_8.length r390), (.bool open_), (.bool r5_8)] 155, ow elU8 r289 r390 5 r4_8, blk b4 (bytesV (List.ofFn (n := 20) (copyA (fun _ => 0) r3_2)) ++ ([(v64 r1_2), (v64 r1_3), (v32 r1_4.toUInt32), (.bool (decide (r1_5 = 1))), (.int .u16 0), (.int .u16 0), (.int .u16 0), (.string (str ([] : List UInt8)))] : List Value)) 47, ow elU8 r114 r215 5 r3_2, blk b1 (bytesV (List.ofFn (n := 20) (fun _ => 0)) ++ ([(.int .u64 0), (.int .u64 0), (.int .u32 0), (.bool false), (.int .u16 0), (.int .u16 0), (.int .u16 0), (.string (str ([] : List UInt8)))] : List Value)) 47] := hb95 h93
      refine G.yl (yl_64to16 us28 Try.underlying45 rfl) rfl rfl rfl ?_
      refine G.yl (yl_fieldAddr fo47_5 rfl) rfl rfl rfl ?_
      refine G.unit (does_store (vs := [(v16 r1_6.toUInt16)]) (Sat.pick [2, 0, 0, 0, 0] h92) sz45 rfl rfl rfl (by simp [bytesV_length]) (List.forall_mem_cons.2 ⟨rfl, (fun _ hh => by cases hh)⟩) (by simp [bytesV_length])) rfl rfl ?_
      rintro _ w96 h98
      have h97 : Sat W w96 [blk b4 (bytesV (List.ofFn (n := 20) (copyA (fun _ => 0) r3_2)) ++ ([(v64 r1_2), (v64 r1_3), (v32 r1_4.toUInt32), (.bool (decide (r1_5 = 1))), (v16 r1_6.toUInt16), (.int .u16 0), (.int .u16 0), (.string (str ([] : List UInt8)))] : List Value)) 47, blk b [(.slice r289 r4_8.length r390), (.bool open_), (.bool r5_8)] 155, ow elU8 r289 r390 5 r4_8, ow elU8 r114 r215 5 r3_2, blk b1 (bytesV (List.ofFn (n := 20) (fun _ => 0)) ++ ([(.int .u64 0), (.int .u64 0), (.int .u32 0), (.bool false), (.int .u16 0), (.int .u16 0), (.int .u16 0), (.string (str ([] : List UInt8)))] : List Value)) 47] := sl_blk (by kernel_rfl) h98
      refine G.yl (yl_fieldAddr fo47_6 rfl) rfl rfl rfl ?_
      refine G.unit (does_store (vs := [(v16 r1_7.toUInt16)]) h97 sz45 rfl rfl rfl (by simp [bytesV_length]) (List.forall_mem_cons.2 ⟨rfl, (fun _ hh => by cases hh)⟩) (by simp [bytesV_length])) rfl rfl ?_
      rintro _ w99 h101
      have h100 : Sat W w99 [blk b4 (bytesV (List.ofFn (n := 20) (copyA (fun _ => 0) r3_2)) ++ ([(v64 r1_2), (v64 r1_3), (v32 r1_4.toUInt32), (.bool (decide (r1_5 = 1))), (v16 r1_6.toUInt16), (v16 r1_7.toUInt16), (.int .u16 0), (.string (str ([] : List UInt8)))] : List Value)) 47, blk b [(.slice r289 r4_8.length r390), (.bool open_), (.bool r5_8)] 155, ow elU8 r289 r390 5 r4_8, ow elU8 r114 r215 5 r3_2, blk b1 (bytesV (List.ofFn (n := 20) (fun _ => 0)) ++ ([(.int .u64 0), (.int .u64 0), (.int .u32 0), (.bool false), (.int .u16 0), (.int .u16 0), (.int .u16 0), (.string (str ([] : List UInt8)))] : List Value)) 47] := sl_blk (by kernel_rfl) h101
      refine G.yl (yl_fieldAddr fo47_7 rfl) rfl rfl rfl ?_
      refine G.unit (does_store (vs := [(v16 r1_8.toUInt16)]) h100 sz45 rfl rfl rfl (by simp [bytesV_length]) (List.forall_mem_cons.2 ⟨rfl, (fun _ hh => by cases hh)⟩) (by simp [bytesV_length])) rfl rfl ?_
      rintro _ w102 h104
      have h103 : Sat W w102 [blk b4 (bytesV (List.ofFn (n := 20) (copyA (fun _ => 0) r3_2)) ++ ([(v64 r1_2), (v64 r1_3), (v32 r1_4.toUInt32), (.bool (decide (r1_5 = 1))), (v16 r1_6.toUInt16), (v16 r1_7.toUInt16), (v16 r1_8.toUInt16), (.string (str ([] : List UInt8)))] : List Value)) 47, blk b [(.slice r289 r4_8.length r390), (.bool open_), (.bool r5_8)] 155, ow elU8 r289 r390 5 r4_8, ow elU8 r114 r215 5 r3_2, blk b1 (bytesV (List.ofFn (n := 20) (fun _ => 0)) ++ ([(.int .u64 0), (.int .u64 0), (.int .u32 0), (.bool false), (.int .u16 0), (.int .u16 0), (.int .u16 0), (.string (str ([] : List UInt8)))] : List Value)) 47] := sl_blk (by kernel_rfl) h104
      refine G.nil ?_
      refine QA.then_normal ?_
      refine C.region ?_
      refine G.yl (yl_move rfl) rfl rfl rfl ?_
      obtain ⟨⟨r1_9, r4_9, r5_9⟩, hy105, hm⟩ := sp_bind hm
      refine G.does (does_fn 2 rfl rfl rfl en112 (Sat.pick [1, 1, 0, 0, 0] h103) (fun U hU hp hr hs => M_octet_Reader_Text_po_w (b2 := r4_8) (open_ := open_) (bad := r5_8) (most := 1024) hp hy105)) rfl rfl rfl ?_
      rintro _ w108 ⟨U111, hb112, r2106, r3107, rfl, h110⟩
      have h109 : Sat W w108 [blk b [(.slice r2106 r4_9.length r3107), (.bool open_), (.bool r5_9)] 155, ow elU8 r2106 r3107 5 r4_9, blk b4 (bytesV (List.ofFn (n := 20) (copyA (fun _ => 0) r3_2)) ++ ([(v64 r1_2), (v64 r1_3), (v32 r1_4.toUInt32), (.bool (decide (r1_5 = 1))), (v16 r1_6.toUInt16), (v16 r1_7.toUInt16), (v16 r1_8.toUInt16), (.string (str ([] : List UInt8)))] : List Value)) 47, ow elU8 r114 r215 5 r3_2, blk b1 (bytesV (List.ofFn (n := 20) (fun _ => 0)) ++ ([(.int .u64 0), (.int .u64 0), (.int .u32 0), (.bool false), (.int .u16 0), (.int .u16 0), (.int .u16 0), (.string (str ([] : List UInt8)))] : List Value)) 47] := hb112 h110
      refine G.yl (yl_fieldAddr fo47_8 rfl) rfl rfl rfl ?_
      refine G.unit (does_store (vs := [(.string (str r1_9))]) (Sat.pick [2, 0, 0, 0, 0] h109) sz9 rfl rfl rfl (by simp [bytesV_length]) (List.forall_mem_cons.2 ⟨rfl, (fun _ hh => by cases hh)⟩) (by simp [bytesV_length])) rfl rfl ?_
      rintro _ w113 h115
      have h114 : Sat W w113 [blk b4 (bytesV (List.ofFn (n := 20) (copyA (fun _ => 0) r3_2)) ++ ([(v64 r1_2), (v64 r1_3), (v32 r1_4.toUInt32), (.bool (decide (r1_5 = 1))), (v16 r1_6.toUInt16), (v16 r1_7.toUInt16), (v16 r1_8.toUInt16), (.string (str r1_9))] : List Value)) 47, blk b [(.slice r2106 r4_9.length r3107), (.bool open_), (.bool r5_9)] 155, ow elU8 r2106 r3107 5 r4_9, ow elU8 r114 r215 5 r3_2, blk b1 (bytesV (List.ofFn (n := 20) (fun _ => 0)) ++ ([(.int .u64 0), (.int .u64 0), (.int .u32 0), (.bool false), (.int .u16 0), (.int .u16 0), (.int .u16 0), (.string (str ([] : List UInt8)))] : List Value)) 47] := sl_blk (by kernel_rfl) h115
      refine G.nil ?_
      exact QA.join (r2106, r3107, r4_9, r5_9, (G_api_Instance.mk (copyA (fun _ => 0) r3_2) r1_2 r1_3 r1_4.toUInt32 (decide (r1_5 = 1)) r1_6.toUInt16 r1_7.toUInt16 r1_8.toUInt16 r1_9)) (Sub.of ⟨rfl, rfl, rfl, rfl, rfl, trivial⟩) ⟨hm, (Sat.pick [1, 1, 2, 0] h114)⟩
    · refine C.cond_f rfl (dec_f hc71) ?_
      refine C.skip ?_
      exact QA.join (r261, r362, r4_5, r5_5, (G_api_Instance.mk (copyA (fun _ => 0) r3_2) r1_2 r1_3 r1_4.toUInt32 (decide (r1_5 = 1)) 0 0 0 ([] : List UInt8))) (Sub.of ⟨rfl, rfl, rfl, rfl, rfl, trivial⟩) ⟨hm, (Sat.pick [1, 1, 2, 0] h69)⟩
  · rintro ⟨a_2, c_2, b_2, bad_2, i⟩ w116 ⟨hm, h117⟩
    show C _ _ _ [(0, (.pointer (some ⟨b, 0, none⟩))), (2, (.pointer (some ⟨b1, 0, none⟩))), (3, (.bool false)), (4, (.pointer (some ⟨b4, 0, none⟩))), (5, (v64 r1_5))] _ _
    unfold M_inst_Read_po_k1 at hm
    refine C.seq ?_
    refine C.join (γ := Bool) (fun g => match g with | t53 => [(0, (.pointer (some ⟨b, 0, none⟩))), (2, (.pointer (some ⟨b1, 0, none⟩))), (3, (.bool false)), (4, (.pointer (some ⟨b4, 0, none⟩))), (53, (.bool t53))]) (fun g ww => match g with | t53 => (M_inst_Read_po_k2 b_2 bad_2 i open_ t53 = some (r1, r2, r5, r6)) ∧ Sat W ww [blk b [(.slice a_2 b_2.length c_2), (.bool open_), (.bool bad_2)] 155, ow elU8 a_2 c_2 5 b_2, blk b1 (bytesV (List.ofFn (n := 20) (fun _ => 0)) ++ ([(.int .u64 0), (.int .u64 0), (.int .u32 0), (.bool false), (.int .u16 0), (.int .u16 0), (.int .u16 0), (.string (str ([] : List UInt8)))] : List Value)) 47, blk b4 (bytesV (List.ofFn (n := 20) i.Publisher) ++ ([(v64 i.Seq), (v64 i.Born), (v32 i.Life), (.bool i.Gone), (v16 i.Priority), (v16 i.Weight), (v16 i.Port), (.string (str i.Target))] : List Value)) 47]) ?_ ?_
    · refine C.region ?_
      refine G.yl (yl_move rfl) rfl rfl rfl ?_
      obtain ⟨r1_10, hy118, hm⟩ := sp_bind hm
      refine G.does (does_fn 2 rfl rfl rfl en57 (Sat.pick [0, 0, 0, 0] h117) (fun U hU hp hr hs => M_octet_Reader_Bad_po_w (b2 := b_2) (open_ := open_) (bad := bad_2) hp hy118)) rfl rfl rfl ?_
      rintro _ w119 ⟨U122, hb123, rfl, h121⟩
      have h120 : Sat W w119 [blk b [(.slice a_2 b_2.length c_2), (.bool open_), (.bool bad_2)] 155, ow elU8 a_2 c_2 5 b_2, blk b1 (bytesV (List.ofFn (n := 20) (fun _ => 0)) ++ ([(.int .u64 0), (.int .u64 0), (.int .u32 0), (.bool false), (.int .u16 0), (.int .u16 0), (.int .u16 0), (.string (str ([] : List UInt8)))] : List Value)) 47, blk b4 (bytesV (List.ofFn (n := 20) i.Publisher) ++ ([(v64 i.Seq), (v64 i.Born), (v32 i.Life), (.bool i.Gone), (v16 i.Priority), (v16 i.Weight), (v16 i.Port), (.string (str i.Target))] : List Value)) 47] := hb123 h121
      refine G.yl (yl_move rfl) rfl rfl rfl ?_
      rcases sp_b hm with ⟨hc124, hm⟩ | ⟨hc124, hm⟩
      · refine G.offU rfl rfl hc124 rfl ?_
        refine G.offU rfl rfl hc124 rfl ?_
        refine G.yl (yl_pick_t rfl hc124 rfl) rfl rfl rfl ?_
        refine G.yl (yl_move rfl) rfl rfl rfl ?_
        refine G.offU rfl rfl rfl rfl ?_
        refine G.offU rfl rfl rfl rfl ?_
        refine G.offU rfl rfl rfl rfl ?_
        refine G.yl (yl_pick_t rfl rfl rfl) rfl rfl rfl ?_
        refine G.nil ?_
        exact QA.join true (Sub.of ⟨rfl, rfl, rfl, rfl, rfl, trivial⟩) ⟨hm, (Sat.pick [0, 0, 0, 0] h120)⟩
      · refine G.on rfl rfl hc124 ?_
        refine G.yl (yl_move rfl) rfl rfl rfl ?_
        refine G.on rfl rfl hc124 ?_
        refine G.yl (yl_gt64 (b := 1) rfl rfl) rfl rfl rfl ?_
        refine G.yl (yl_pick_f rfl hc124 rfl) rfl rfl rfl ?_
        refine G.yl (yl_move rfl) rfl rfl rfl ?_
        rcases sp_ite hm with ⟨hc125, hm⟩ | ⟨hc125, hm⟩
        · refine G.offU rfl rfl (dec_t hc125) rfl ?_
          refine G.offU rfl rfl (dec_t hc125) rfl ?_
          refine G.offU rfl rfl (dec_t hc125) rfl ?_
          refine G.yl (yl_pick_t rfl (dec_t hc125) rfl) rfl rfl rfl ?_
          refine G.nil ?_
          exact QA.join true (Sub.of ⟨rfl, rfl, rfl, rfl, rfl, trivial⟩) ⟨hm, (Sat.pick [0, 0, 0, 0] h120)⟩
        · refine G.on rfl rfl (dec_f hc125) ?_
          refine G.yl (yl_loadN (vs := (bytesV (List.ofFn (n := 20) i.Publisher) ++ ([(v64 i.Seq), (v64 i.Born), (v32 i.Life), (.bool i.Gone), (v16 i.Priority), (v16 i.Weight), (v16 i.Port), (.string (str i.Target))] : List Value))) ag47 sz47 (by simp [bytesV_length]) rfl ((Sat.pick [3] h120).isBlk.view0)) rfl rfl rfl ?_
          refine G.on rfl rfl (dec_f hc125) ?_
          obtain ⟨r1_11, hy126, hm⟩ := sp_bind hm
          refine G.does (does_fn 0 rfl rfl rfl en32 h120 (fun U hU hp hr hs => M_inst_Good_w (i := i) hp hy126)) rfl rfl rfl ?_
          rintro _ w127 ⟨U130, hb131, rfl, h129⟩
          have h128 : Sat W w127 [blk b [(.slice a_2 b_2.length c_2), (.bool open_), (.bool bad_2)] 155, ow elU8 a_2 c_2 5 b_2, blk b1 (bytesV (List.ofFn (n := 20) (fun _ => 0)) ++ ([(.int .u64 0), (.int .u64 0), (.int .u32 0), (.bool false), (.int .u16 0), (.int .u16 0), (.int .u16 0), (.string (str ([] : List UInt8)))] : List Value)) 47, blk b4 (bytesV (List.ofFn (n := 20) i.Publisher) ++ ([(v64 i.Seq), (v64 i.Born), (v32 i.Life), (.bool i.Gone), (v16 i.Priority), (v16 i.Weight), (v16 i.Port), (.string (str i.Target))] : List Value)) 47] := hb131 h129
          refine G.on rfl rfl (dec_f hc125) ?_
          refine G.yl (yl_not rfl) rfl rfl rfl ?_
          refine G.yl (yl_pick_f rfl (dec_f hc125) rfl) rfl rfl rfl ?_
          refine G.nil ?_
          exact QA.join (!r1_11) (Sub.of ⟨rfl, rfl, rfl, rfl, rfl, trivial⟩) ⟨hm, (Sat.pick [0, 0, 0, 0] h128)⟩
    · rintro t53 w132 ⟨hm, h133⟩
      show C _ _ _ [(0, (.pointer (some ⟨b, 0, none⟩))), (2, (.pointer (some ⟨b1, 0, none⟩))), (3, (.bool false)), (4, (.pointer (some ⟨b4, 0, none⟩))), (53, (.bool t53))] _ _
      unfold M_inst_Read_po_k2 at hm
      rcases sp_b hm with ⟨hc134, hm⟩ | ⟨hc134, hm⟩
      · refine C.cond_t rfl hc134 ?_
        refine C.seq ?_
        refine C.region ?_
        refine G.yl (yl_move rfl) rfl rfl rfl ?_
        obtain ⟨⟨r3_3, r6_3, r7_3⟩, hy135, hm⟩ := sp_bind hm
        refine G.does (does_fn 2 rfl rfl rfl en110 (Sat.pick [0, 0, 0, 0] h133) (fun U hU hp hr hs => M_octet_Reader_Take_po_w (b2 := b_2) (open_ := open_) (bad := bad_2) (n := (-1)) hp hy135)) rfl rfl rfl ?_
        rintro _ w140 ⟨U143, hb144, r1136, r2137, r4138, r5139, rfl, h142⟩
        have h141 : Sat W w140 [ow elU8 r1136 r2137 5 r3_3, blk b [(.slice r4138 r6_3.length r5139), (.bool open_), (.bool r7_3)] 155, ow elU8 r4138 r5139 5 r6_3, blk b1 (bytesV (List.ofFn (n := 20) (fun _ => 0)) ++ ([(.int .u64 0), (.int .u64 0), (.int .u32 0), (.bool false), (.int .u16 0), (.int .u16 0), (.int .u16 0), (.string (str ([] : List UInt8)))] : List Value)) 47, blk b4 (bytesV (List.ofFn (n := 20) i.Publisher) ++ ([(v64 i.Seq), (v64 i.Born), (v32 i.Life), (.bool i.Gone), (v16 i.Priority), (v16 i.Weight), (v16 i.Port), (.string (str i.Target))] : List Value)) 47] := hb144 h142
        refine G.nil ?_
        refine QA.then_normal ?_
        refine C.seq ?_
        refine C.region ?_
        refine G.yl (yl_build (vs := []) (cells := (bytesV (List.ofFn (n := 20) (fun _ => 0)) ++ ([(.int .u64 0), (.int .u64 0), (.int .u32 0), (.bool false), (.int .u16 0), (.int .u16 0), (.int .u16 0), (.string (str ([] : List UInt8)))] : List Value)).toArray) rfl (by kernel_rfl)) rfl rfl rfl ?_
        refine G.unit (does_store (vs := (bytesV (List.ofFn (n := 20) (fun _ => 0)) ++ ([(.int .u64 0), (.int .u64 0), (.int .u32 0), (.bool false), (.int .u16 0), (.int .u16 0), (.int .u16 0), (.string (str ([] : List UInt8)))] : List Value))) (Sat.pick [3, 0, 0, 0, 0] h141) sz47 rfl rfl rfl (by simp [bytesV_length]) (List.forall_mem_append.2 ⟨(bytesV_one _), (List.forall_mem_cons.2 ⟨rfl, (List.forall_mem_cons.2 ⟨rfl, (List.forall_mem_cons.2 ⟨rfl, (List.forall_mem_cons.2 ⟨rfl, (List.forall_mem_cons.2 ⟨rfl, (List.forall_mem_cons.2 ⟨rfl, (List.forall_mem_cons.2 ⟨rfl, (List.forall_mem_cons.2 ⟨rfl, (fun _ hh => by cases hh)⟩)⟩)⟩)⟩)⟩)⟩)⟩)⟩)⟩) (by simp [bytesV_length])) rfl rfl ?_
        rintro _ w145 h147
        have h146 : Sat W w145 [blk b1 (bytesV (List.ofFn (n := 20) (fun _ => 0)) ++ ([(.int .u64 0), (.int .u64 0), (.int .u32 0), (.bool false), (.int .u16 0), (.int .u16 0), (.int .u16 0), (.string (str ([] : List UInt8)))] : List Value)) 47, ow elU8 r1136 r2137 5 r3_3, blk b [(.slice r4138 r6_3.length r5139), (.bool open_), (.bool r7_3)] 155, ow elU8 r4138 r5139 5 r6_3, blk b4 (bytesV (List.ofFn (n := 20) i.Publisher) ++ ([(v64 i.Seq), (v64 i.Born), (v32 i.Life), (.bool i.Gone), (v16 i.Priority), (v16 i.Weight), (v16 i.Port), (.string (str i.Target))] : List Value)) 47] := sl_blk (setN_all _ _ (by simp [bytesV_length])) h147
        refine G.yl (yl_assign rfl) rfl rfl rfl ?_
        refine G.nil ?_
        refine QA.then_normal ?_
        refine C.ret ?_
        refine QA.then_ret ?_
        refine QA.ret_ct rfl (InCell.many (vs := (bytesV (List.ofFn (n := 20) (fun _ => 0)) ++ ([(.int .u64 0), (.int .u64 0), (.int .u32 0), (.bool false), (.int .u16 0), (.int .u16 0), (.int .u16 0), (.string (str ([] : List UInt8)))] : List Value))) rfl ag47 sz47 (by simp [bytesV_length]) (h146.isBlk.view0)) rfl ?_
        obtain ⟨rfl, rfl, rfl, rfl⟩ := sp_ret4 hm
        exact ⟨r4138, r5139, rfl, (Sat.pick [2, 2] h146)⟩
      · refine C.cond_f rfl hc134 ?_
        refine C.skip ?_
        refine QA.then_normal ?_
        refine C.seq ?_
        refine C.region ?_
        refine G.yl (yl_loadN (vs := (bytesV (List.ofFn (n := 20) i.Publisher) ++ ([(v64 i.Seq), (v64 i.Born), (v32 i.Life), (.bool i.Gone), (v16 i.Priority), (v16 i.Weight), (v16 i.Port), (.string (str i.Target))] : List Value))) ag47 sz47 (by simp [bytesV_length]) rfl ((Sat.pick [3] h133).isBlk.view0)) rfl rfl rfl ?_
        refine G.unit (does_store (vs := (bytesV (List.ofFn (n := 20) i.Publisher) ++ ([(v64 i.Seq), (v64 i.Born), (v32 i.Life), (.bool i.Gone), (v16 i.Priority), (v16 i.Weight), (v16 i.Port), (.string (str i.Target))] : List Value))) (Sat.pick [2, 0, 0, 0] h133) sz47 rfl rfl rfl (by simp [bytesV_length]) (List.forall_mem_append.2 ⟨(bytesV_one _), (List.forall_mem_cons.2 ⟨rfl, (List.forall_mem_cons.2 ⟨rfl, (List.forall_mem_cons.2 ⟨rfl, (List.forall_mem_cons.2 ⟨rfl, (List.forall_mem_cons.2 ⟨rfl, (List.forall_mem_cons.2 ⟨rfl, (List.forall_mem_cons.2 ⟨rfl, (List.forall_mem_cons.2 ⟨rfl, (fun _ hh => by cases hh)⟩)⟩)⟩)⟩)⟩)⟩)⟩)⟩)⟩) (by simp [bytesV_length])) rfl rfl ?_
        rintro _ w148 h150
        have h149 : Sat W w148 [blk b1 (bytesV (List.ofFn (n := 20) i.Publisher) ++ ([(v64 i.Seq), (v64 i.Born), (v32 i.Life), (.bool i.Gone), (v16 i.Priority), (v16 i.Weight), (v16 i.Port), (.string (str i.Target))] : List Value)) 47, blk b [(.slice a_2 b_2.length c_2), (.bool open_), (.bool bad_2)] 155, ow elU8 a_2 c_2 5 b_2, blk b4 (bytesV (List.ofFn (n := 20) i.Publisher) ++ ([(v64 i.Seq), (v64 i.Born), (v32 i.Life), (.bool i.Gone), (v16 i.Priority), (v16 i.Weight), (v16 i.Port), (.string (str i.Target))] : List Value)) 47] := sl_blk (setN_all _ _ (by simp [bytesV_length])) h150
        refine G.yl (yl_assign rfl) rfl rfl rfl ?_
        refine G.nil ?_
        refine QA.then_normal ?_
        refine C.ret ?_
        refine QA.ret_ct rfl (InCell.many (vs := (bytesV (List.ofFn (n := 20) i.Publisher) ++ ([(v64 i.Seq), (v64 i.Born), (v32 i.Life), (.bool i.Gone), (v16 i.Priority), (v16 i.Weight), (v16 i.Port), (.string (str i.Target))] : List Value))) rfl ag47 sz47 (by simp [bytesV_length]) (h149.isBlk.view0)) rfl ?_
        obtain ⟨rfl, rfl, rfl, rfl⟩ := sp_ret4 hm
        exact ⟨a_2, c_2, rfl, (Sat.pick [1, 1] h149)⟩
set_option maxRecDepth 20000 in
set_option maxHeartbeats 1000000 in
theorem M_octet_rest_left_po_w {W : Base} {w : World} {b : Nat} {a : Option Addr} {c : Nat} {b2 : List UInt8} {open_ : Bool} {bad : Bool}  (h : Sat W w [blk b [(.slice a b2.length c), (.bool open_), (.bool bad)] 155, ow elU8 a c 5 b2])  (hm : M_octet_rest_left_po b2 open_ bad = some ()) :
    Calls Try.prog 117 #[(.pointer (some ⟨b, 0, none⟩))] w (Ret fun v w' => v = (vI (b2.length : Int)) ∧ Sat W w' [blk b [(.slice a b2.length c), (.bool open_), (.bool bad)] 155, ow elU8 a c 5 b2]) := by
  unfold M_octet_rest_left_po at hm
  refine C.enter (N := 8) Try.func117 rfl Try.ntmps117 rfl ?_
  show C _ _ _ [(0, (.pointer (some ⟨b, 0, none⟩)))] _ _
  refine C.seq ?_
  refine C.region ?_
  refine G.yl (yl_assign rfl) rfl rfl rfl ?_
  refine G.nil ?_
  refine QA.then_normal ?_
  refine C.seq ?_
  refine C.region ?_
  refine G.yl (yl_move rfl) rfl rfl rfl ?_
  refine G.yl (yl_nilCheck rfl) rfl rfl rfl ?_
  refine G.yl (yl_fieldAddr fo153_0 rfl) rfl rfl rfl ?_
  refine G.yl (yl_load (v := (.slice a b2.length c)) ag49 rfl (View.at0 (j := 0) h.isBlk.view0 rfl)) rfl rfl rfl ?_
  refine G.yl (yl_lenE Try.underlying49 rfl) rfl rfl rfl ?_
  refine G.yl (yl_assign rfl) rfl rfl rfl ?_
  refine G.nil ?_
  refine QA.then_normal ?_
  refine C.ret ?_
  refine QA.ret1 rfl rfl ?_
  exact ⟨rfl, (Sat.pick [0, 0] h)⟩
set_option maxRecDepth 20000 in
set_option maxHeartbeats 1000000 in
theorem M_octet_Reader_Left_po_w {W : Base} {w : World} {b : Nat} {a : Option Addr} {c : Nat} {b2 : List UInt8} {open_ : Bool} {bad : Bool}  (h : Sat W w [blk b [(.slice a b2.length c), (.bool open_), (.bool bad)] 155, ow elU8 a c 5 b2]) {r1 : Int} (hm : M_octet_Reader_Left_po b2 open_ bad = some r1) :
    Calls Try.prog 55 #[(.pointer (some ⟨b, 0, none⟩))] w (Ret fun v w' => v = (vI r1) ∧ Sat W w' [blk b [(.slice a b2.length c), (.bool open_), (.bool bad)] 155, ow elU8 a c 5 b2]) := by
  unfold M_octet_Reader_Left_po at hm
  refine C.enter (N := 9) Try.func55 rfl Try.ntmps55 rfl ?_
  show C _ _ _ [(0, (.pointer (some ⟨b, 0, none⟩)))] _ _
  refine C.seq ?_
  refine C.region ?_
  refine G.yl (yl_assign rfl) rfl rfl rfl ?_
  refine G.nil ?_
  refine QA.then_normal ?_
  refine C.seq ?_
  refine C.seq ?_
  refine C.region ?_
  refine G.yl (yl_move rfl) rfl rfl rfl ?_
  obtain ⟨_, hy1, hm⟩ := sp_bind hm
  refine G.does (does_fn 2 rfl rfl rfl en116 (Sat.pick [0, 0] h) (fun U hU hp hr hs => M_octet_Reader_none_po_w (b2 := b2) (open_ := open_) (bad := bad) hp hy1)) rfl rfl rfl ?_
  rintro _ w2 ⟨U5, hb6, rfl, h4⟩
  have h3 : Sat W w2 [blk b [(.slice a b2.length c), (.bool open_), (.bool bad)] 155, ow elU8 a c 5 b2] := hb6 h4
  refine G.nil ?_
  refine QA.then_normal ?_
  rcases sp_b hm with ⟨hc7, hm⟩ | ⟨hc7, hm⟩
  · refine C.cond_f rfl (not_f hc7) ?_
    refine C.skip ?_
    refine QA.then_normal ?_
    refine C.seq ?_
    refine C.region ?_
    refine G.yl (yl_move rfl) rfl rfl rfl ?_
    refine G.yl (yl_nilCheck rfl) rfl rfl rfl ?_
    refine G.yl (yl_fieldAddr fo155_0 rfl) rfl rfl rfl ?_
    obtain ⟨_, hy8, hm⟩ := sp_bind hm
    refine G.does (does_fn 2 rfl rfl rfl en117 (Sat.pick [0, 0] h3) (fun U hU hp hr hs => M_octet_rest_left_po_w (b2 := b2) (open_ := open_) (bad := bad) hp hy8)) rfl rfl rfl ?_
    rintro _ w9 ⟨U12, hb13, rfl, h11⟩
    have h10 : Sat W w9 [blk b [(.slice a b2.length c), (.bool open_), (.bool bad)] 155, ow elU8 a c 5 b2] := hb13 h11
    refine G.yl (yl_assign rfl) rfl rfl rfl ?_
    refine G.nil ?_
    refine QA.then_normal ?_
    refine C.ret ?_
    refine QA.ret1 rfl rfl ?_
    obtain rfl := sp_ret1 hm
    exact ⟨rfl, (Sat.pick [0, 0] h10)⟩
  · refine C.cond_t rfl (not_t hc7) ?_
    refine C.seq ?_
    refine C.region ?_
    refine G.yl (yl_assign rfl) rfl rfl rfl ?_
    refine G.nil ?_
    refine QA.then_normal ?_
    refine C.ret ?_
    refine QA.then_ret ?_
    refine QA.ret1 rfl rfl ?_
    obtain rfl := sp_ret1 hm
    exact ⟨rfl, (Sat.pick [0, 0] h3)⟩
end Go.Proofs.Ytgabplankmljfaa
