/-
  That the functions of the program compute what their Lean functions say, part 1. No condition.
-/
import Derived.Test.YtgabplankmljfaaInstTellsW0
namespace Go.Proofs.Ytgabplankmljfaa
open Go Go.RowKit
set_option linter.unusedVariables false
set_option linter.unusedSimpArgs false
set_option linter.unnecessarySimpa false
set_option maxRecDepth 20000 in
set_option maxHeartbeats 1000000 in
theorem M_signpostlaw11_lives_w {W : Base} {w : World}   (h : Sat W w []) {r1 : Bool} (hm : M_signpostlaw11_lives = some r1) :
    Calls Try.prog 29 #[] w (Ret fun v w' => v = (.bool r1) ∧ Sat W w' []) := by
  unfold M_signpostlaw11_lives at hm
  refine C.enter (N := 40) Try.func29 rfl Try.ntmps29 rfl ?_
  show C _ _ _ [] _ _
  refine C.seq ?_
  refine C.region ?_
  refine G.yl (yl_assign rfl) rfl rfl rfl ?_
  refine G.nil ?_
  refine QA.then_normal ?_
  refine C.seq ?_
  refine C.region ?_
  refine G.yl (yl_build (vs := [(.int .u64 5), (.int .u32 3), (.int .u16 80), (.string (str ([97] : List UInt8)))]) (cells := (bytesV (List.ofFn (n := 20) (fun _ => 0)) ++ ([(.int .u64 0), (.int .u64 5), (.int .u32 3), (.bool false), (.int .u16 0), (.int .u16 0), (.int .u16 80), (.string (str ([97] : List UInt8)))] : List Value)).toArray) rfl (by kernel_rfl)) rfl rfl rfl ?_
  refine G.does (does_alloc (cs := (bytesV (List.ofFn (n := 20) (fun _ => 0)) ++ ([(.int .u64 0), (.int .u64 0), (.int .u32 0), (.bool false), (.int .u16 0), (.int .u16 0), (.int .u16 0), (.string (str ([] : List UInt8)))] : List Value))) h z47 rfl) rfl rfl rfl ?_
  rintro _ w2 ⟨b1, rfl, h3⟩
  refine G.unit (does_store (vs := (bytesV (List.ofFn (n := 20) (fun _ => 0)) ++ ([(.int .u64 0), (.int .u64 5), (.int .u32 3), (.bool false), (.int .u16 0), (.int .u16 0), (.int .u16 80), (.string (str ([97] : List UInt8)))] : List Value))) h3 sz47 rfl rfl rfl (by simp [bytesV_length]) (List.forall_mem_append.2 ⟨(bytesV_one _), (List.forall_mem_cons.2 ⟨rfl, (List.forall_mem_cons.2 ⟨rfl, (List.forall_mem_cons.2 ⟨rfl, (List.forall_mem_cons.2 ⟨rfl, (List.forall_mem_cons.2 ⟨rfl, (List.forall_mem_cons.2 ⟨rfl, (List.forall_mem_cons.2 ⟨rfl, (List.forall_mem_cons.2 ⟨rfl, (fun _ hh => by cases hh)⟩)⟩)⟩)⟩)⟩)⟩)⟩)⟩)⟩) (by simp [bytesV_length])) rfl rfl ?_
  rintro _ w4 h6
  have h5 : Sat W w4 [blk b1 (bytesV (List.ofFn (n := 20) (fun _ => 0)) ++ ([(.int .u64 0), (.int .u64 5), (.int .u32 3), (.bool false), (.int .u16 0), (.int .u16 0), (.int .u16 80), (.string (str ([97] : List UInt8)))] : List Value)) 47] := sl_blk (setN_all _ _ (by simp [bytesV_length])) h6
  refine G.nil ?_
  refine QA.then_normal ?_
  refine C.seq ?_
  refine C.region ?_
  refine G.yl (yl_loadN (vs := (bytesV (List.ofFn (n := 20) (fun _ => 0)) ++ ([(.int .u64 0), (.int .u64 5), (.int .u32 3), (.bool false), (.int .u16 0), (.int .u16 0), (.int .u16 80), (.string (str ([97] : List UInt8)))] : List Value))) ag47 sz47 (by simp [bytesV_length]) rfl (h5.isBlk.view0)) rfl rfl rfl ?_
  obtain ⟨⟨r3_2, r4_2⟩, hy7, hm⟩ := sp_bind hm
  refine G.does (does_fn 0 rfl rfl rfl en30 h5 (fun U hU hp hr hs => M_inst_Bytes_w (i := (G_api_Instance.mk (fun _ => 0) 0 5 3 false 0 0 80 ([97] : List UInt8))) hp hy7)) rfl rfl rfl ?_
  rintro _ w10 ⟨U13, hb14, r18, r29, rfl, h12⟩
  have h11 : Sat W w10 [ow elU8 r18 r29 5 r3_2, blk b1 (bytesV (List.ofFn (n := 20) (fun _ => 0)) ++ ([(.int .u64 0), (.int .u64 5), (.int .u32 3), (.bool false), (.int .u16 0), (.int .u16 0), (.int .u16 80), (.string (str ([97] : List UInt8)))] : List Value)) 47] := hb14 h12
  refine G.yl (yl_move rfl) rfl rfl rfl ?_
  refine G.yl (yl_extract rfl rfl) rfl rfl rfl ?_
  refine G.yl (yl_extract rfl rfl) rfl rfl rfl ?_
  refine G.yl (yl_assign rfl) rfl rfl rfl ?_
  refine G.yl (yl_assign rfl) rfl rfl rfl ?_
  refine G.nil ?_
  refine QA.then_normal ?_
  refine C.seq ?_
  refine C.region ?_
  refine G.yl (yl_loadN (vs := (bytesV (List.ofFn (n := 20) (fun _ => 0)) ++ ([(.int .u64 0), (.int .u64 5), (.int .u32 3), (.bool false), (.int .u16 0), (.int .u16 0), (.int .u16 80), (.string (str ([97] : List UInt8)))] : List Value))) ag47 sz47 (by simp [bytesV_length]) rfl ((Sat.pick [1] h11).isBlk.view0)) rfl rfl rfl ?_
  obtain ⟨r1_2, hy15, hm⟩ := sp_bind hm
  refine G.does (does_fn 0 rfl rfl rfl en32 h11 (fun U hU hp hr hs => M_inst_Good_w (i := (G_api_Instance.mk (fun _ => 0) 0 5 3 false 0 0 80 ([97] : List UInt8))) hp hy15)) rfl rfl rfl ?_
  rintro _ w16 ⟨U19, hb20, rfl, h18⟩
  have h17 : Sat W w16 [ow elU8 r18 r29 5 r3_2, blk b1 (bytesV (List.ofFn (n := 20) (fun _ => 0)) ++ ([(.int .u64 0), (.int .u64 5), (.int .u32 3), (.bool false), (.int .u16 0), (.int .u16 0), (.int .u16 80), (.string (str ([97] : List UInt8)))] : List Value)) 47] := hb20 h18
  refine G.yl (yl_move rfl) rfl rfl rfl ?_
  rcases sp_b hm with ⟨hc21, hm⟩ | ⟨hc21, hm⟩
  · refine G.on rfl rfl hc21 ?_
    refine G.yl (yl_loadN (vs := (bytesV (List.ofFn (n := 20) (fun _ => 0)) ++ ([(.int .u64 0), (.int .u64 5), (.int .u32 3), (.bool false), (.int .u16 0), (.int .u16 0), (.int .u16 80), (.string (str ([97] : List UInt8)))] : List Value))) ag47 sz47 (by simp [bytesV_length]) rfl ((Sat.pick [1] h17).isBlk.view0)) rfl rfl rfl ?_
    refine G.on rfl rfl hc21 ?_
    obtain ⟨r1_3, hy22, hm⟩ := sp_bind hm
    refine G.does (does_fn 0 rfl rfl rfl en36 h17 (fun U hU hp hr hs => M_inst_Alive_w (i := (G_api_Instance.mk (fun _ => 0) 0 5 3 false 0 0 80 ([97] : List UInt8))) (now := 4) hp hy22)) rfl rfl rfl ?_
    rintro _ w23 ⟨U26, hb27, rfl, h25⟩
    have h24 : Sat W w23 [ow elU8 r18 r29 5 r3_2, blk b1 (bytesV (List.ofFn (n := 20) (fun _ => 0)) ++ ([(.int .u64 0), (.int .u64 5), (.int .u32 3), (.bool false), (.int .u16 0), (.int .u16 0), (.int .u16 80), (.string (str ([97] : List UInt8)))] : List Value)) 47] := hb27 h25
    refine G.on rfl rfl hc21 ?_
    refine G.yl (yl_not rfl) rfl rfl rfl ?_
    refine G.yl (yl_pick_t rfl hc21 rfl) rfl rfl rfl ?_
    refine G.yl (yl_move rfl) rfl rfl rfl ?_
    rcases sp_b hm with ⟨hc28, hm⟩ | ⟨hc28, hm⟩
    · refine G.offU rfl rfl (not_f hc28) rfl ?_
      refine G.offU rfl rfl (not_f hc28) rfl ?_
      refine G.yl (yl_pick_f rfl (not_f hc28) rfl) rfl rfl rfl ?_
      refine G.yl (yl_move rfl) rfl rfl rfl ?_
      refine G.offU rfl rfl rfl rfl ?_
      refine G.offU rfl rfl rfl rfl ?_
      refine G.offU rfl rfl rfl rfl ?_
      refine G.yl (yl_pick_f rfl rfl rfl) rfl rfl rfl ?_
      refine G.yl (yl_move rfl) rfl rfl rfl ?_
      refine G.offU rfl rfl rfl rfl ?_
      refine G.offU rfl rfl rfl rfl ?_
      refine G.offU rfl rfl rfl rfl ?_
      refine G.yl (yl_pick_f rfl rfl rfl) rfl rfl rfl ?_
      refine G.yl (yl_move rfl) rfl rfl rfl ?_
      refine G.offU rfl rfl rfl rfl ?_
      refine G.offU rfl rfl rfl rfl ?_
      refine G.yl (yl_pick_f rfl rfl rfl) rfl rfl rfl ?_
      refine G.yl (yl_move rfl) rfl rfl rfl ?_
      refine G.offU rfl rfl rfl rfl ?_
      refine G.offU rfl rfl rfl rfl ?_
      refine G.offU rfl rfl rfl rfl ?_
      refine G.yl (yl_pick_f rfl rfl rfl) rfl rfl rfl ?_
      refine G.yl (yl_assign rfl) rfl rfl rfl ?_
      refine G.nil ?_
      refine QA.then_normal ?_
      refine C.ret ?_
      refine QA.ret1 rfl rfl ?_
      obtain rfl := sp_ret1 hm
      exact ⟨rfl, (Sat.pick [] h24)⟩
    · refine G.on rfl rfl (not_t hc28) ?_
      refine G.yl (yl_loadN (vs := (bytesV (List.ofFn (n := 20) (fun _ => 0)) ++ ([(.int .u64 0), (.int .u64 5), (.int .u32 3), (.bool false), (.int .u16 0), (.int .u16 0), (.int .u16 80), (.string (str ([97] : List UInt8)))] : List Value))) ag47 sz47 (by simp [bytesV_length]) rfl ((Sat.pick [1] h24).isBlk.view0)) rfl rfl rfl ?_
      refine G.on rfl rfl (not_t hc28) ?_
      obtain ⟨r1_4, hy29, hm⟩ := sp_bind hm
      refine G.does (does_fn 0 rfl rfl rfl en36 h24 (fun U hU hp hr hs => M_inst_Alive_w (i := (G_api_Instance.mk (fun _ => 0) 0 5 3 false 0 0 80 ([97] : List UInt8))) (now := 5) hp hy29)) rfl rfl rfl ?_
      rintro _ w30 ⟨U33, hb34, rfl, h32⟩
      have h31 : Sat W w30 [ow elU8 r18 r29 5 r3_2, blk b1 (bytesV (List.ofFn (n := 20) (fun _ => 0)) ++ ([(.int .u64 0), (.int .u64 5), (.int .u32 3), (.bool false), (.int .u16 0), (.int .u16 0), (.int .u16 80), (.string (str ([97] : List UInt8)))] : List Value)) 47] := hb34 h32
      refine G.yl (yl_pick_t rfl (not_t hc28) rfl) rfl rfl rfl ?_
      refine G.yl (yl_move rfl) rfl rfl rfl ?_
      rcases sp_b hm with ⟨hc35, hm⟩ | ⟨hc35, hm⟩
      · refine G.on rfl rfl hc35 ?_
        refine G.yl (yl_loadN (vs := (bytesV (List.ofFn (n := 20) (fun _ => 0)) ++ ([(.int .u64 0), (.int .u64 5), (.int .u32 3), (.bool false), (.int .u16 0), (.int .u16 0), (.int .u16 80), (.string (str ([97] : List UInt8)))] : List Value))) ag47 sz47 (by simp [bytesV_length]) rfl ((Sat.pick [1] h31).isBlk.view0)) rfl rfl rfl ?_
        refine G.on rfl rfl hc35 ?_
        obtain ⟨r1_5, hy36, hm⟩ := sp_bind hm
        refine G.does (does_fn 0 rfl rfl rfl en36 h31 (fun U hU hp hr hs => M_inst_Alive_w (i := (G_api_Instance.mk (fun _ => 0) 0 5 3 false 0 0 80 ([97] : List UInt8))) (now := 8) hp hy36)) rfl rfl rfl ?_
        rintro _ w37 ⟨U40, hb41, rfl, h39⟩
        have h38 : Sat W w37 [ow elU8 r18 r29 5 r3_2, blk b1 (bytesV (List.ofFn (n := 20) (fun _ => 0)) ++ ([(.int .u64 0), (.int .u64 5), (.int .u32 3), (.bool false), (.int .u16 0), (.int .u16 0), (.int .u16 80), (.string (str ([97] : List UInt8)))] : List Value)) 47] := hb41 h39
        refine G.on rfl rfl hc35 ?_
        refine G.yl (yl_not rfl) rfl rfl rfl ?_
        refine G.yl (yl_pick_t rfl hc35 rfl) rfl rfl rfl ?_
        refine G.yl (yl_move rfl) rfl rfl rfl ?_
        rcases sp_b hm with ⟨hc42, hm⟩ | ⟨hc42, hm⟩
        · refine G.offU rfl rfl (not_f hc42) rfl ?_
          refine G.offU rfl rfl (not_f hc42) rfl ?_
          refine G.offU rfl rfl (not_f hc42) rfl ?_
          refine G.yl (yl_pick_f rfl (not_f hc42) rfl) rfl rfl rfl ?_
          refine G.yl (yl_move rfl) rfl rfl rfl ?_
          refine G.offU rfl rfl rfl rfl ?_
          refine G.offU rfl rfl rfl rfl ?_
          refine G.yl (yl_pick_f rfl rfl rfl) rfl rfl rfl ?_
          refine G.yl (yl_move rfl) rfl rfl rfl ?_
          refine G.offU rfl rfl rfl rfl ?_
          refine G.offU rfl rfl rfl rfl ?_
          refine G.offU rfl rfl rfl rfl ?_
          refine G.yl (yl_pick_f rfl rfl rfl) rfl rfl rfl ?_
          refine G.yl (yl_assign rfl) rfl rfl rfl ?_
          refine G.nil ?_
          refine QA.then_normal ?_
          refine C.ret ?_
          refine QA.ret1 rfl rfl ?_
          obtain rfl := sp_ret1 hm
          exact ⟨rfl, (Sat.pick [] h38)⟩
        · refine G.on rfl rfl (not_t hc42) ?_
          refine G.yl (yl_loadN (vs := (bytesV (List.ofFn (n := 20) (fun _ => 0)) ++ ([(.int .u64 0), (.int .u64 5), (.int .u32 3), (.bool false), (.int .u16 0), (.int .u16 0), (.int .u16 80), (.string (str ([97] : List UInt8)))] : List Value))) ag47 sz47 (by simp [bytesV_length]) rfl ((Sat.pick [1] h38).isBlk.view0)) rfl rfl rfl ?_
          refine G.on rfl rfl (not_t hc42) ?_
          obtain ⟨r1_6, hy43, hm⟩ := sp_bind hm
          refine G.does (does_fn 0 rfl rfl rfl en38 h38 (fun U hU hp hr hs => M_inst_Left_w (i := (G_api_Instance.mk (fun _ => 0) 0 5 3 false 0 0 80 ([97] : List UInt8))) (now := 6) hp hy43)) rfl rfl rfl ?_
          rintro _ w44 ⟨U47, hb48, rfl, h46⟩
          have h45 : Sat W w44 [ow elU8 r18 r29 5 r3_2, blk b1 (bytesV (List.ofFn (n := 20) (fun _ => 0)) ++ ([(.int .u64 0), (.int .u64 5), (.int .u32 3), (.bool false), (.int .u16 0), (.int .u16 0), (.int .u16 80), (.string (str ([97] : List UInt8)))] : List Value)) 47] := hb48 h46
          refine G.on rfl rfl (not_t hc42) ?_
          refine G.yl (yl_eq32 (b := 2) rfl rfl) rfl rfl rfl ?_
          refine G.yl (yl_pick_t rfl (not_t hc42) rfl) rfl rfl rfl ?_
          refine G.yl (yl_move rfl) rfl rfl rfl ?_
          rcases sp_ite hm with ⟨hc49, hm⟩ | ⟨hc49, hm⟩
          · refine G.on rfl rfl (dec_t hc49) ?_
            refine G.yl (yl_move rfl) rfl rfl rfl ?_
            refine G.on rfl rfl (dec_t hc49) ?_
            refine G.yl (yl_eqI rfl rfl) rfl rfl rfl ?_
            refine G.yl (yl_pick_t rfl (dec_t hc49) rfl) rfl rfl rfl ?_
            refine G.yl (yl_move rfl) rfl rfl rfl ?_
            rcases sp_ite hm with ⟨hc50, hm⟩ | ⟨hc50, hm⟩
            · refine G.on rfl rfl (dec_t hc50) ?_
              refine G.yl (yl_move rfl) rfl rfl rfl ?_
              refine G.on rfl rfl (dec_t hc50) ?_
              refine G.yl (yl_lenE Try.underlying49 rfl) rfl rfl rfl ?_
              refine G.on rfl rfl (dec_t hc50) ?_
              refine G.yl (yl_eqI rfl rfl) rfl rfl rfl ?_
              refine G.yl (yl_pick_t rfl (dec_t hc50) rfl) rfl rfl rfl ?_
              refine G.yl (yl_assign rfl) rfl rfl rfl ?_
              refine G.nil ?_
              refine QA.then_normal ?_
              refine C.ret ?_
              refine QA.ret1 rfl rfl ?_
              obtain rfl := sp_ret1 hm
              exact ⟨rfl, (Sat.pick [] h45)⟩
            · refine G.offU rfl rfl (dec_f hc50) rfl ?_
              refine G.offU rfl rfl (dec_f hc50) rfl ?_
              refine G.offU rfl rfl (dec_f hc50) rfl ?_
              refine G.yl (yl_pick_f rfl (dec_f hc50) rfl) rfl rfl rfl ?_
              refine G.yl (yl_assign rfl) rfl rfl rfl ?_
              refine G.nil ?_
              refine QA.then_normal ?_
              refine C.ret ?_
              refine QA.ret1 rfl rfl ?_
              obtain rfl := sp_ret1 hm
              exact ⟨rfl, (Sat.pick [] h45)⟩
          · refine G.offU rfl rfl (dec_f hc49) rfl ?_
            refine G.offU rfl rfl (dec_f hc49) rfl ?_
            refine G.yl (yl_pick_f rfl (dec_f hc49) rfl) rfl rfl rfl ?_
            refine G.yl (yl_move rfl) rfl rfl rfl ?_
            refine G.offU rfl rfl rfl rfl ?_
            refine G.offU rfl rfl rfl rfl ?_
            refine G.offU rfl rfl rfl rfl ?_
            refine G.yl (yl_pick_f rfl rfl rfl) rfl rfl rfl ?_
            refine G.yl (yl_assign rfl) rfl rfl rfl ?_
            refine G.nil ?_
            refine QA.then_normal ?_
            refine C.ret ?_
            refine QA.ret1 rfl rfl ?_
            obtain rfl := sp_ret1 hm
            exact ⟨rfl, (Sat.pick [] h45)⟩
      · refine G.offU rfl rfl hc35 rfl ?_
        refine G.offU rfl rfl hc35 rfl ?_
        refine G.offU rfl rfl hc35 rfl ?_
        refine G.yl (yl_pick_f rfl hc35 rfl) rfl rfl rfl ?_
        refine G.yl (yl_move rfl) rfl rfl rfl ?_
        refine G.offU rfl rfl rfl rfl ?_
        refine G.offU rfl rfl rfl rfl ?_
        refine G.offU rfl rfl rfl rfl ?_
        refine G.yl (yl_pick_f rfl rfl rfl) rfl rfl rfl ?_
        refine G.yl (yl_move rfl) rfl rfl rfl ?_
        refine G.offU rfl rfl rfl rfl ?_
        refine G.offU rfl rfl rfl rfl ?_
        refine G.yl (yl_pick_f rfl rfl rfl) rfl rfl rfl ?_
        refine G.yl (yl_move rfl) rfl rfl rfl ?_
        refine G.offU rfl rfl rfl rfl ?_
        refine G.offU rfl rfl rfl rfl ?_
        refine G.offU rfl rfl rfl rfl ?_
        refine G.yl (yl_pick_f rfl rfl rfl) rfl rfl rfl ?_
        refine G.yl (yl_assign rfl) rfl rfl rfl ?_
        refine G.nil ?_
        refine QA.then_normal ?_
        refine C.ret ?_
        refine QA.ret1 rfl rfl ?_
        obtain rfl := sp_ret1 hm
        exact ⟨rfl, (Sat.pick [] h31)⟩
  · refine G.offU rfl rfl hc21 rfl ?_
    refine G.offU rfl rfl hc21 rfl ?_
    refine G.offU rfl rfl hc21 rfl ?_
    refine G.yl (yl_pick_f rfl hc21 rfl) rfl rfl rfl ?_
    refine G.yl (yl_move rfl) rfl rfl rfl ?_
    refine G.offU rfl rfl rfl rfl ?_
    refine G.offU rfl rfl rfl rfl ?_
    refine G.yl (yl_pick_f rfl rfl rfl) rfl rfl rfl ?_
    refine G.yl (yl_move rfl) rfl rfl rfl ?_
    refine G.offU rfl rfl rfl rfl ?_
    refine G.offU rfl rfl rfl rfl ?_
    refine G.offU rfl rfl rfl rfl ?_
    refine G.yl (yl_pick_f rfl rfl rfl) rfl rfl rfl ?_
    refine G.yl (yl_move rfl) rfl rfl rfl ?_
    refine G.offU rfl rfl rfl rfl ?_
    refine G.offU rfl rfl rfl rfl ?_
    refine G.offU rfl rfl rfl rfl ?_
    refine G.yl (yl_pick_f rfl rfl rfl) rfl rfl rfl ?_
    refine G.yl (yl_move rfl) rfl rfl rfl ?_
    refine G.offU rfl rfl rfl rfl ?_
    refine G.offU rfl rfl rfl rfl ?_
    refine G.yl (yl_pick_f rfl rfl rfl) rfl rfl rfl ?_
    refine G.yl (yl_move rfl) rfl rfl rfl ?_
    refine G.offU rfl rfl rfl rfl ?_
    refine G.offU rfl rfl rfl rfl ?_
    refine G.offU rfl rfl rfl rfl ?_
    refine G.yl (yl_pick_f rfl rfl rfl) rfl rfl rfl ?_
    refine G.yl (yl_assign rfl) rfl rfl rfl ?_
    refine G.nil ?_
    refine QA.then_normal ?_
    refine C.ret ?_
    refine QA.ret1 rfl rfl ?_
    obtain rfl := sp_ret1 hm
    exact ⟨rfl, (Sat.pick [] h17)⟩
set_option maxRecDepth 20000 in
set_option maxHeartbeats 1000000 in
theorem M_signpostref09_Parts_w {W : Base} {w : World} {s : List UInt8}  (h : Sat W w []) {r3 : List (List UInt8)} (hm : M_signpostref09_Parts s = some r3) :
    Calls Try.prog 136 #[(.string (str s))] w (Ret fun v w' => ∃ r1 : Option Addr, ∃ r2 : Nat, v = (.slice r1 r3.length r2) ∧ Sat W w' [ow elStr r1 r2 9 r3]) := by
  unfold M_signpostref09_Parts at hm
  refine C.enter (N := 32) Try.func136 rfl Try.ntmps136 rfl ?_
  show C _ _ _ [(0, (.string (str s)))] _ _
  refine C.seq ?_
  refine C.region ?_
  refine G.yl (yl_assign rfl) rfl rfl rfl ?_
  refine G.nil ?_
  refine QA.then_normal ?_
  refine C.seq ?_
  refine C.region ?_
  refine G.yl (yl_assign rfl) rfl rfl rfl ?_
  refine G.nil ?_
  refine QA.then_normal ?_
  refine C.seq ?_
  refine C.region ?_
  refine G.yl (yl_assign rfl) rfl rfl rfl ?_
  refine G.nil ?_
  refine QA.then_normal ?_
  refine C.seq ?_
  refine C.seq ?_
  refine C.region ?_
  refine G.yl (yl_assign rfl) rfl rfl rfl ?_
  refine G.nil ?_
  refine QA.then_normal ?_
  refine C.block ?_
  obtain ⟨o, ho1, hm2⟩ := sp_bind hm
  refine C.left (γ := Option Addr × Nat × List (List UInt8)) (.exit 0) (fun g => match g with | (a_2, c_2, out_2) => [(2, (.slice none 0 0)), (3, (.slice a_2 out_2.length c_2))]) (fun g ww => match g with | (a_2, c_2, out_2) => out_2 = o ∧ Sat W ww [ow elStr a_2 c_2 9 out_2]) ?_ ?_
  · refine C.loopO (γ := Option Addr × Nat × List (List UInt8) × Int × Int) (fun g => match g with | (a, c, out, from_, i) => [(0, (.string (str s))), (2, (.slice none 0 0)), (3, (.slice a out.length c)), (4, (vI from_)), (5, (vI i))]) (fun g ww => match g with | (a, c, out, from_, i) => Sat W ww [ow elStr a c 9 out]) (fun g => match g with | (a, c, out, from_, i) => (out, from_, i)) (none, 0, ([] : List (List UInt8)), 0, 0) ho1 (Sub.of ⟨rfl, rfl, rfl, rfl, rfl, trivial⟩) (Sat.pick [0] (Sat.own_zero h elStr none 9)) ?_
    rintro ⟨a, c, out, from_, i⟩ k5 w3 y_ h4 hm hg6
    show C _ _ _ [(0, (.string (str s))), (2, (.slice none 0 0)), (3, (.slice a out.length c)), (4, (vI from_)), (5, (vI i))] _ _
    change M_signpostref09_Parts_b1 s out from_ i = some y_ at hm
    unfold M_signpostref09_Parts_b1 at hm
    refine C.seq ?_
    refine C.seq ?_
    refine C.region ?_
    refine G.yl (yl_move rfl) rfl rfl rfl ?_
    refine G.yl (yl_move rfl) rfl rfl rfl ?_
    refine G.yl (yl_slenE Try.underlying9 rfl) rfl rfl rfl ?_
    refine G.yl (yl_leI rfl rfl) rfl rfl rfl ?_
    refine G.nil ?_
    refine QA.then_normal ?_
    rcases sp_ite hm with ⟨hc7, hm⟩ | ⟨hc7, hm⟩
    · refine C.cond_t rfl (dec_t hc7) ?_
      refine C.skip ?_
      refine QA.then_normal ?_
      refine C.seq ?_
      refine C.block ?_
      refine C.join (γ := Bool) (fun g => match g with | t21 => [(0, (.string (str s))), (2, (.slice none 0 0)), (3, (.slice a out.length c)), (4, (vI from_)), (5, (vI i)), (21, (.bool t21))]) (fun g ww => match g with | t21 => (M_signpostref09_Parts_k2 from_ i out s t21 = some y_) ∧ Sat W ww [ow elStr a c 9 out]) ?_ ?_
      · refine C.region ?_
        refine G.yl (yl_move rfl) rfl rfl rfl ?_
        refine G.yl (yl_move rfl) rfl rfl rfl ?_
        refine G.yl (yl_slenE Try.underlying9 rfl) rfl rfl rfl ?_
        refine G.yl (yl_eqI rfl rfl) rfl rfl rfl ?_
        refine G.yl (yl_move rfl) rfl rfl rfl ?_
        rcases sp_ite hm with ⟨hc8, hm⟩ | ⟨hc8, hm⟩
        · refine G.offU rfl rfl (dec_t hc8) rfl ?_
          refine G.offU rfl rfl (dec_t hc8) rfl ?_
          refine G.offU rfl rfl (dec_t hc8) rfl ?_
          refine G.offU rfl rfl (dec_t hc8) rfl ?_
          refine G.yl (yl_pick_t rfl (dec_t hc8) rfl) rfl rfl rfl ?_
          refine G.nil ?_
          exact QA.join true (Sub.of ⟨rfl, rfl, rfl, rfl, rfl, rfl, trivial⟩) ⟨hm, (Sat.pick [0] h4)⟩
        · refine G.on rfl rfl (dec_f hc8) ?_
          refine G.yl (yl_move rfl) rfl rfl rfl ?_
          refine G.on rfl rfl (dec_f hc8) ?_
          refine G.yl (yl_move rfl) rfl rfl rfl ?_
          refine G.on rfl rfl (dec_f hc8) ?_
          obtain ⟨c_3, hy9, hm⟩ := sp_bind hm
          refine G.yl (yl_ixS Try.underlying9 rfl rfl hy9) rfl rfl rfl ?_
          refine G.on rfl rfl (dec_f hc8) ?_
          refine G.yl (yl_eq8 (b := 46) rfl rfl) rfl rfl rfl ?_
          refine G.yl (yl_pick_f rfl (dec_f hc8) rfl) rfl rfl rfl ?_
          refine G.nil ?_
          exact QA.join (decide (c_3 = 46)) (Sub.of ⟨rfl, rfl, rfl, rfl, rfl, rfl, trivial⟩) ⟨hm, (Sat.pick [0] h4)⟩
      · rintro t21 w10 ⟨hm, h11⟩
        show C _ _ _ [(0, (.string (str s))), (2, (.slice none 0 0)), (3, (.slice a out.length c)), (4, (vI from_)), (5, (vI i)), (21, (.bool t21))] _ _
        unfold M_signpostref09_Parts_k2 at hm
        rcases sp_b hm with ⟨hc12, hm⟩ | ⟨hc12, hm⟩
        · refine C.cond_t rfl hc12 ?_
          refine C.seq ?_
          refine C.region ?_
          refine G.yl (yl_move rfl) rfl rfl rfl ?_
          refine G.yl (yl_move rfl) rfl rfl rfl ?_
          refine G.yl (yl_move rfl) rfl rfl rfl ?_
          refine G.yl (yl_move rfl) rfl rfl rfl ?_
          obtain ⟨hc13, hm⟩ := sp_chk hm
          refine G.yl (yl_slLHS Try.underlying9 rfl rfl rfl hc13) rfl rfl rfl ?_
          refine G.does (does_lit (E := elStr) (l := [(s.take i.toNat).drop from_.toNat]) (vs := [(.string (str ((s.take i.toNat).drop from_.toNat)))]) (cs := [(.string (str ((s.take i.toNat).drop from_.toNat)))]) (e := 9) h11 rfl (by kernel_rfl) rfl rfl (by decide)) rfl rfl rfl ?_
          rintro _ w15 ⟨a14, rfl, h16⟩
          obtain ⟨hc17, hm⟩ := sp_chk hm
          refine G.does (does_app (E := elStr) (l := out) (l2 := [(s.take i.toNat).drop from_.toNat]) Try.underlying106 el9 (Sat.pick [1, 0] h16) rfl rfl rfl rfl (by decide) (Sat.own_view h16) hc17 (by decide)) rfl rfl rfl ?_
          rintro _ w20 ⟨a18, c19, rfl, h21⟩
          refine G.yl (yl_assign rfl) rfl rfl rfl ?_
          refine G.nil ?_
          refine QA.then_normal ?_
          refine C.region ?_
          refine G.yl (yl_move rfl) rfl rfl rfl ?_
          obtain ⟨hc22, hm⟩ := sp_chk hm
          refine G.yl (yl_addI rfl rfl hc22) rfl rfl rfl ?_
          refine G.yl (yl_assign rfl) rfl rfl rfl ?_
          refine G.nil ?_
          refine QA.block_normal ?_
          refine QA.then_normal ?_
          refine C.region ?_
          refine G.yl (yl_move rfl) rfl rfl rfl ?_
          obtain ⟨hc23, hm⟩ := sp_chk hm
          refine G.yl (yl_addI rfl rfl hc23) rfl rfl rfl ?_
          refine G.yl (yl_assign rfl) rfl rfl rfl ?_
          refine G.nil ?_
          obtain rfl := sp_ret1 hm
          exact QA.againO (a18, c19, out ++ [(s.take i.toNat).drop from_.toNat], i + 1, i + 1) hg6 (Sub.of ⟨rfl, rfl, rfl, rfl, rfl, trivial⟩) (Sat.pick [0] h21)
        · refine C.cond_f rfl hc12 ?_
          refine C.skip ?_
          refine QA.block_normal ?_
          refine QA.then_normal ?_
          refine C.region ?_
          refine G.yl (yl_move rfl) rfl rfl rfl ?_
          obtain ⟨hc24, hm⟩ := sp_chk hm
          refine G.yl (yl_addI rfl rfl hc24) rfl rfl rfl ?_
          refine G.yl (yl_assign rfl) rfl rfl rfl ?_
          refine G.nil ?_
          obtain rfl := sp_ret1 hm
          exact QA.againO (a, c, out, from_, i + 1) hg6 (Sub.of ⟨rfl, rfl, rfl, rfl, rfl, trivial⟩) (Sat.pick [0] h11)
    · refine C.cond_f rfl (dec_f hc7) ?_
      refine C.exit ?_
      refine QA.then_exit ?_
      refine QA.then_exit ?_
      obtain rfl := sp_ret1 hm
      exact QA.left (a, c, out) (Sub.of ⟨rfl, rfl, trivial⟩) ⟨hg6, (Sat.pick [0] h4)⟩
  · rintro ⟨a_2, c_2, out_2⟩ w25 ⟨rfl, h26⟩
    have hm := hm2
    show QA _ _ [(2, (.slice none 0 0)), (3, (.slice a_2 out_2.length c_2))] _ _
    refine QA.block_here ?_
    refine QA.then_normal ?_
    refine C.seq ?_
    refine C.region ?_
    refine G.yl (yl_move rfl) rfl rfl rfl ?_
    refine G.yl (yl_assign rfl) rfl rfl rfl ?_
    refine G.nil ?_
    refine QA.then_normal ?_
    refine C.ret ?_
    refine QA.ret1 rfl rfl ?_
    obtain rfl := sp_ret1 hm
    exact ⟨a_2, c_2, rfl, (Sat.pick [0] h26)⟩
set_option maxRecDepth 20000 in
set_option maxHeartbeats 1000000 in
theorem M_signpostref09_letter_w {W : Base} {w : World} {b : UInt8}  (h : Sat W w []) {r1 : Bool} (hm : M_signpostref09_letter b = some r1) :
    Calls Try.prog 159 #[(v8 b)] w (Ret fun v w' => v = (.bool r1) ∧ Sat W w' []) := by
  unfold M_signpostref09_letter at hm
  refine C.enter (N := 17) Try.func159 rfl Try.ntmps159 rfl ?_
  show C _ _ _ [(0, (v8 b))] _ _
  refine C.seq ?_
  refine C.region ?_
  refine G.yl (yl_assign rfl) rfl rfl rfl ?_
  refine G.nil ?_
  refine QA.then_normal ?_
  refine C.seq ?_
  refine C.region ?_
  refine G.yl (yl_move rfl) rfl rfl rfl ?_
  refine G.yl (yl_ge8 (b := 97) rfl rfl) rfl rfl rfl ?_
  refine G.yl (yl_move rfl) rfl rfl rfl ?_
  rcases sp_ite hm with ⟨hc1, hm⟩ | ⟨hc1, hm⟩
  · refine G.on rfl rfl (dec_t hc1) ?_
    refine G.yl (yl_move rfl) rfl rfl rfl ?_
    refine G.on rfl rfl (dec_t hc1) ?_
    refine G.yl (yl_le8 (b := 122) rfl rfl) rfl rfl rfl ?_
    refine G.yl (yl_pick_t rfl (dec_t hc1) rfl) rfl rfl rfl ?_
    refine G.yl (yl_move rfl) rfl rfl rfl ?_
    rcases sp_ite hm with ⟨hc2, hm⟩ | ⟨hc2, hm⟩
    · refine G.offU rfl rfl (dec_t hc2) rfl ?_
      refine G.offU rfl rfl (dec_t hc2) rfl ?_
      refine G.offU rfl rfl (dec_t hc2) rfl ?_
      refine G.offUU rfl rfl rfl ?_
      refine G.offUU rfl rfl rfl ?_
      refine G.offU rfl rfl (dec_t hc2) rfl ?_
      refine G.yl (yl_pick_t rfl (dec_t hc2) rfl) rfl rfl rfl ?_
      refine G.yl (yl_assign rfl) rfl rfl rfl ?_
      refine G.nil ?_
      refine QA.then_normal ?_
      refine C.ret ?_
      refine QA.ret1 rfl rfl ?_
      obtain rfl := sp_ret1 hm
      exact ⟨rfl, (Sat.pick [] h)⟩
    · refine G.on rfl rfl (dec_f hc2) ?_
      refine G.yl (yl_move rfl) rfl rfl rfl ?_
      refine G.on rfl rfl (dec_f hc2) ?_
      refine G.yl (yl_ge8 (b := 65) rfl rfl) rfl rfl rfl ?_
      refine G.on rfl rfl (dec_f hc2) ?_
      refine G.yl (yl_move rfl) rfl rfl rfl ?_
      rcases sp_ite hm with ⟨hc3, hm⟩ | ⟨hc3, hm⟩
      · refine G.on rfl rfl (dec_t hc3) ?_
        refine G.yl (yl_move rfl) rfl rfl rfl ?_
        refine G.on rfl rfl (dec_t hc3) ?_
        refine G.yl (yl_le8 (b := 90) rfl rfl) rfl rfl rfl ?_
        refine G.on rfl rfl (dec_f hc2) ?_
        refine G.yl (yl_pick_t rfl (dec_t hc3) rfl) rfl rfl rfl ?_
        refine G.yl (yl_pick_f rfl (dec_f hc2) rfl) rfl rfl rfl ?_
        refine G.yl (yl_assign rfl) rfl rfl rfl ?_
        refine G.nil ?_
        refine QA.then_normal ?_
        refine C.ret ?_
        refine QA.ret1 rfl rfl ?_
        obtain rfl := sp_ret1 hm
        exact ⟨rfl, (Sat.pick [] h)⟩
      · refine G.offU rfl rfl (dec_f hc3) rfl ?_
        refine G.offU rfl rfl (dec_f hc3) rfl ?_
        refine G.on rfl rfl (dec_f hc2) ?_
        refine G.yl (yl_pick_f rfl (dec_f hc3) rfl) rfl rfl rfl ?_
        refine G.yl (yl_pick_f rfl (dec_f hc2) rfl) rfl rfl rfl ?_
        refine G.yl (yl_assign rfl) rfl rfl rfl ?_
        refine G.nil ?_
        refine QA.then_normal ?_
        refine C.ret ?_
        refine QA.ret1 rfl rfl ?_
        obtain rfl := sp_ret1 hm
        exact ⟨rfl, (Sat.pick [] h)⟩
  · refine G.offU rfl rfl (dec_f hc1) rfl ?_
    refine G.offU rfl rfl (dec_f hc1) rfl ?_
    refine G.yl (yl_pick_f rfl (dec_f hc1) rfl) rfl rfl rfl ?_
    refine G.yl (yl_move rfl) rfl rfl rfl ?_
    refine G.on rfl rfl rfl ?_
    refine G.yl (yl_move rfl) rfl rfl rfl ?_
    refine G.on rfl rfl rfl ?_
    refine G.yl (yl_ge8 (b := 65) rfl rfl) rfl rfl rfl ?_
    refine G.on rfl rfl rfl ?_
    refine G.yl (yl_move rfl) rfl rfl rfl ?_
    rcases sp_ite hm with ⟨hc4, hm⟩ | ⟨hc4, hm⟩
    · refine G.on rfl rfl (dec_t hc4) ?_
      refine G.yl (yl_move rfl) rfl rfl rfl ?_
      refine G.on rfl rfl (dec_t hc4) ?_
      refine G.yl (yl_le8 (b := 90) rfl rfl) rfl rfl rfl ?_
      refine G.on rfl rfl rfl ?_
      refine G.yl (yl_pick_t rfl (dec_t hc4) rfl) rfl rfl rfl ?_
      refine G.yl (yl_pick_f rfl rfl rfl) rfl rfl rfl ?_
      refine G.yl (yl_assign rfl) rfl rfl rfl ?_
      refine G.nil ?_
      refine QA.then_normal ?_
      refine C.ret ?_
      refine QA.ret1 rfl rfl ?_
      obtain rfl := sp_ret1 hm
      exact ⟨rfl, (Sat.pick [] h)⟩
    · refine G.offU rfl rfl (dec_f hc4) rfl ?_
      refine G.offU rfl rfl (dec_f hc4) rfl ?_
      refine G.on rfl rfl rfl ?_
      refine G.yl (yl_pick_f rfl (dec_f hc4) rfl) rfl rfl rfl ?_
      refine G.yl (yl_pick_f rfl rfl rfl) rfl rfl rfl ?_
      refine G.yl (yl_assign rfl) rfl rfl rfl ?_
      refine G.nil ?_
      refine QA.then_normal ?_
      refine C.ret ?_
      refine QA.ret1 rfl rfl ?_
      obtain rfl := sp_ret1 hm
      exact ⟨rfl, (Sat.pick [] h)⟩
set_option maxRecDepth 20000 in
set_option maxHeartbeats 1000000 in
theorem M_signpostref09_Part_w {W : Base} {w : World} {s : List UInt8}  (h : Sat W w []) {r1 : Bool} (hm : M_signpostref09_Part s = some r1) :
    Calls Try.prog 137 #[(.string (str s))] w (Ret fun v w' => v = (.bool r1) ∧ Sat W w' []) := by
  unfold M_signpostref09_Part at hm
  refine C.enter (N := 61) Try.func137 rfl Try.ntmps137 rfl ?_
  show C _ _ _ [(0, (.string (str s)))] _ _
  refine C.seq ?_
  refine C.region ?_
  refine G.yl (yl_assign rfl) rfl rfl rfl ?_
  refine G.nil ?_
  refine QA.then_normal ?_
  refine C.seq ?_
  refine C.seq ?_
  refine C.region ?_
  refine G.yl (yl_assign rfl) rfl rfl rfl ?_
  refine G.nil ?_
  refine QA.then_normal ?_
  refine C.block ?_
  obtain ⟨o, ho1, hm2⟩ := sp_bind hm
  refine C.left (γ := Unit) (.exit 0) (fun g => match g with | () => [(0, (.string (str s))), (2, (.bool false))]) (fun g ww => match g with | () => .inl () = o ∧ Sat W ww []) ?_ ?_
  · refine C.loopO (γ := Int) (fun g => match g with | i => [(0, (.string (str s))), (2, (.bool false)), (3, (vI i))]) (fun g ww => match g with | i => Sat W ww []) (fun g => match g with | i => i) 0 ho1 (Sub.of ⟨rfl, rfl, rfl, trivial⟩) (Sat.pick [] h) ?_
    rintro i k5 w3 y_ h4 hm hg6
    show C _ _ _ [(0, (.string (str s))), (2, (.bool false)), (3, (vI i))] _ _
    change M_signpostref09_Part_b1 s i = some y_ at hm
    unfold M_signpostref09_Part_b1 at hm
    refine C.seq ?_
    refine C.seq ?_
    refine C.region ?_
    refine G.yl (yl_move rfl) rfl rfl rfl ?_
    refine G.yl (yl_move rfl) rfl rfl rfl ?_
    refine G.yl (yl_slenE Try.underlying9 rfl) rfl rfl rfl ?_
    refine G.yl (yl_ltI rfl rfl) rfl rfl rfl ?_
    refine G.nil ?_
    refine QA.then_normal ?_
    rcases sp_ite hm with ⟨hc7, hm⟩ | ⟨hc7, hm⟩
    · refine C.cond_t rfl (dec_t hc7) ?_
      refine C.skip ?_
      refine QA.then_normal ?_
      refine C.join (γ := Unit) (fun g => match g with | () => [(0, (.string (str s))), (2, (.bool false)), (3, (vI i))]) (fun g ww => match g with | () => (M_signpostref09_Part_k2 i = some y_) ∧ Sat W ww []) ?_ ?_
      · refine C.block ?_
        refine C.join (γ := Bool) (fun g => match g with | t39 => [(0, (.string (str s))), (2, (.bool false)), (3, (vI i)), (39, (.bool t39))]) (fun g ww => match g with | t39 => (M_signpostref09_Part_k3 i t39 = some y_) ∧ Sat W ww []) ?_ ?_
        · refine C.region ?_
          refine G.yl (yl_move rfl) rfl rfl rfl ?_
          refine G.yl (yl_move rfl) rfl rfl rfl ?_
          obtain ⟨c, hy8, hm⟩ := sp_bind hm
          refine G.yl (yl_ixS Try.underlying9 rfl rfl hy8) rfl rfl rfl ?_
          obtain ⟨r1_2, hy9, hm⟩ := sp_bind hm
          refine G.does (does_fn 0 rfl rfl rfl en159 h4 (fun U hU hp hr hs => M_signpostref09_letter_w (b := c) hp hy9)) rfl rfl rfl ?_
          rintro _ w10 ⟨U13, hb14, rfl, h12⟩
          have h11 : Sat W w10 [] := hb14 h12
          refine G.yl (yl_not rfl) rfl rfl rfl ?_
          refine G.yl (yl_move rfl) rfl rfl rfl ?_
          rcases sp_b hm with ⟨hc15, hm⟩ | ⟨hc15, hm⟩
          · refine G.offU rfl rfl (not_f hc15) rfl ?_
            refine G.offU rfl rfl (not_f hc15) rfl ?_
            refine G.offU rfl rfl (not_f hc15) rfl ?_
            refine G.offU rfl rfl (not_f hc15) rfl ?_
            refine G.offU rfl rfl (not_f hc15) rfl ?_
            refine G.offUU rfl rfl rfl ?_
            refine G.offUU rfl rfl rfl ?_
            refine G.offUU rfl rfl rfl ?_
            refine G.offUU rfl rfl rfl ?_
            refine G.offU rfl rfl (not_f hc15) rfl ?_
            refine G.offU rfl rfl (not_f hc15) rfl ?_
            refine G.yl (yl_pick_f rfl (not_f hc15) rfl) rfl rfl rfl ?_
            refine G.yl (yl_move rfl) rfl rfl rfl ?_
            refine G.offU rfl rfl rfl rfl ?_
            refine G.offU rfl rfl rfl rfl ?_
            refine G.offU rfl rfl rfl rfl ?_
            refine G.offU rfl rfl rfl rfl ?_
            refine G.yl (yl_pick_f rfl rfl rfl) rfl rfl rfl ?_
            refine G.yl (yl_move rfl) rfl rfl rfl ?_
            refine G.offU rfl rfl rfl rfl ?_
            refine G.offU rfl rfl rfl rfl ?_
            refine G.offU rfl rfl rfl rfl ?_
            refine G.offU rfl rfl rfl rfl ?_
            refine G.yl (yl_pick_f rfl rfl rfl) rfl rfl rfl ?_
            refine G.nil ?_
            exact QA.join false (Sub.of ⟨rfl, rfl, rfl, rfl, trivial⟩) ⟨hm, (Sat.pick [] h11)⟩
          · refine G.on rfl rfl (not_t hc15) ?_
            refine G.yl (yl_move rfl) rfl rfl rfl ?_
            refine G.on rfl rfl (not_t hc15) ?_
            refine G.yl (yl_move rfl) rfl rfl rfl ?_
            refine G.on rfl rfl (not_t hc15) ?_
            obtain ⟨c_2, hy16, hm⟩ := sp_bind hm
            refine G.yl (yl_ixS Try.underlying9 rfl rfl hy16) rfl rfl rfl ?_
            refine G.on rfl rfl (not_t hc15) ?_
            refine G.yl (yl_ge8 (b := 48) rfl rfl) rfl rfl rfl ?_
            refine G.on rfl rfl (not_t hc15) ?_
            refine G.yl (yl_move rfl) rfl rfl rfl ?_
            rcases sp_ite hm with ⟨hc17, hm⟩ | ⟨hc17, hm⟩
            · refine G.on rfl rfl (dec_t hc17) ?_
              refine G.yl (yl_move rfl) rfl rfl rfl ?_
              refine G.on rfl rfl (dec_t hc17) ?_
              refine G.yl (yl_move rfl) rfl rfl rfl ?_
              refine G.on rfl rfl (dec_t hc17) ?_
              obtain ⟨c_3, hy18, hm⟩ := sp_bind hm
              refine G.yl (yl_ixS Try.underlying9 rfl rfl hy18) rfl rfl rfl ?_
              refine G.on rfl rfl (dec_t hc17) ?_
              refine G.yl (yl_le8 (b := 57) rfl rfl) rfl rfl rfl ?_
              refine G.on rfl rfl (not_t hc15) ?_
              refine G.yl (yl_pick_t rfl (dec_t hc17) rfl) rfl rfl rfl ?_
              refine G.on rfl rfl (not_t hc15) ?_
              refine G.yl (yl_not rfl) rfl rfl rfl ?_
              refine G.yl (yl_pick_t rfl (not_t hc15) rfl) rfl rfl rfl ?_
              refine G.yl (yl_move rfl) rfl rfl rfl ?_
              rcases sp_ite hm with ⟨hc19, hm⟩ | ⟨hc19, hm⟩
              · refine G.offU rfl rfl (not_f (dec_t hc19)) rfl ?_
                refine G.offU rfl rfl (not_f (dec_t hc19)) rfl ?_
                refine G.offU rfl rfl (not_f (dec_t hc19)) rfl ?_
                refine G.offU rfl rfl (not_f (dec_t hc19)) rfl ?_
                refine G.yl (yl_pick_f rfl (not_f (dec_t hc19)) rfl) rfl rfl rfl ?_
                refine G.yl (yl_move rfl) rfl rfl rfl ?_
                refine G.offU rfl rfl rfl rfl ?_
                refine G.offU rfl rfl rfl rfl ?_
                refine G.offU rfl rfl rfl rfl ?_
                refine G.offU rfl rfl rfl rfl ?_
                refine G.yl (yl_pick_f rfl rfl rfl) rfl rfl rfl ?_
                refine G.nil ?_
                exact QA.join false (Sub.of ⟨rfl, rfl, rfl, rfl, trivial⟩) ⟨hm, (Sat.pick [] h11)⟩
              · refine G.on rfl rfl (not_t (dec_f hc19)) ?_
                refine G.yl (yl_move rfl) rfl rfl rfl ?_
                refine G.on rfl rfl (not_t (dec_f hc19)) ?_
                refine G.yl (yl_move rfl) rfl rfl rfl ?_
                refine G.on rfl rfl (not_t (dec_f hc19)) ?_
                obtain ⟨c_4, hy20, hm⟩ := sp_bind hm
                refine G.yl (yl_ixS Try.underlying9 rfl rfl hy20) rfl rfl rfl ?_
                refine G.on rfl rfl (not_t (dec_f hc19)) ?_
                refine G.yl (yl_ne8 (b := 45) rfl rfl) rfl rfl rfl ?_
                refine G.yl (yl_pick_t rfl (not_t (dec_f hc19)) rfl) rfl rfl rfl ?_
                refine G.yl (yl_move rfl) rfl rfl rfl ?_
                rcases sp_ite hm with ⟨hc21, hm⟩ | ⟨hc21, hm⟩
                · refine G.offU rfl rfl (not_f (dec_t hc21)) rfl ?_
                  refine G.offU rfl rfl (not_f (dec_t hc21)) rfl ?_
                  refine G.offU rfl rfl (not_f (dec_t hc21)) rfl ?_
                  refine G.offU rfl rfl (not_f (dec_t hc21)) rfl ?_
                  refine G.yl (yl_pick_f rfl (not_f (dec_t hc21)) rfl) rfl rfl rfl ?_
                  refine G.nil ?_
                  exact QA.join false (Sub.of ⟨rfl, rfl, rfl, rfl, trivial⟩) ⟨hm, (Sat.pick [] h11)⟩
                · refine G.on rfl rfl (not_t (dec_f hc21)) ?_
                  refine G.yl (yl_move rfl) rfl rfl rfl ?_
                  refine G.on rfl rfl (not_t (dec_f hc21)) ?_
                  refine G.yl (yl_move rfl) rfl rfl rfl ?_
                  refine G.on rfl rfl (not_t (dec_f hc21)) ?_
                  obtain ⟨c_5, hy22, hm⟩ := sp_bind hm
                  refine G.yl (yl_ixS Try.underlying9 rfl rfl hy22) rfl rfl rfl ?_
                  refine G.on rfl rfl (not_t (dec_f hc21)) ?_
                  refine G.yl (yl_ne8 (b := 95) rfl rfl) rfl rfl rfl ?_
                  refine G.yl (yl_pick_t rfl (not_t (dec_f hc21)) rfl) rfl rfl rfl ?_
                  refine G.nil ?_
                  exact QA.join (!(decide (c_5 = 95))) (Sub.of ⟨rfl, rfl, rfl, rfl, trivial⟩) ⟨hm, (Sat.pick [] h11)⟩
            · refine G.offU rfl rfl (dec_f hc17) rfl ?_
              refine G.offU rfl rfl (dec_f hc17) rfl ?_
              refine G.offU rfl rfl (dec_f hc17) rfl ?_
              refine G.offU rfl rfl (dec_f hc17) rfl ?_
              refine G.on rfl rfl (not_t hc15) ?_
              refine G.yl (yl_pick_f rfl (dec_f hc17) rfl) rfl rfl rfl ?_
              refine G.on rfl rfl (not_t hc15) ?_
              refine G.yl (yl_not rfl) rfl rfl rfl ?_
              refine G.yl (yl_pick_t rfl (not_t hc15) rfl) rfl rfl rfl ?_
              refine G.yl (yl_move rfl) rfl rfl rfl ?_
              refine G.on rfl rfl (not_t rfl) ?_
              refine G.yl (yl_move rfl) rfl rfl rfl ?_
              refine G.on rfl rfl (not_t rfl) ?_
              refine G.yl (yl_move rfl) rfl rfl rfl ?_
              refine G.on rfl rfl (not_t rfl) ?_
              obtain ⟨c_6, hy23, hm⟩ := sp_bind hm
              refine G.yl (yl_ixS Try.underlying9 rfl rfl hy23) rfl rfl rfl ?_
              refine G.on rfl rfl (not_t rfl) ?_
              refine G.yl (yl_ne8 (b := 45) rfl rfl) rfl rfl rfl ?_
              refine G.yl (yl_pick_t rfl (not_t rfl) rfl) rfl rfl rfl ?_
              refine G.yl (yl_move rfl) rfl rfl rfl ?_
              rcases sp_ite hm with ⟨hc24, hm⟩ | ⟨hc24, hm⟩
              · refine G.offU rfl rfl (not_f (dec_t hc24)) rfl ?_
                refine G.offU rfl rfl (not_f (dec_t hc24)) rfl ?_
                refine G.offU rfl rfl (not_f (dec_t hc24)) rfl ?_
                refine G.offU rfl rfl (not_f (dec_t hc24)) rfl ?_
                refine G.yl (yl_pick_f rfl (not_f (dec_t hc24)) rfl) rfl rfl rfl ?_
                refine G.nil ?_
                exact QA.join false (Sub.of ⟨rfl, rfl, rfl, rfl, trivial⟩) ⟨hm, (Sat.pick [] h11)⟩
              · refine G.on rfl rfl (not_t (dec_f hc24)) ?_
                refine G.yl (yl_move rfl) rfl rfl rfl ?_
                refine G.on rfl rfl (not_t (dec_f hc24)) ?_
                refine G.yl (yl_move rfl) rfl rfl rfl ?_
                refine G.on rfl rfl (not_t (dec_f hc24)) ?_
                obtain ⟨c_7, hy25, hm⟩ := sp_bind hm
                refine G.yl (yl_ixS Try.underlying9 rfl rfl hy25) rfl rfl rfl ?_
                refine G.on rfl rfl (not_t (dec_f hc24)) ?_
                refine G.yl (yl_ne8 (b := 95) rfl rfl) rfl rfl rfl ?_
                refine G.yl (yl_pick_t rfl (not_t (dec_f hc24)) rfl) rfl rfl rfl ?_
                refine G.nil ?_
                exact QA.join (!(decide (c_7 = 95))) (Sub.of ⟨rfl, rfl, rfl, rfl, trivial⟩) ⟨hm, (Sat.pick [] h11)⟩
        · rintro t39 w26 ⟨hm, h27⟩
          show C _ _ _ [(0, (.string (str s))), (2, (.bool false)), (3, (vI i)), (39, (.bool t39))] _ _
          unfold M_signpostref09_Part_k3 at hm
          rcases sp_b hm with ⟨hc28, hm⟩ | ⟨hc28, hm⟩
          · refine C.cond_t rfl hc28 ?_
            refine C.seq ?_
            refine C.region ?_
            refine G.yl (yl_assign rfl) rfl rfl rfl ?_
            refine G.nil ?_
            refine QA.then_normal ?_
            refine C.ret ?_
            refine QA.block_ret ?_
            refine QA.then_ret ?_
            refine QA.then_ret ?_
            refine QA.past (by simp) ?_
            refine QA.block_ret ?_
            refine QA.then_ret ?_
            refine QA.ret1 rfl rfl ?_
            obtain rfl := sp_ret1 hm
            obtain rfl : .inr false = o := hg6
            have hm : some false = some r1 := hm2
            obtain rfl := sp_ret1 hm
            exact ⟨rfl, (Sat.pick [] h27)⟩
          · refine C.cond_f rfl hc28 ?_
            refine C.skip ?_
            refine QA.block_normal ?_
            exact QA.join () (Sub.of ⟨rfl, rfl, rfl, trivial⟩) ⟨hm, (Sat.pick [] h27)⟩
      · rintro _ w29 ⟨hm, h30⟩
        show C _ _ _ [(0, (.string (str s))), (2, (.bool false)), (3, (vI i))] _ _
        unfold M_signpostref09_Part_k2 at hm
        refine C.region ?_
        refine G.yl (yl_move rfl) rfl rfl rfl ?_
        obtain ⟨hc31, hm⟩ := sp_chk hm
        refine G.yl (yl_addI rfl rfl hc31) rfl rfl rfl ?_
        refine G.yl (yl_assign rfl) rfl rfl rfl ?_
        refine G.nil ?_
        obtain rfl := sp_ret1 hm
        exact QA.againO (i + 1) hg6 (Sub.of ⟨rfl, rfl, rfl, trivial⟩) (Sat.pick [] h30)
    · refine C.cond_f rfl (dec_f hc7) ?_
      refine C.exit ?_
      refine QA.then_exit ?_
      refine QA.then_exit ?_
      obtain rfl := sp_ret1 hm
      exact QA.left () (Sub.of ⟨rfl, rfl, trivial⟩) ⟨hg6, (Sat.pick [] h4)⟩
  · rintro _ w32 ⟨rfl, h33⟩
    have hm := hm2
    show QA _ _ [(0, (.string (str s))), (2, (.bool false))] _ _
    refine QA.block_here ?_
    refine QA.then_normal ?_
    refine C.seq ?_
    refine C.region ?_
    refine G.yl (yl_move rfl) rfl rfl rfl ?_
    refine G.yl (yl_slenE Try.underlying9 rfl) rfl rfl rfl ?_
    refine G.yl (yl_geI rfl rfl) rfl rfl rfl ?_
    refine G.yl (yl_move rfl) rfl rfl rfl ?_
    rcases sp_ite hm with ⟨hc34, hm⟩ | ⟨hc34, hm⟩
    · refine G.on rfl rfl (dec_t hc34) ?_
      refine G.yl (yl_move rfl) rfl rfl rfl ?_
      refine G.on rfl rfl (dec_t hc34) ?_
      refine G.yl (yl_slenE Try.underlying9 rfl) rfl rfl rfl ?_
      refine G.on rfl rfl (dec_t hc34) ?_
      refine G.yl (yl_leI rfl rfl) rfl rfl rfl ?_
      refine G.yl (yl_pick_t rfl (dec_t hc34) rfl) rfl rfl rfl ?_
      refine G.yl (yl_move rfl) rfl rfl rfl ?_
      rcases sp_ite hm with ⟨hc35, hm⟩ | ⟨hc35, hm⟩
      · refine G.on rfl rfl (dec_t hc35) ?_
        refine G.yl (yl_move rfl) rfl rfl rfl ?_
        refine G.on rfl rfl (dec_t hc35) ?_
        obtain ⟨c_8, hy36, hm⟩ := sp_bind hm
        refine G.yl (yl_ixS Try.underlying9 rfl rfl hy36) rfl rfl rfl ?_
        refine G.on rfl rfl (dec_t hc35) ?_
        refine G.yl (yl_ne8 (b := 45) rfl rfl) rfl rfl rfl ?_
        refine G.yl (yl_pick_t rfl (dec_t hc35) rfl) rfl rfl rfl ?_
        refine G.yl (yl_move rfl) rfl rfl rfl ?_
        rcases sp_ite hm with ⟨hc37, hm⟩ | ⟨hc37, hm⟩
        · refine G.offU rfl rfl (not_f (dec_t hc37)) rfl ?_
          refine G.offU rfl rfl (not_f (dec_t hc37)) rfl ?_
          refine G.offU rfl rfl (not_f (dec_t hc37)) rfl ?_
          refine G.offU rfl rfl (not_f (dec_t hc37)) rfl ?_
          refine G.offU rfl rfl (not_f (dec_t hc37)) rfl ?_
          refine G.offU rfl rfl (not_f (dec_t hc37)) rfl ?_
          refine G.yl (yl_pick_f rfl (not_f (dec_t hc37)) rfl) rfl rfl rfl ?_
          refine G.yl (yl_assign rfl) rfl rfl rfl ?_
          refine G.nil ?_
          refine QA.then_normal ?_
          refine C.ret ?_
          refine QA.ret1 rfl rfl ?_
          obtain rfl := sp_ret1 hm
          exact ⟨rfl, (Sat.pick [] h33)⟩
        · refine G.on rfl rfl (not_t (dec_f hc37)) ?_
          refine G.yl (yl_move rfl) rfl rfl rfl ?_
          refine G.on rfl rfl (not_t (dec_f hc37)) ?_
          refine G.yl (yl_move rfl) rfl rfl rfl ?_
          refine G.on rfl rfl (not_t (dec_f hc37)) ?_
          refine G.yl (yl_slenE Try.underlying9 rfl) rfl rfl rfl ?_
          refine G.on rfl rfl (not_t (dec_f hc37)) ?_
          obtain ⟨hc38, hm⟩ := sp_chk hm
          refine G.yl (yl_subI rfl rfl hc38) rfl rfl rfl ?_
          refine G.on rfl rfl (not_t (dec_f hc37)) ?_
          obtain ⟨c_9, hy39, hm⟩ := sp_bind hm
          refine G.yl (yl_ixS Try.underlying9 rfl rfl hy39) rfl rfl rfl ?_
          refine G.on rfl rfl (not_t (dec_f hc37)) ?_
          refine G.yl (yl_ne8 (b := 45) rfl rfl) rfl rfl rfl ?_
          refine G.yl (yl_pick_t rfl (not_t (dec_f hc37)) rfl) rfl rfl rfl ?_
          refine G.yl (yl_assign rfl) rfl rfl rfl ?_
          refine G.nil ?_
          refine QA.then_normal ?_
          refine C.ret ?_
          refine QA.ret1 rfl rfl ?_
          obtain rfl := sp_ret1 hm
          exact ⟨rfl, (Sat.pick [] h33)⟩
      · refine G.offU rfl rfl (dec_f hc35) rfl ?_
        refine G.offU rfl rfl (dec_f hc35) rfl ?_
        refine G.offU rfl rfl (dec_f hc35) rfl ?_
        refine G.yl (yl_pick_f rfl (dec_f hc35) rfl) rfl rfl rfl ?_
        refine G.yl (yl_move rfl) rfl rfl rfl ?_
        refine G.offU rfl rfl rfl rfl ?_
        refine G.offU rfl rfl rfl rfl ?_
        refine G.offU rfl rfl rfl rfl ?_
        refine G.offU rfl rfl rfl rfl ?_
        refine G.offU rfl rfl rfl rfl ?_
        refine G.offU rfl rfl rfl rfl ?_
        refine G.yl (yl_pick_f rfl rfl rfl) rfl rfl rfl ?_
        refine G.yl (yl_assign rfl) rfl rfl rfl ?_
        refine G.nil ?_
        refine QA.then_normal ?_
        refine C.ret ?_
        refine QA.ret1 rfl rfl ?_
        obtain rfl := sp_ret1 hm
        exact ⟨rfl, (Sat.pick [] h33)⟩
    · refine G.offU rfl rfl (dec_f hc34) rfl ?_
      refine G.offU rfl rfl (dec_f hc34) rfl ?_
      refine G.offU rfl rfl (dec_f hc34) rfl ?_
      refine G.yl (yl_pick_f rfl (dec_f hc34) rfl) rfl rfl rfl ?_
      refine G.yl (yl_move rfl) rfl rfl rfl ?_
      refine G.offU rfl rfl rfl rfl ?_
      refine G.offU rfl rfl rfl rfl ?_
      refine G.offU rfl rfl rfl rfl ?_
      refine G.yl (yl_pick_f rfl rfl rfl) rfl rfl rfl ?_
      refine G.yl (yl_move rfl) rfl rfl rfl ?_
      refine G.offU rfl rfl rfl rfl ?_
      refine G.offU rfl rfl rfl rfl ?_
      refine G.offU rfl rfl rfl rfl ?_
      refine G.offU rfl rfl rfl rfl ?_
      refine G.offU rfl rfl rfl rfl ?_
      refine G.offU rfl rfl rfl rfl ?_
      refine G.yl (yl_pick_f rfl rfl rfl) rfl rfl rfl ?_
      refine G.yl (yl_assign rfl) rfl rfl rfl ?_
      refine G.nil ?_
      refine QA.then_normal ?_
      refine C.ret ?_
      refine QA.ret1 rfl rfl ?_
      obtain rfl := sp_ret1 hm
      exact ⟨rfl, (Sat.pick [] h33)⟩
set_option maxRecDepth 20000 in
set_option maxHeartbeats 1000000 in
theorem M_signpostref09_Good_w {W : Base} {w : World} {s : List UInt8}  (h : Sat W w []) {r1 : Bool} (hm : M_signpostref09_Good s = some r1) :
    Calls Try.prog 94 #[(.string (str s))] w (Ret fun v w' => v = (.bool r1) ∧ Sat W w' []) := by
  unfold M_signpostref09_Good at hm
  refine C.enter (N := 23) Try.func94 rfl Try.ntmps94 rfl ?_
  show C _ _ _ [(0, (.string (str s)))] _ _
  refine C.seq ?_
  refine C.region ?_
  refine G.yl (yl_assign rfl) rfl rfl rfl ?_
  refine G.nil ?_
  refine QA.then_normal ?_
  refine C.seq ?_
  refine C.region ?_
  refine G.yl (yl_move rfl) rfl rfl rfl ?_
  obtain ⟨r3_2, hy1, hm⟩ := sp_bind hm
  refine G.does (does_fn 0 rfl rfl rfl en136 h (fun U hU hp hr hs => M_signpostref09_Parts_w (s := s) hp hy1)) rfl rfl rfl ?_
  rintro _ w4 ⟨U7, hb8, r12, r23, rfl, h6⟩
  have h5 : Sat W w4 [ow elStr r12 r23 9 r3_2] := hb8 h6
  refine G.yl (yl_assign rfl) rfl rfl rfl ?_
  refine G.nil ?_
  refine QA.then_normal ?_
  refine C.seq ?_
  refine C.seq ?_
  refine C.region ?_
  refine G.yl (yl_assign rfl) rfl rfl rfl ?_
  refine G.nil ?_
  refine QA.then_normal ?_
  refine C.block ?_
  obtain ⟨o, ho9, hm10⟩ := sp_bind hm
  refine C.left (γ := Unit) (.exit 0) (fun g => match g with | () => [(0, (.string (str s))), (2, (.bool false))]) (fun g ww => match g with | () => .inl () = o ∧ Sat W ww []) ?_ ?_
  · refine C.loopO (γ := Int) (fun g => match g with | i => [(0, (.string (str s))), (2, (.bool false)), (3, (.slice r12 r3_2.length r23)), (4, (vI i))]) (fun g ww => match g with | i => Sat W ww [ow elStr r12 r23 9 r3_2]) (fun g => match g with | i => i) 0 ho9 (Sub.of ⟨rfl, rfl, rfl, rfl, trivial⟩) (Sat.pick [0] h5) ?_
    rintro i k13 w11 y_ h12 hm hg14
    show C _ _ _ [(0, (.string (str s))), (2, (.bool false)), (3, (.slice r12 r3_2.length r23)), (4, (vI i))] _ _
    change M_signpostref09_Good_b1 r3_2 i = some y_ at hm
    unfold M_signpostref09_Good_b1 at hm
    refine C.seq ?_
    refine C.seq ?_
    refine C.region ?_
    refine G.yl (yl_move rfl) rfl rfl rfl ?_
    refine G.yl (yl_move rfl) rfl rfl rfl ?_
    refine G.yl (yl_lenE Try.underlying106 rfl) rfl rfl rfl ?_
    refine G.yl (yl_ltI rfl rfl) rfl rfl rfl ?_
    refine G.nil ?_
    refine QA.then_normal ?_
    rcases sp_ite hm with ⟨hc15, hm⟩ | ⟨hc15, hm⟩
    · refine C.cond_t rfl (dec_t hc15) ?_
      refine C.skip ?_
      refine QA.then_normal ?_
      refine C.seq ?_
      refine C.block ?_
      refine C.seq ?_
      refine C.region ?_
      refine G.yl (yl_move rfl) rfl rfl rfl ?_
      refine G.yl (yl_move rfl) rfl rfl rfl ?_
      obtain ⟨x, hy16, hm⟩ := sp_bind hm
      refine G.yl (yl_ixP (l := r3_2) sl106 rfl rfl (View.isA (E := elStr) (Sat.own_view h12) (by decide) (at?_lt hy16)) rfl (at?_lt hy16)) rfl rfl rfl ?_
      refine G.yl (yl_ld1 (E := elStr) (v := (.string (str x))) ag9 rfl (Sat.own_view h12) (at?_some hy16).2 rfl) rfl rfl rfl ?_
      obtain ⟨r1_2, hy17, hm⟩ := sp_bind hm
      refine G.does (does_fn 0 rfl rfl rfl en137 h12 (fun U hU hp hr hs => M_signpostref09_Part_w (s := x) hp hy17)) rfl rfl rfl ?_
      rintro _ w18 ⟨U21, hb22, rfl, h20⟩
      have h19 : Sat W w18 [ow elStr r12 r23 9 r3_2] := hb22 h20
      refine G.yl (yl_not rfl) rfl rfl rfl ?_
      refine G.nil ?_
      refine QA.then_normal ?_
      rcases sp_b hm with ⟨hc23, hm⟩ | ⟨hc23, hm⟩
      · refine C.cond_f rfl (not_f hc23) ?_
        refine C.skip ?_
        refine QA.block_normal ?_
        refine QA.then_normal ?_
        refine C.region ?_
        refine G.yl (yl_move rfl) rfl rfl rfl ?_
        obtain ⟨hc24, hm⟩ := sp_chk hm
        refine G.yl (yl_addI rfl rfl hc24) rfl rfl rfl ?_
        refine G.yl (yl_assign rfl) rfl rfl rfl ?_
        refine G.nil ?_
        obtain rfl := sp_ret1 hm
        exact QA.againO (i + 1) hg14 (Sub.of ⟨rfl, rfl, rfl, rfl, trivial⟩) (Sat.pick [0] h19)
      · refine C.cond_t rfl (not_t hc23) ?_
        refine C.seq ?_
        refine C.region ?_
        refine G.yl (yl_assign rfl) rfl rfl rfl ?_
        refine G.nil ?_
        refine QA.then_normal ?_
        refine C.ret ?_
        refine QA.block_ret ?_
        refine QA.then_ret ?_
        refine QA.then_ret ?_
        refine QA.past (by simp) ?_
        refine QA.block_ret ?_
        refine QA.then_ret ?_
        refine QA.ret1 rfl rfl ?_
        obtain rfl := sp_ret1 hm
        obtain rfl : .inr false = o := hg14
        have hm : some false = some r1 := hm10
        obtain rfl := sp_ret1 hm
        exact ⟨rfl, (Sat.pick [] h19)⟩
    · refine C.cond_f rfl (dec_f hc15) ?_
      refine C.exit ?_
      refine QA.then_exit ?_
      refine QA.then_exit ?_
      obtain rfl := sp_ret1 hm
      exact QA.left () (Sub.of ⟨rfl, rfl, trivial⟩) ⟨hg14, (Sat.pick [] h12)⟩
  · rintro _ w25 ⟨rfl, h26⟩
    have hm := hm10
    show QA _ _ [(0, (.string (str s))), (2, (.bool false))] _ _
    refine QA.block_here ?_
    refine QA.then_normal ?_
    refine C.seq ?_
    refine C.region ?_
    refine G.yl (yl_move rfl) rfl rfl rfl ?_
    refine G.yl (yl_slenE Try.underlying9 rfl) rfl rfl rfl ?_
    obtain ⟨hc27, hm⟩ := sp_chk hm
    refine G.yl (yl_addI rfl rfl hc27) rfl rfl rfl ?_
    refine G.yl (yl_leI rfl rfl) rfl rfl rfl ?_
    refine G.yl (yl_assign rfl) rfl rfl rfl ?_
    refine G.nil ?_
    refine QA.then_normal ?_
    refine C.ret ?_
    refine QA.ret1 rfl rfl ?_
    obtain rfl := sp_ret1 hm
    exact ⟨rfl, (Sat.pick [] h26)⟩
set_option maxRecDepth 20000 in
set_option maxHeartbeats 1000000 in
theorem M_signpostref09_Fold_w {W : Base} {w : World} {s : List UInt8}  (h : Sat W w []) {r1 : List UInt8} (hm : M_signpostref09_Fold s = some r1) :
    Calls Try.prog 95 #[(.string (str s))] w (Ret fun v w' => v = (.string (str r1)) ∧ Sat W w' []) := by
  unfold M_signpostref09_Fold at hm
  refine C.enter (N := 36) Try.func95 rfl Try.ntmps95 rfl ?_
  show C _ _ _ [(0, (.string (str s)))] _ _
  refine C.seq ?_
  refine C.region ?_
  refine G.yl (yl_assign rfl) rfl rfl rfl ?_
  refine G.nil ?_
  refine QA.then_normal ?_
  refine C.seq ?_
  refine C.region ?_
  refine G.yl (yl_move rfl) rfl rfl rfl ?_
  obtain ⟨hc1, hm⟩ := sp_chk hm
  refine G.does (does_bytes h Try.underlying9 Try.underlying49 Try.underlying5 el5 rfl hc1) rfl rfl rfl ?_
  rintro _ w4 ⟨a2, c3, rfl, h5⟩
  refine G.yl (yl_assign rfl) rfl rfl rfl ?_
  refine G.nil ?_
  refine QA.then_normal ?_
  refine C.seq ?_
  refine C.seq ?_
  refine C.region ?_
  refine G.yl (yl_assign rfl) rfl rfl rfl ?_
  refine G.nil ?_
  refine QA.then_normal ?_
  refine C.block ?_
  obtain ⟨o, ho8, hm9⟩ := sp_bind hm
  refine C.left (γ := List UInt8) (.exit 0) (fun g => match g with | b_2 => [(2, (.string (str ([] : List UInt8)))), (3, (.slice a2 s.length c3))]) (fun g ww => match g with | b_2 => b_2 = o ∧ (b_2.length = s.length) ∧ Sat W ww [ow elU8 a2 c3 5 b_2]) ?_ ?_
  · refine C.loopO (γ := List UInt8 × Int) (fun g => match g with | (b, i) => [(2, (.string (str ([] : List UInt8)))), (3, (.slice a2 s.length c3)), (4, (vI i))]) (fun g ww => match g with | (b, i) => (b.length = s.length) ∧ Sat W ww [ow elU8 a2 c3 5 b]) (fun g => match g with | (b, i) => (b, i)) (s, 0) ho8 (Sub.of ⟨rfl, rfl, rfl, trivial⟩) ⟨(by simp [copyL_length]), (Sat.pick [0] h5)⟩ ?_
    rintro ⟨b, i⟩ k12 w10 y_ ⟨hl6, h11⟩ hm hg13
    show C _ _ _ [(2, (.string (str ([] : List UInt8)))), (3, (.slice a2 s.length c3)), (4, (vI i))] _ _
    change M_signpostref09_Fold_b1 s b i = some y_ at hm
    unfold M_signpostref09_Fold_b1 at hm
    refine C.seq ?_
    refine C.seq ?_
    refine C.region ?_
    refine G.yl (yl_move rfl) rfl rfl rfl ?_
    refine G.yl (yl_move rfl) rfl rfl rfl ?_
    refine G.yl (yl_lenE Try.underlying49 rfl) rfl rfl rfl ?_
    refine G.yl (yl_ltI rfl rfl) rfl rfl rfl ?_
    refine G.nil ?_
    refine QA.then_normal ?_
    rcases sp_ite hm with ⟨hc14, hm⟩ | ⟨hc14, hm⟩
    · refine C.cond_t rfl (dec_t hc14) ?_
      refine C.skip ?_
      refine QA.then_normal ?_
      refine C.seq ?_
      refine C.block ?_
      refine C.join (γ := Bool) (fun g => match g with | t24 => [(2, (.string (str ([] : List UInt8)))), (3, (.slice a2 s.length c3)), (4, (vI i)), (24, (.bool t24))]) (fun g ww => match g with | t24 => (M_signpostref09_Fold_k2 b i t24 = some y_) ∧ Sat W ww [ow elU8 a2 c3 5 b]) ?_ ?_
      · refine C.region ?_
        refine G.yl (yl_move rfl) rfl rfl rfl ?_
        refine G.yl (yl_move rfl) rfl rfl rfl ?_
        obtain ⟨x, hy15, hm⟩ := sp_bind hm
        refine G.yl (yl_ixP (l := b) sl49 rfl rfl (View.isA (E := elU8) (Sat.own_view h11) (by decide) (at?_lt hy15)) (by simp [copyL_length, hl6]) (at?_lt hy15)) rfl rfl rfl ?_
        refine G.yl (yl_ld1 (E := elU8) (v := (v8 x)) ag5 rfl (Sat.own_view h11) (at?_some hy15).2 rfl) rfl rfl rfl ?_
        refine G.yl (yl_ge8 (b := 65) rfl rfl) rfl rfl rfl ?_
        refine G.yl (yl_move rfl) rfl rfl rfl ?_
        rcases sp_ite hm with ⟨hc16, hm⟩ | ⟨hc16, hm⟩
        · refine G.on rfl rfl (dec_t hc16) ?_
          refine G.yl (yl_move rfl) rfl rfl rfl ?_
          refine G.on rfl rfl (dec_t hc16) ?_
          refine G.yl (yl_move rfl) rfl rfl rfl ?_
          refine G.on rfl rfl (dec_t hc16) ?_
          refine G.yl (yl_ixP (l := b) sl49 rfl rfl (View.isA (E := elU8) (Sat.own_view h11) (by decide) (at?_lt hy15)) (by simp [copyL_length, hl6]) (at?_lt hy15)) rfl rfl rfl ?_
          refine G.on rfl rfl (dec_t hc16) ?_
          refine G.yl (yl_ld1 (E := elU8) (v := (v8 x)) ag5 rfl (Sat.own_view h11) (at?_some hy15).2 rfl) rfl rfl rfl ?_
          refine G.on rfl rfl (dec_t hc16) ?_
          refine G.yl (yl_le8 (b := 90) rfl rfl) rfl rfl rfl ?_
          refine G.yl (yl_pick_t rfl (dec_t hc16) rfl) rfl rfl rfl ?_
          refine G.nil ?_
          exact QA.join (decide (x ≤ 90)) (Sub.of ⟨rfl, rfl, rfl, rfl, trivial⟩) ⟨hm, (Sat.pick [0] h11)⟩
        · refine G.offU rfl rfl (dec_f hc16) rfl ?_
          refine G.offU rfl rfl (dec_f hc16) rfl ?_
          refine G.offU rfl rfl (dec_f hc16) rfl ?_
          refine G.offU rfl rfl (dec_f hc16) rfl ?_
          refine G.offU rfl rfl (dec_f hc16) rfl ?_
          refine G.yl (yl_pick_f rfl (dec_f hc16) rfl) rfl rfl rfl ?_
          refine G.nil ?_
          exact QA.join false (Sub.of ⟨rfl, rfl, rfl, rfl, trivial⟩) ⟨hm, (Sat.pick [0] h11)⟩
      · rintro t24 w17 ⟨hm, h18⟩
        show C _ _ _ [(2, (.string (str ([] : List UInt8)))), (3, (.slice a2 s.length c3)), (4, (vI i)), (24, (.bool t24))] _ _
        unfold M_signpostref09_Fold_k2 at hm
        rcases sp_b hm with ⟨hc19, hm⟩ | ⟨hc19, hm⟩
        · refine C.cond_t rfl hc19 ?_
          refine C.region ?_
          refine G.yl (yl_move rfl) rfl rfl rfl ?_
          refine G.yl (yl_move rfl) rfl rfl rfl ?_
          refine G.yl (yl_move rfl) rfl rfl rfl ?_
          refine G.yl (yl_move rfl) rfl rfl rfl ?_
          obtain ⟨x_2, hy20, hm⟩ := sp_bind hm
          refine G.yl (yl_ixP (l := b) sl49 rfl rfl (View.isA (E := elU8) (Sat.own_view h18) (by decide) (at?_lt hy20)) (by simp [copyL_length, hl6]) (at?_lt hy20)) rfl rfl rfl ?_
          refine G.yl (yl_ld1 (E := elU8) (v := (v8 x_2)) ag5 rfl (Sat.own_view h18) (at?_some hy20).2 rfl) rfl rfl rfl ?_
          refine G.yl (yl_add8 (b := 97) rfl rfl) rfl rfl rfl ?_
          refine G.yl (yl_sub8 (b := 65) rfl rfl) rfl rfl rfl ?_
          refine G.yl (yl_ixP (l := b) sl49 rfl rfl (View.isA (E := elU8) (Sat.own_view h18) (by decide) (at?_lt hy20)) (by simp [copyL_length, hl6]) (at?_lt hy20)) rfl rfl rfl ?_
          refine G.unit (does_stE (E := elU8) (r := (x_2 + 97) - 65) h18 sz5 rfl rfl (by decide) rfl (List.getElem?_eq_some_iff.1 (at?_some hy20).2).1) rfl rfl ?_
          rintro _ w21 h22
          refine G.nil ?_
          refine QA.block_normal ?_
          refine QA.then_normal ?_
          refine C.region ?_
          refine G.yl (yl_move rfl) rfl rfl rfl ?_
          obtain ⟨hc23, hm⟩ := sp_chk hm
          refine G.yl (yl_addI rfl rfl hc23) rfl rfl rfl ?_
          refine G.yl (yl_assign rfl) rfl rfl rfl ?_
          refine G.nil ?_
          obtain rfl := sp_ret1 hm
          exact QA.againO (b.set i.toNat ((x_2 + 97) - 65), i + 1) hg13 (Sub.of ⟨rfl, (look_eq rfl (by simp [copyL_length, hl6])), rfl, trivial⟩) ⟨(by simp [copyL_length, hl6]), (Sat.pick [0] h22)⟩
        · refine C.cond_f rfl hc19 ?_
          refine C.skip ?_
          refine QA.block_normal ?_
          refine QA.then_normal ?_
          refine C.region ?_
          refine G.yl (yl_move rfl) rfl rfl rfl ?_
          obtain ⟨hc24, hm⟩ := sp_chk hm
          refine G.yl (yl_addI rfl rfl hc24) rfl rfl rfl ?_
          refine G.yl (yl_assign rfl) rfl rfl rfl ?_
          refine G.nil ?_
          obtain rfl := sp_ret1 hm
          exact QA.againO (b, i + 1) hg13 (Sub.of ⟨rfl, (look_eq rfl (by simp [copyL_length, hl6])), rfl, trivial⟩) ⟨(by simp [copyL_length, hl6]), (Sat.pick [0] h18)⟩
    · refine C.cond_f rfl (dec_f hc14) ?_
      refine C.exit ?_
      refine QA.then_exit ?_
      refine QA.then_exit ?_
      obtain rfl := sp_ret1 hm
      exact QA.left b (Sub.of ⟨rfl, (look_eq rfl (by simp [copyL_length, hl6])), trivial⟩) ⟨hg13, (by simp [copyL_length, hl6]), (Sat.pick [0] h11)⟩
  · rintro b_2 w25 ⟨rfl, hl7, h26⟩
    have hm := hm9
    show QA _ _ [(2, (.string (str ([] : List UInt8)))), (3, (.slice a2 s.length c3))] _ _
    refine QA.block_here ?_
    refine QA.then_normal ?_
    refine C.seq ?_
    refine C.region ?_
    refine G.yl (yl_move rfl) rfl rfl rfl ?_
    refine G.yl (yl_strE (l := b_2) Try.underlying49 Try.underlying5 Try.underlying9 rfl (by simp [copyL_length, hl7]) (Sat.own_view h26)) rfl rfl rfl ?_
    refine G.yl (yl_assign rfl) rfl rfl rfl ?_
    refine G.nil ?_
    refine QA.then_normal ?_
    refine C.ret ?_
    refine QA.ret1 rfl rfl ?_
    obtain rfl := sp_ret1 hm
    exact ⟨rfl, (Sat.pick [] h26)⟩
set_option maxRecDepth 20000 in
set_option maxHeartbeats 1000000 in
theorem M_signpostref11_Good_w {W : Base} {w : World} {i : G_api_Instance}  (h : Sat W w []) {r1 : Bool} (hm : M_signpostref11_Good i = some r1) :
    Calls Try.prog 33 #[(.agg (bytesV (List.ofFn (n := 20) i.Publisher) ++ ([(v64 i.Seq), (v64 i.Born), (v32 i.Life), (.bool i.Gone), (v16 i.Priority), (v16 i.Weight), (v16 i.Port), (.string (str i.Target))] : List Value)).toArray)] w (Ret fun v w' => v = (.bool r1) ∧ Sat W w' []) := by
  unfold M_signpostref11_Good at hm
  refine C.enter (N := 47) Try.func33 rfl Try.ntmps33 rfl ?_
  show C _ _ _ [(0, (.agg (bytesV (List.ofFn (n := 20) i.Publisher) ++ ([(v64 i.Seq), (v64 i.Born), (v32 i.Life), (.bool i.Gone), (v16 i.Priority), (v16 i.Weight), (v16 i.Port), (.string (str i.Target))] : List Value)).toArray))] _ _
  refine C.seq ?_
  refine C.region ?_
  refine G.does (does_box (cs := (bytesV (List.ofFn (n := 20) i.Publisher) ++ ([(v64 i.Seq), (v64 i.Born), (v32 i.Life), (.bool i.Gone), (v16 i.Priority), (v16 i.Weight), (v16 i.Port), (.string (str i.Target))] : List Value))) h rfl rfl) rfl rfl rfl ?_
  rintro _ w2 ⟨b1, rfl, h3⟩
  refine G.yl (yl_assign rfl) rfl rfl rfl ?_
  refine G.nil ?_
  refine QA.then_normal ?_
  refine C.seq ?_
  refine C.join (γ := Bool) (fun g => match g with | t10 => [(1, (.pointer (some ⟨b1, 0, none⟩))), (2, (.bool false)), (10, (.bool t10))]) (fun g ww => match g with | t10 => (M_signpostref11_Good_k1 i t10 = some r1) ∧ Sat W ww [blk b1 (bytesV (List.ofFn (n := 20) i.Publisher) ++ ([(v64 i.Seq), (v64 i.Born), (v32 i.Life), (.bool i.Gone), (v16 i.Priority), (v16 i.Weight), (v16 i.Port), (.string (str i.Target))] : List Value)) 47]) ?_ ?_
  · refine C.region ?_
    refine G.yl (yl_fieldAddr fo47_3 rfl) rfl rfl rfl ?_
    refine G.yl (yl_load (v := (v32 i.Life)) ag44 rfl (View.at_ (j := 2) (View.span_tail h3.isBlk.view0) rfl)) rfl rfl rfl ?_
    refine G.yl (yl_lt32 (b := 1) rfl rfl) rfl rfl rfl ?_
    refine G.yl (yl_move rfl) rfl rfl rfl ?_
    rcases sp_ite hm with ⟨hc4, hm⟩ | ⟨hc4, hm⟩
    · refine G.offU rfl rfl (dec_t hc4) rfl ?_
      refine G.offU rfl rfl (dec_t hc4) rfl ?_
      refine G.offU rfl rfl (dec_t hc4) rfl ?_
      refine G.yl (yl_pick_t rfl (dec_t hc4) rfl) rfl rfl rfl ?_
      refine G.nil ?_
      exact QA.join true (Sub.of ⟨rfl, rfl, rfl, trivial⟩) ⟨hm, (Sat.pick [0] h3)⟩
    · refine G.on rfl rfl (dec_f hc4) ?_
      refine G.yl (yl_fieldAddr fo47_3 rfl) rfl rfl rfl ?_
      refine G.on rfl rfl (dec_f hc4) ?_
      refine G.yl (yl_load (v := (v32 i.Life)) ag44 rfl (View.at_ (j := 2) (View.span_tail h3.isBlk.view0) rfl)) rfl rfl rfl ?_
      refine G.on rfl rfl (dec_f hc4) ?_
      refine G.yl (yl_gt32 (b := 2147483647) rfl rfl) rfl rfl rfl ?_
      refine G.yl (yl_pick_f rfl (dec_f hc4) rfl) rfl rfl rfl ?_
      refine G.nil ?_
      exact QA.join (decide ((2147483647 : UInt32) < i.Life)) (Sub.of ⟨rfl, rfl, rfl, trivial⟩) ⟨hm, (Sat.pick [0] h3)⟩
  · rintro t10 w5 ⟨hm, h6⟩
    show C _ _ _ [(1, (.pointer (some ⟨b1, 0, none⟩))), (2, (.bool false)), (10, (.bool t10))] _ _
    unfold M_signpostref11_Good_k1 at hm
    rcases sp_b hm with ⟨hc7, hm⟩ | ⟨hc7, hm⟩
    · refine C.cond_t rfl hc7 ?_
      refine C.seq ?_
      refine C.region ?_
      refine G.yl (yl_assign rfl) rfl rfl rfl ?_
      refine G.nil ?_
      refine QA.then_normal ?_
      refine C.ret ?_
      refine QA.then_ret ?_
      refine QA.ret1 rfl rfl ?_
      obtain rfl := sp_ret1 hm
      exact ⟨rfl, (Sat.pick [] h6)⟩
    · refine C.cond_f rfl hc7 ?_
      refine C.skip ?_
      refine QA.then_normal ?_
      refine C.seq ?_
      refine C.seq ?_
      refine C.region ?_
      refine G.yl (yl_fieldAddr fo47_4 rfl) rfl rfl rfl ?_
      refine G.yl (yl_load (v := (.bool i.Gone)) ag4 rfl (View.at_ (j := 3) (View.span_tail h6.isBlk.view0) rfl)) rfl rfl rfl ?_
      refine G.nil ?_
      refine QA.then_normal ?_
      rcases sp_b hm with ⟨hc8, hm⟩ | ⟨hc8, hm⟩
      · refine C.cond_t rfl hc8 ?_
        refine C.join (γ := Bool) (fun g => match g with | t2 => [(2, (.bool t2))]) (fun g ww => match g with | t2 => (M_signpostref11_Good_k2 t2 = some r1) ∧ Sat W ww []) ?_ ?_
        · refine C.region ?_
          refine G.yl (yl_fieldAddr fo47_5 rfl) rfl rfl rfl ?_
          refine G.yl (yl_load (v := (v16 i.Priority)) ag45 rfl (View.at_ (j := 4) (View.span_tail h6.isBlk.view0) rfl)) rfl rfl rfl ?_
          refine G.yl (yl_eq16 (b := 0) rfl rfl) rfl rfl rfl ?_
          refine G.yl (yl_move rfl) rfl rfl rfl ?_
          rcases sp_ite hm with ⟨hc9, hm⟩ | ⟨hc9, hm⟩
          · refine G.on rfl rfl (dec_t hc9) ?_
            refine G.yl (yl_fieldAddr fo47_6 rfl) rfl rfl rfl ?_
            refine G.on rfl rfl (dec_t hc9) ?_
            refine G.yl (yl_load (v := (v16 i.Weight)) ag45 rfl (View.at_ (j := 5) (View.span_tail h6.isBlk.view0) rfl)) rfl rfl rfl ?_
            refine G.on rfl rfl (dec_t hc9) ?_
            refine G.yl (yl_eq16 (b := 0) rfl rfl) rfl rfl rfl ?_
            refine G.yl (yl_pick_t rfl (dec_t hc9) rfl) rfl rfl rfl ?_
            refine G.yl (yl_move rfl) rfl rfl rfl ?_
            rcases sp_ite hm with ⟨hc10, hm⟩ | ⟨hc10, hm⟩
            · refine G.on rfl rfl (dec_t hc10) ?_
              refine G.yl (yl_fieldAddr fo47_7 rfl) rfl rfl rfl ?_
              refine G.on rfl rfl (dec_t hc10) ?_
              refine G.yl (yl_load (v := (v16 i.Port)) ag45 rfl (View.at_ (j := 6) (View.span_tail h6.isBlk.view0) rfl)) rfl rfl rfl ?_
              refine G.on rfl rfl (dec_t hc10) ?_
              refine G.yl (yl_eq16 (b := 0) rfl rfl) rfl rfl rfl ?_
              refine G.yl (yl_pick_t rfl (dec_t hc10) rfl) rfl rfl rfl ?_
              refine G.yl (yl_move rfl) rfl rfl rfl ?_
              rcases sp_ite hm with ⟨hc11, hm⟩ | ⟨hc11, hm⟩
              · refine G.on rfl rfl (dec_t hc11) ?_
                refine G.yl (yl_fieldAddr fo47_8 rfl) rfl rfl rfl ?_
                refine G.on rfl rfl (dec_t hc11) ?_
                refine G.yl (yl_load (v := (.string (str i.Target))) ag9 rfl (View.at_ (j := 7) (View.span_tail h6.isBlk.view0) rfl)) rfl rfl rfl ?_
                refine G.on rfl rfl (dec_t hc11) ?_
                refine G.yl (yl_eqS rfl rfl) rfl rfl rfl ?_
                refine G.yl (yl_pick_t rfl (dec_t hc11) rfl) rfl rfl rfl ?_
                refine G.yl (yl_assign rfl) rfl rfl rfl ?_
                refine G.nil ?_
                exact QA.join (decide (i.Target = ([] : List UInt8))) (Sub.of ⟨rfl, trivial⟩) ⟨hm, (Sat.pick [] h6)⟩
              · refine G.offU rfl rfl (dec_f hc11) rfl ?_
                refine G.offU rfl rfl (dec_f hc11) rfl ?_
                refine G.offU rfl rfl (dec_f hc11) rfl ?_
                refine G.yl (yl_pick_f rfl (dec_f hc11) rfl) rfl rfl rfl ?_
                refine G.yl (yl_assign rfl) rfl rfl rfl ?_
                refine G.nil ?_
                exact QA.join false (Sub.of ⟨rfl, trivial⟩) ⟨hm, (Sat.pick [] h6)⟩
            · refine G.offU rfl rfl (dec_f hc10) rfl ?_
              refine G.offU rfl rfl (dec_f hc10) rfl ?_
              refine G.offU rfl rfl (dec_f hc10) rfl ?_
              refine G.yl (yl_pick_f rfl (dec_f hc10) rfl) rfl rfl rfl ?_
              refine G.yl (yl_move rfl) rfl rfl rfl ?_
              refine G.offU rfl rfl rfl rfl ?_
              refine G.offU rfl rfl rfl rfl ?_
              refine G.offU rfl rfl rfl rfl ?_
              refine G.yl (yl_pick_f rfl rfl rfl) rfl rfl rfl ?_
              refine G.yl (yl_assign rfl) rfl rfl rfl ?_
              refine G.nil ?_
              exact QA.join false (Sub.of ⟨rfl, trivial⟩) ⟨hm, (Sat.pick [] h6)⟩
          · refine G.offU rfl rfl (dec_f hc9) rfl ?_
            refine G.offU rfl rfl (dec_f hc9) rfl ?_
            refine G.offU rfl rfl (dec_f hc9) rfl ?_
            refine G.yl (yl_pick_f rfl (dec_f hc9) rfl) rfl rfl rfl ?_
            refine G.yl (yl_move rfl) rfl rfl rfl ?_
            refine G.offU rfl rfl rfl rfl ?_
            refine G.offU rfl rfl rfl rfl ?_
            refine G.offU rfl rfl rfl rfl ?_
            refine G.yl (yl_pick_f rfl rfl rfl) rfl rfl rfl ?_
            refine G.yl (yl_move rfl) rfl rfl rfl ?_
            refine G.offU rfl rfl rfl rfl ?_
            refine G.offU rfl rfl rfl rfl ?_
            refine G.offU rfl rfl rfl rfl ?_
            refine G.yl (yl_pick_f rfl rfl rfl) rfl rfl rfl ?_
            refine G.yl (yl_assign rfl) rfl rfl rfl ?_
            refine G.nil ?_
            exact QA.join false (Sub.of ⟨rfl, trivial⟩) ⟨hm, (Sat.pick [] h6)⟩
        · rintro t2 w12 ⟨hm, h13⟩
          show C _ _ _ [(2, (.bool t2))] _ _
          unfold M_signpostref11_Good_k2 at hm
          refine C.ret ?_
          refine QA.then_ret ?_
          refine QA.ret1 rfl rfl ?_
          obtain rfl := sp_ret1 hm
          exact ⟨rfl, (Sat.pick [] h13)⟩
      · refine C.cond_f rfl hc8 ?_
        refine C.skip ?_
        refine QA.then_normal ?_
        refine C.seq ?_
        refine C.draw (V := fun w' => View w' (some ⟨b1, 0, none⟩) (bytesV (List.ofFn (n := 20) i.Publisher) ++ ([(v64 i.Seq), (v64 i.Born), (v32 i.Life), (.bool i.Gone), (v16 i.Priority), (v16 i.Weight), (v16 i.Port), (.string (str i.Target))] : List Value))) (nd := [1, 4, 5, 9, 10, 12, 13, 14]) (sp := []) (n := 17) rfl h6 rfl rfl ?_
        intro w14 h15
        have hS16 : Cls (fun w' => View w' (some ⟨b1, 0, none⟩) (bytesV (List.ofFn (n := 20) i.Publisher) ++ ([(v64 i.Seq), (v64 i.Born), (v32 i.Life), (.bool i.Gone), (v16 i.Priority), (v16 i.Weight), (v16 i.Port), (.string (str i.Target))] : List Value))) [1, 4, 5, 9, 10, 12, 13, 14] [] #[false, false, false, false, false, false, false, false, false, false, false, false, false, false, false, false, false] w14 := Cls.keep (h15.isBlk.view0) (by kernel_rfl)
        refine GH.yl (i := 0) (listed' := #[true, false, false, false, false, false, false, false, false, false, false, false, false, false, false, false, false]) rfl (by kernel_rfl) rfl (NP.next NP.body) rfl rfl rfl (fun w' => yl_fieldAddr fo47_7 rfl) hS16 (fun hS17 => ?_)
        refine GH.yr (i := 1) (listed' := #[true, true, false, false, false, false, false, false, false, false, false, false, false, false, false, false, false]) rfl (by kernel_rfl) rfl rfl (NP.next NP.body) rfl rfl rfl (fun w' hw' => yl_load (v := (v16 i.Port)) ag45 rfl (View.at_ (j := 6) (View.span_tail hw') rfl)) hS17 (fun hS18 => ?_)
        refine GH.yl (i := 2) (listed' := #[true, true, true, false, false, false, false, false, false, false, false, false, false, false, false, false, false]) rfl (by kernel_rfl) rfl (NP.next NP.body) rfl rfl rfl (fun w' => yl_ne16 (b := 0) rfl rfl) hS18 (fun hS19 => ?_)
        refine GH.yl (i := 3) (listed' := #[true, true, true, true, false, false, false, false, false, false, false, false, false, false, false, false, false]) rfl (by kernel_rfl) rfl (NP.next NP.body) rfl rfl rfl (fun w' => yl_move rfl) hS19 (fun hS20 => ?_)
        rcases sp_ite hm with ⟨hc21, hm⟩ | ⟨hc21, hm⟩
        · refine GH.off (i := 4) (listed' := #[true, true, true, true, true, false, false, false, false, false, false, false, false, false, false, false, false]) rfl (by kernel_rfl) rfl (NP.next NP.body) rfl rfl rfl rfl (not_f (dec_t hc21)) hS20 (fun hS22 => ?_)
          refine GH.off (i := 5) (listed' := #[true, true, true, true, true, true, false, false, false, false, false, false, false, false, false, false, false]) rfl (by kernel_rfl) rfl (NP.next NP.body) rfl rfl rfl rfl (not_f (dec_t hc21)) hS22 (fun hS23 => ?_)
          refine GH.off (i := 6) (listed' := #[true, true, true, true, true, true, true, false, false, false, false, false, false, false, false, false, false]) rfl (by kernel_rfl) rfl (NP.next NP.body) rfl rfl rfl rfl (not_f (dec_t hc21)) hS23 (fun hS24 => ?_)
          refine GH.yl (i := 7) (listed' := #[true, true, true, true, true, true, true, true, false, false, false, false, false, false, false, false, false]) rfl (by kernel_rfl) rfl (NP.next NP.body) rfl rfl rfl (fun w' => yl_pick_f rfl (not_f (dec_t hc21)) rfl) hS24 (fun hS25 => ?_)
          refine GH.yl (i := 8) (listed' := #[true, true, true, true, true, true, true, true, true, false, false, false, false, false, false, false, false]) rfl (by kernel_rfl) rfl (NP.next NP.body) rfl rfl rfl (fun w' => yl_move rfl) hS25 (fun hS26 => ?_)
          refine GH.off (i := 9) (listed' := #[true, true, true, true, true, true, true, true, true, true, false, false, false, false, false, false, false]) rfl (by kernel_rfl) rfl (NP.next NP.body) rfl rfl rfl rfl rfl hS26 (fun hS27 => ?_)
          refine GH.off (i := 10) (listed' := #[true, true, true, true, true, true, true, true, true, true, true, false, false, false, false, false, false]) rfl (by kernel_rfl) rfl (NP.next NP.body) rfl rfl rfl rfl rfl hS27 (fun hS28 => ?_)
          refine GH.off (i := 11) (listed' := #[true, true, true, true, true, true, true, true, true, true, true, true, false, false, false, false, false]) rfl (by kernel_rfl) rfl (NP.next NP.body) rfl rfl rfl rfl rfl hS28 (fun hS29 => ?_)
          refine GH.off (i := 12) (listed' := #[true, true, true, true, true, true, true, true, true, true, true, true, true, false, false, false, false]) rfl (by kernel_rfl) rfl (NP.next NP.body) rfl rfl rfl rfl rfl hS29 (fun hS30 => ?_)
          refine GH.off (i := 13) (listed' := #[true, true, true, true, true, true, true, true, true, true, true, true, true, true, false, false, false]) rfl (by kernel_rfl) rfl (NP.next NP.body) rfl rfl rfl rfl rfl hS30 (fun hS31 => ?_)
          refine GH.off (i := 14) (listed' := #[true, true, true, true, true, true, true, true, true, true, true, true, true, true, true, false, false]) rfl (by kernel_rfl) rfl (NP.next NP.body) rfl rfl rfl rfl rfl hS31 (fun hS32 => ?_)
          refine GH.yl (i := 15) (listed' := #[true, true, true, true, true, true, true, true, true, true, true, true, true, true, true, true, false]) rfl (by kernel_rfl) rfl (NP.next NP.body) rfl rfl rfl (fun w' => yl_pick_f rfl rfl rfl) hS32 (fun hS33 => ?_)
          refine GH.yl (i := 16) (listed' := #[true, true, true, true, true, true, true, true, true, true, true, true, true, true, true, true, true]) rfl (by kernel_rfl) rfl (NP.next NP.body) rfl rfl rfl (fun w' => yl_assign rfl) hS33 (fun hS34 => ?_)
          refine GH.done (by kernel_rfl) ?_
          refine QA.then_normal ?_
          refine C.ret ?_
          refine QA.ret1 rfl rfl ?_
          obtain rfl := sp_ret1 hm
          exact ⟨rfl, (Sat.pick [] h15)⟩
        · refine GH.on (i := 4) (listed' := #[true, true, true, true, true, false, false, false, false, false, false, false, false, false, false, false, false]) rfl (by kernel_rfl) rfl rfl (NP.next NP.body) rfl rfl rfl rfl (not_t (dec_f hc21)) (fun w' hw' => yl_fieldAddr fo47_8 rfl) hS20 (fun hS35 => ?_)
          refine GH.on (i := 5) (listed' := #[true, true, true, true, true, true, false, false, false, false, false, false, false, false, false, false, false]) rfl (by kernel_rfl) rfl rfl (NP.next NP.body) rfl rfl rfl rfl (not_t (dec_f hc21)) (fun w' hw' => yl_load (v := (.string (str i.Target))) ag9 rfl (View.at_ (j := 7) (View.span_tail hw') rfl)) hS35 (fun hS36 => ?_)
          obtain ⟨r1_2, hy37, hm⟩ := sp_bind hm
          refine GH.doesOn (i := 6) (listed' := #[true, true, true, true, true, true, true, false, false, false, false, false, false, false, false, false, false]) rfl (by kernel_rfl) rfl rfl rfl (not_t (dec_f hc21)) rfl rfl (does_fn 0 rfl rfl rfl en94 h15 (fun U hU hp hr hs => M_signpostref09_Good_w (s := i.Target) hp hy37)) ?_
          rintro _ w38 ⟨U41, hb42, rfl, h40⟩
          have h39 : Sat W w38 [blk b1 (bytesV (List.ofFn (n := 20) i.Publisher) ++ ([(v64 i.Seq), (v64 i.Born), (v32 i.Life), (.bool i.Gone), (v16 i.Priority), (v16 i.Weight), (v16 i.Port), (.string (str i.Target))] : List Value)) 47] := hb42 h40
          have hS43 : Cls (fun w' => View w' (some ⟨b1, 0, none⟩) (bytesV (List.ofFn (n := 20) i.Publisher) ++ ([(v64 i.Seq), (v64 i.Born), (v32 i.Life), (.bool i.Gone), (v16 i.Priority), (v16 i.Weight), (v16 i.Port), (.string (str i.Target))] : List Value))) [1, 4, 5, 9, 10, 12, 13, 14] [] #[true, true, true, true, true, true, true, false, false, false, false, false, false, false, false, false, false] w38 := Cls.keep (h39.isBlk.view0) (by kernel_rfl)
          refine ⟨hS43, ?_⟩
          refine GH.yl (i := 7) (listed' := #[true, true, true, true, true, true, true, true, false, false, false, false, false, false, false, false, false]) rfl (by kernel_rfl) rfl (NP.next NP.body) rfl rfl rfl (fun w' => yl_pick_t rfl (not_t (dec_f hc21)) rfl) hS43 (fun hS44 => ?_)
          refine GH.yl (i := 8) (listed' := #[true, true, true, true, true, true, true, true, true, false, false, false, false, false, false, false, false]) rfl (by kernel_rfl) rfl (NP.next NP.body) rfl rfl rfl (fun w' => yl_move rfl) hS44 (fun hS45 => ?_)
          rcases sp_b hm with ⟨hc46, hm⟩ | ⟨hc46, hm⟩
          · refine GH.on (i := 9) (listed' := #[true, true, true, true, true, true, true, true, true, true, false, false, false, false, false, false, false]) rfl (by kernel_rfl) rfl rfl (NP.next NP.body) rfl rfl rfl rfl hc46 (fun w' hw' => yl_fieldAddr fo47_8 rfl) hS45 (fun hS47 => ?_)
            refine GH.on (i := 10) (listed' := #[true, true, true, true, true, true, true, true, true, true, true, false, false, false, false, false, false]) rfl (by kernel_rfl) rfl rfl (NP.next NP.body) rfl rfl rfl rfl hc46 (fun w' hw' => yl_load (v := (.string (str i.Target))) ag9 rfl (View.at_ (j := 7) (View.span_tail hw') rfl)) hS47 (fun hS48 => ?_)
            refine GH.on (i := 12) (listed' := #[true, true, true, true, true, true, true, true, true, true, true, false, true, false, false, false, false]) rfl (by kernel_rfl) rfl rfl (NP.next NP.body) rfl rfl rfl rfl hc46 (fun w' hw' => yl_fieldAddr fo47_8 rfl) hS48 (fun hS49 => ?_)
            refine GH.on (i := 13) (listed' := #[true, true, true, true, true, true, true, true, true, true, true, false, true, true, false, false, false]) rfl (by kernel_rfl) rfl rfl (NP.next NP.body) rfl rfl rfl rfl hc46 (fun w' hw' => yl_load (v := (.string (str i.Target))) ag9 rfl (View.at_ (j := 7) (View.span_tail hw') rfl)) hS49 (fun hS50 => ?_)
            obtain ⟨r1_3, hy51, hm⟩ := sp_bind hm
            refine GH.doesOn (i := 11) (listed' := #[true, true, true, true, true, true, true, true, true, true, true, true, true, true, false, false, false]) rfl (by kernel_rfl) rfl rfl rfl hc46 rfl rfl (does_fn 0 rfl rfl rfl en95 h39 (fun U hU hp hr hs => M_signpostref09_Fold_w (s := i.Target) hp hy51)) ?_
            rintro _ w52 ⟨U55, hb56, rfl, h54⟩
            have h53 : Sat W w52 [blk b1 (bytesV (List.ofFn (n := 20) i.Publisher) ++ ([(v64 i.Seq), (v64 i.Born), (v32 i.Life), (.bool i.Gone), (v16 i.Priority), (v16 i.Weight), (v16 i.Port), (.string (str i.Target))] : List Value)) 47] := hb56 h54
            have hS57 : Cls (fun w' => View w' (some ⟨b1, 0, none⟩) (bytesV (List.ofFn (n := 20) i.Publisher) ++ ([(v64 i.Seq), (v64 i.Born), (v32 i.Life), (.bool i.Gone), (v16 i.Priority), (v16 i.Weight), (v16 i.Port), (.string (str i.Target))] : List Value))) [1, 4, 5, 9, 10, 12, 13, 14] [] #[true, true, true, true, true, true, true, true, true, true, true, true, true, true, false, false, false] w52 := Cls.keep (h53.isBlk.view0) (by kernel_rfl)
            refine ⟨hS57, ?_⟩
            refine GH.on (i := 14) (listed' := #[true, true, true, true, true, true, true, true, true, true, true, true, true, true, true, false, false]) rfl (by kernel_rfl) rfl rfl (NP.next NP.body) rfl rfl rfl rfl hc46 (fun w' hw' => yl_eqS rfl rfl) hS57 (fun hS58 => ?_)
            refine GH.yl (i := 15) (listed' := #[true, true, true, true, true, true, true, true, true, true, true, true, true, true, true, true, false]) rfl (by kernel_rfl) rfl (NP.next NP.body) rfl rfl rfl (fun w' => yl_pick_t rfl hc46 rfl) hS58 (fun hS59 => ?_)
            refine GH.yl (i := 16) (listed' := #[true, true, true, true, true, true, true, true, true, true, true, true, true, true, true, true, true]) rfl (by kernel_rfl) rfl (NP.next NP.body) rfl rfl rfl (fun w' => yl_assign rfl) hS59 (fun hS60 => ?_)
            refine GH.done (by kernel_rfl) ?_
            refine QA.then_normal ?_
            refine C.ret ?_
            refine QA.ret1 rfl rfl ?_
            obtain rfl := sp_ret1 hm
            exact ⟨rfl, (Sat.pick [] h53)⟩
          · refine GH.off (i := 9) (listed' := #[true, true, true, true, true, true, true, true, true, true, false, false, false, false, false, false, false]) rfl (by kernel_rfl) rfl (NP.next NP.body) rfl rfl rfl rfl hc46 hS45 (fun hS61 => ?_)
            refine GH.off (i := 10) (listed' := #[true, true, true, true, true, true, true, true, true, true, true, false, false, false, false, false, false]) rfl (by kernel_rfl) rfl (NP.next NP.body) rfl rfl rfl rfl hc46 hS61 (fun hS62 => ?_)
            refine GH.off (i := 11) (listed' := #[true, true, true, true, true, true, true, true, true, true, true, true, false, false, false, false, false]) rfl (by kernel_rfl) rfl (NP.next NP.body) rfl rfl rfl rfl hc46 hS62 (fun hS63 => ?_)
            refine GH.off (i := 12) (listed' := #[true, true, true, true, true, true, true, true, true, true, true, true, true, false, false, false, false]) rfl (by kernel_rfl) rfl (NP.next NP.body) rfl rfl rfl rfl hc46 hS63 (fun hS64 => ?_)
            refine GH.off (i := 13) (listed' := #[true, true, true, true, true, true, true, true, true, true, true, true, true, true, false, false, false]) rfl (by kernel_rfl) rfl (NP.next NP.body) rfl rfl rfl rfl hc46 hS64 (fun hS65 => ?_)
            refine GH.off (i := 14) (listed' := #[true, true, true, true, true, true, true, true, true, true, true, true, true, true, true, false, false]) rfl (by kernel_rfl) rfl (NP.next NP.body) rfl rfl rfl rfl hc46 hS65 (fun hS66 => ?_)
            refine GH.yl (i := 15) (listed' := #[true, true, true, true, true, true, true, true, true, true, true, true, true, true, true, true, false]) rfl (by kernel_rfl) rfl (NP.next NP.body) rfl rfl rfl (fun w' => yl_pick_f rfl hc46 rfl) hS66 (fun hS67 => ?_)
            refine GH.yl (i := 16) (listed' := #[true, true, true, true, true, true, true, true, true, true, true, true, true, true, true, true, true]) rfl (by kernel_rfl) rfl (NP.next NP.body) rfl rfl rfl (fun w' => yl_assign rfl) hS67 (fun hS68 => ?_)
            refine GH.done (by kernel_rfl) ?_
            refine QA.then_normal ?_
            refine C.ret ?_
            refine QA.ret1 rfl rfl ?_
            obtain rfl := sp_ret1 hm
            exact ⟨rfl, (Sat.pick [] h39)⟩
set_option maxRecDepth 20000 in
set_option maxHeartbeats 1000000 in
theorem M_signpostref01_Put_v_w {W : Base} {w : World} {a : Option Addr} {c : Nat} {b : List UInt8} {n : UInt64} {width : Int} (hv_b : V W a (elU8.row b)) (hq_b : b.length ≤ c) (h : Sat W w []) {r3 : List UInt8} (hm : M_signpostref01_Put_v b n width = some r3) :
    Calls Try.prog 90 #[(.slice a b.length c), (v64 n), (vI width)] w (Ret fun v w' => ∃ r1 : Option Addr, ∃ r2 : Nat, v = (.slice r1 r3.length r2) ∧ Sat W w' [ow elU8 r1 r2 5 r3]) := by
  unfold M_signpostref01_Put_v at hm
  refine C.enter (N := 35) Try.func90 rfl Try.ntmps90 rfl ?_
  show C _ _ _ [(0, (.slice a b.length c)), (1, (v64 n)), (2, (vI width))] _ _
  refine C.seq ?_
  refine C.region ?_
  refine G.yl (yl_assign rfl) rfl rfl rfl ?_
  refine G.nil ?_
  refine QA.then_normal ?_
  refine C.seq ?_
  refine C.region ?_
  refine G.does (does_lit (E := elU8) (l := ([] : List UInt8)) (vs := []) (cs := []) (e := 5) h rfl (by kernel_rfl) rfl rfl (by decide)) rfl rfl rfl ?_
  rintro _ w2 ⟨a1, rfl, h3⟩
  refine G.yl (yl_move rfl) rfl rfl rfl ?_
  obtain ⟨hc4, hm⟩ := sp_chk hm
  refine G.does (does_app (E := elU8) (l := ([] : List UInt8)) (l2 := b) Try.underlying49 el5 (Sat.own_zero h3 elU8 a1 5) rfl rfl rfl rfl (by decide) (hv_b.at_ h3) hc4 (by decide)) rfl rfl rfl ?_
  rintro _ w7 ⟨a5, c6, rfl, h8⟩
  refine G.yl (yl_assign rfl) rfl rfl rfl ?_
  refine G.nil ?_
  refine QA.then_normal ?_
  refine C.seq ?_
  refine C.join (γ := Bool) (fun g => match g with | t17 => [(1, (v64 n)), (2, (vI width)), (6, (.slice none 0 0)), (7, (.slice a5 ((([] : List UInt8) ++ b).length) c6)), (17, (.bool t17))]) (fun g ww => match g with | t17 => (M_signpostref01_Put_v_k1 b n width t17 = some r3) ∧ Sat W ww [ow elU8 a5 c6 5 (([] : List UInt8) ++ b)]) ?_ ?_
  · refine C.region ?_
    refine G.yl (yl_move rfl) rfl rfl rfl ?_
    refine G.yl (yl_ltI rfl rfl) rfl rfl rfl ?_
    refine G.yl (yl_move rfl) rfl rfl rfl ?_
    rcases sp_ite hm with ⟨hc9, hm⟩ | ⟨hc9, hm⟩
    · refine G.offU rfl rfl (dec_t hc9) rfl ?_
      refine G.offU rfl rfl (dec_t hc9) rfl ?_
      refine G.yl (yl_pick_t rfl (dec_t hc9) rfl) rfl rfl rfl ?_
      refine G.nil ?_
      exact QA.join true (Sub.of ⟨rfl, rfl, rfl, rfl, rfl, trivial⟩) ⟨hm, (Sat.pick [0] h8)⟩
    · refine G.on rfl rfl (dec_f hc9) ?_
      refine G.yl (yl_move rfl) rfl rfl rfl ?_
      refine G.on rfl rfl (dec_f hc9) ?_
      refine G.yl (yl_gtI rfl rfl) rfl rfl rfl ?_
      refine G.yl (yl_pick_f rfl (dec_f hc9) rfl) rfl rfl rfl ?_
      refine G.nil ?_
      exact QA.join (decide ((8 : Int) < width)) (Sub.of ⟨rfl, rfl, rfl, rfl, rfl, trivial⟩) ⟨hm, (Sat.pick [0] h8)⟩
  · rintro t17 w10 ⟨hm, h11⟩
    show C _ _ _ [(1, (v64 n)), (2, (vI width)), (6, (.slice none 0 0)), (7, (.slice a5 ((([] : List UInt8) ++ b).length) c6)), (17, (.bool t17))] _ _
    unfold M_signpostref01_Put_v_k1 at hm
    rcases sp_b hm with ⟨hc12, hm⟩ | ⟨hc12, hm⟩
    · refine C.cond_t rfl hc12 ?_
      refine C.seq ?_
      refine C.region ?_
      refine G.yl (yl_move rfl) rfl rfl rfl ?_
      refine G.yl (yl_assign rfl) rfl rfl rfl ?_
      refine G.nil ?_
      refine QA.then_normal ?_
      refine C.ret ?_
      refine QA.then_ret ?_
      refine QA.ret1 rfl rfl ?_
      obtain rfl := sp_ret1 hm
      exact ⟨a5, c6, rfl, (Sat.pick [0] h11)⟩
    · refine C.cond_f rfl hc12 ?_
      refine C.skip ?_
      refine QA.then_normal ?_
      refine C.seq ?_
      refine C.seq ?_
      refine C.region ?_
      refine G.yl (yl_move rfl) rfl rfl rfl ?_
      obtain ⟨hc13, hm⟩ := sp_chk hm
      refine G.yl (yl_subI rfl rfl hc13) rfl rfl rfl ?_
      refine G.yl (yl_assign rfl) rfl rfl rfl ?_
      refine G.nil ?_
      refine QA.then_normal ?_
      refine C.block ?_
      obtain ⟨o, ho14, hm15⟩ := sp_bind hm
      refine C.left (γ := Option Addr × Nat × List UInt8) (.exit 0) (fun g => match g with | (a_3, c_3, out_2) => [(6, (.slice none 0 0)), (7, (.slice a_3 out_2.length c_3))]) (fun g ww => match g with | (a_3, c_3, out_2) => out_2 = o ∧ Sat W ww [ow elU8 a_3 c_3 5 out_2]) ?_ ?_
      · refine C.loopO (γ := Option Addr × Nat × List UInt8 × Int) (fun g => match g with | (a_2, c_2, out, i) => [(1, (v64 n)), (6, (.slice none 0 0)), (7, (.slice a_2 out.length c_2)), (8, (vI i))]) (fun g ww => match g with | (a_2, c_2, out, i) => Sat W ww [ow elU8 a_2 c_2 5 out]) (fun g => match g with | (a_2, c_2, out, i) => (out, i)) (a5, c6, ([] : List UInt8) ++ b, width - 1) ho14 (Sub.of ⟨rfl, rfl, rfl, rfl, trivial⟩) (Sat.pick [0] h11) ?_
        rintro ⟨a_2, c_2, out, i⟩ k18 w16 y_ h17 hm hg19
        show C _ _ _ [(1, (v64 n)), (6, (.slice none 0 0)), (7, (.slice a_2 out.length c_2)), (8, (vI i))] _ _
        change M_signpostref01_Put_v_b2 n out i = some y_ at hm
        unfold M_signpostref01_Put_v_b2 at hm
        refine C.seq ?_
        refine C.seq ?_
        refine C.region ?_
        refine G.yl (yl_move rfl) rfl rfl rfl ?_
        refine G.yl (yl_geI rfl rfl) rfl rfl rfl ?_
        refine G.nil ?_
        refine QA.then_normal ?_
        rcases sp_ite hm with ⟨hc20, hm⟩ | ⟨hc20, hm⟩
        · refine C.cond_t rfl (dec_t hc20) ?_
          refine C.skip ?_
          refine QA.then_normal ?_
          refine C.seq ?_
          refine C.block ?_
          refine C.region ?_
          refine G.yl (yl_move rfl) rfl rfl rfl ?_
          refine G.yl (yl_move rfl) rfl rfl rfl ?_
          refine G.yl (yl_move rfl) rfl rfl rfl ?_
          obtain ⟨hc21, hm⟩ := sp_chk hm
          refine G.yl (yl_mulI rfl rfl hc21) rfl rfl rfl ?_
          refine G.yl (yl_I64 us3 Try.underlying48 rfl) rfl rfl rfl ?_
          refine G.yl (yl_shr64 rfl rfl (by omega)) rfl rfl rfl ?_
          refine G.yl (yl_64to8 us28 Try.underlying5 rfl) rfl rfl rfl ?_
          refine G.does (does_lit (E := elU8) (l := [(shr64 n ((UInt64.ofInt (8 * i)).toNat)).toUInt8]) (vs := [(v8 ((shr64 n ((UInt64.ofInt (8 * i)).toNat)).toUInt8))]) (cs := [(v8 ((shr64 n ((UInt64.ofInt (8 * i)).toNat)).toUInt8))]) (e := 5) h17 rfl (by kernel_rfl) rfl rfl (by decide)) rfl rfl rfl ?_
          rintro _ w23 ⟨a22, rfl, h24⟩
          obtain ⟨hc25, hm⟩ := sp_chk hm
          refine G.does (does_app (E := elU8) (l := out) (l2 := [(shr64 n ((UInt64.ofInt (8 * i)).toNat)).toUInt8]) Try.underlying49 el5 (Sat.pick [1, 0] h24) rfl rfl rfl rfl (by decide) (Sat.own_view h24) hc25 (by decide)) rfl rfl rfl ?_
          rintro _ w28 ⟨a26, c27, rfl, h29⟩
          refine G.yl (yl_assign rfl) rfl rfl rfl ?_
          refine G.nil ?_
          refine QA.block_normal ?_
          refine QA.then_normal ?_
          refine C.region ?_
          refine G.yl (yl_move rfl) rfl rfl rfl ?_
          obtain ⟨hc30, hm⟩ := sp_chk hm
          refine G.yl (yl_subI rfl rfl hc30) rfl rfl rfl ?_
          refine G.yl (yl_assign rfl) rfl rfl rfl ?_
          refine G.nil ?_
          obtain rfl := sp_ret1 hm
          exact QA.againO (a26, c27, out ++ [(shr64 n ((UInt64.ofInt (8 * i)).toNat)).toUInt8], i - 1) hg19 (Sub.of ⟨rfl, rfl, rfl, rfl, trivial⟩) (Sat.pick [0] h29)
        · refine C.cond_f rfl (dec_f hc20) ?_
          refine C.exit ?_
          refine QA.then_exit ?_
          refine QA.then_exit ?_
          obtain rfl := sp_ret1 hm
          exact QA.left (a_2, c_2, out) (Sub.of ⟨rfl, rfl, trivial⟩) ⟨hg19, (Sat.pick [0] h17)⟩
      · rintro ⟨a_3, c_3, out_2⟩ w31 ⟨rfl, h32⟩
        have hm := hm15
        show QA _ _ [(6, (.slice none 0 0)), (7, (.slice a_3 out_2.length c_3))] _ _
        refine QA.block_here ?_
        refine QA.then_normal ?_
        refine C.seq ?_
        refine C.region ?_
        refine G.yl (yl_move rfl) rfl rfl rfl ?_
        refine G.yl (yl_assign rfl) rfl rfl rfl ?_
        refine G.nil ?_
        refine QA.then_normal ?_
        refine C.ret ?_
        refine QA.ret1 rfl rfl ?_
        obtain rfl := sp_ret1 hm
        exact ⟨a_3, c_3, rfl, (Sat.pick [0] h32)⟩
set_option maxRecDepth 20000 in
set_option maxHeartbeats 1000000 in
theorem M_signpostref01_Text_v_w {W : Base} {w : World} {a : Option Addr} {c : Nat} {b : List UInt8} {s : List UInt8} (hv_b : V W a (elU8.row b)) (hq_b : b.length ≤ c) (h : Sat W w []) {r3 : List UInt8} {r4 : Int} (hm : M_signpostref01_Text_v b s = some (r3, r4)) :
    Calls Try.prog 91 #[(.slice a b.length c), (.string (str s))] w (Ret fun v w' => ∃ r1 : Option Addr, ∃ r2 : Nat, v = (.tuple #[(.slice r1 r3.length r2), (vI r4)]) ∧ Sat W w' [ow elU8 r1 r2 5 r3]) := by
  unfold M_signpostref01_Text_v at hm
  refine C.enter (N := 16) Try.func91 rfl Try.ntmps91 rfl ?_
  show C _ _ _ [(0, (.slice a b.length c)), (1, (.string (str s)))] _ _
  refine C.seq ?_
  refine C.region ?_
  refine G.yl (yl_assign rfl) rfl rfl rfl ?_
  refine G.yl (yl_assign rfl) rfl rfl rfl ?_
  refine G.nil ?_
  refine QA.then_normal ?_
  refine C.seq ?_
  refine C.seq ?_
  refine C.region ?_
  refine G.yl (yl_move rfl) rfl rfl rfl ?_
  refine G.yl (yl_slenE Try.underlying9 rfl) rfl rfl rfl ?_
  refine G.yl (yl_gtI rfl rfl) rfl rfl rfl ?_
  refine G.nil ?_
  refine QA.then_normal ?_
  rcases sp_ite hm with ⟨hc1, hm⟩ | ⟨hc1, hm⟩
  · refine C.cond_t rfl (dec_t hc1) ?_
    refine C.seq ?_
    refine C.region ?_
    refine G.yl (yl_assign rfl) rfl rfl rfl ?_
    refine G.yl (yl_assign rfl) rfl rfl rfl ?_
    refine G.nil ?_
    refine QA.then_normal ?_
    refine C.ret ?_
    refine QA.then_ret ?_
    refine QA.ret2 rfl rfl rfl ?_
    obtain ⟨rfl, rfl⟩ := sp_ret2 hm
    exact ⟨none, 0, rfl, (Sat.pick [0] (Sat.own_zero h elU8 none 5))⟩
  · refine C.cond_f rfl (dec_f hc1) ?_
    refine C.skip ?_
    refine QA.then_normal ?_
    refine C.seq ?_
    refine C.region ?_
    refine G.yl (yl_move rfl) rfl rfl rfl ?_
    refine G.yl (yl_move rfl) rfl rfl rfl ?_
    refine G.yl (yl_slenE Try.underlying9 rfl) rfl rfl rfl ?_
    refine G.yl (yl_I64 us3 Try.underlying28 rfl) rfl rfl rfl ?_
    obtain ⟨r3_2, hy2, hm⟩ := sp_bind hm
    refine G.does (does_fn 0 rfl rfl rfl en90 h (fun U hU hp hr hs => M_signpostref01_Put_v_w (b := b) (n := UInt64.ofInt (s.length : Int)) (width := 2) (hs.v hv_b) hq_b hp hy2)) rfl rfl rfl ?_
    rintro _ w5 ⟨U8, hb9, r13, r24, rfl, h7⟩
    have h6 : Sat W w5 [ow elU8 r13 r24 5 r3_2] := hb9 h7
    refine G.yl (yl_move rfl) rfl rfl rfl ?_
    obtain ⟨hc10, hm⟩ := sp_chk hm
    refine G.does (does_appS (l := r3_2) (s := s) Try.underlying49 el5 h6 rfl rfl rfl hc10 Try.underlying9 (by decide)) rfl rfl rfl ?_
    rintro _ w13 ⟨a11, c12, rfl, h14⟩
    refine G.yl (yl_assign rfl) rfl rfl rfl ?_
    refine G.yl (yl_assign rfl) rfl rfl rfl ?_
    refine G.nil ?_
    refine QA.then_normal ?_
    refine C.ret ?_
    refine QA.ret2 rfl rfl rfl ?_
    obtain ⟨rfl, rfl⟩ := sp_ret2 hm
    exact ⟨a11, c12, rfl, (Sat.pick [0] h14)⟩
set_option maxRecDepth 20000 in
set_option maxHeartbeats 1000000 in
theorem M_signpostref11_Bytes_w {W : Base} {w : World} {i : G_api_Instance}  (h : Sat W w []) {r3 : List UInt8} {r4 : Int} (hm : M_signpostref11_Bytes i = some (r3, r4)) :
    Calls Try.prog 31 #[(.agg (bytesV (List.ofFn (n := 20) i.Publisher) ++ ([(v64 i.Seq), (v64 i.Born), (v32 i.Life), (.bool i.Gone), (v16 i.Priority), (v16 i.Weight), (v16 i.Port), (.string (str i.Target))] : List Value)).toArray)] w (Ret fun v w' => ∃ r1 : Option Addr, ∃ r2 : Nat, v = (.tuple #[(.slice r1 r3.length r2), (vI r4)]) ∧ Sat W w' [ow elU8 r1 r2 5 r3]) := by
  unfold M_signpostref11_Bytes at hm
  refine C.enter (N := 56) Try.func31 rfl Try.ntmps31 rfl ?_
  show C _ _ _ [(0, (.agg (bytesV (List.ofFn (n := 20) i.Publisher) ++ ([(v64 i.Seq), (v64 i.Born), (v32 i.Life), (.bool i.Gone), (v16 i.Priority), (v16 i.Weight), (v16 i.Port), (.string (str i.Target))] : List Value)).toArray))] _ _
  refine C.seq ?_
  refine C.region ?_
  refine G.does (does_box (cs := (bytesV (List.ofFn (n := 20) i.Publisher) ++ ([(v64 i.Seq), (v64 i.Born), (v32 i.Life), (.bool i.Gone), (v16 i.Priority), (v16 i.Weight), (v16 i.Port), (.string (str i.Target))] : List Value))) h rfl rfl) rfl rfl rfl ?_
  rintro _ w2 ⟨b1, rfl, h3⟩
  refine G.yl (yl_assign rfl) rfl rfl rfl ?_
  refine G.yl (yl_assign rfl) rfl rfl rfl ?_
  refine G.nil ?_
  refine QA.then_normal ?_
  refine C.seq ?_
  refine C.seq ?_
  refine C.region ?_
  refine G.yl (yl_loadN (vs := (bytesV (List.ofFn (n := 20) i.Publisher) ++ ([(v64 i.Seq), (v64 i.Born), (v32 i.Life), (.bool i.Gone), (v16 i.Priority), (v16 i.Weight), (v16 i.Port), (.string (str i.Target))] : List Value))) ag47 sz47 (by simp [bytesV_length]) rfl (h3.isBlk.view0)) rfl rfl rfl ?_
  obtain ⟨r1_2, hy4, hm⟩ := sp_bind hm
  refine G.does (does_fn 0 rfl rfl rfl en33 h3 (fun U hU hp hr hs => M_signpostref11_Good_w (i := i) hp hy4)) rfl rfl rfl ?_
  rintro _ w5 ⟨U8, hb9, rfl, h7⟩
  have h6 : Sat W w5 [blk b1 (bytesV (List.ofFn (n := 20) i.Publisher) ++ ([(v64 i.Seq), (v64 i.Born), (v32 i.Life), (.bool i.Gone), (v16 i.Priority), (v16 i.Weight), (v16 i.Port), (.string (str i.Target))] : List Value)) 47] := hb9 h7
  refine G.yl (yl_not rfl) rfl rfl rfl ?_
  refine G.nil ?_
  refine QA.then_normal ?_
  rcases sp_b hm with ⟨hc10, hm⟩ | ⟨hc10, hm⟩
  · refine C.cond_f rfl (not_f hc10) ?_
    refine C.skip ?_
    refine QA.then_normal ?_
    refine C.seq ?_
    refine C.region ?_
    refine G.does (does_lit (E := elU8) (l := ([] : List UInt8)) (vs := []) (cs := []) (e := 5) h6 rfl (by kernel_rfl) rfl rfl (by decide)) rfl rfl rfl ?_
    rintro _ w12 ⟨a11, rfl, h13⟩
    refine G.yl (yl_fieldAddr fo47_0 rfl) rfl rfl rfl ?_
    refine G.yl (yl_slice_arr (n := 20) (l := 0) (h := 20) (s := 1) (v := (.slice (some ⟨b1, 0, none⟩) 20 20)) Try.underlying43 (by kernel_rfl) (by kernel_rfl) rfl rfl rfl (by decide) (by decide) rfl) rfl rfl rfl ?_
    obtain ⟨hc14, hm⟩ := sp_chk hm
    refine G.does (does_app (E := elU8) (l := ([] : List UInt8)) (l2 := List.ofFn i.Publisher) Try.underlying49 el5 (Sat.own_zero h13 elU8 a11 5) rfl rfl rfl rfl (by decide) (View.of_bytes (View.span_head (Sat.pick [1] h13).isBlk.view0)) hc14 (by decide)) rfl rfl rfl ?_
    rintro _ w17 ⟨a15, c16, rfl, h18⟩
    refine G.yl (yl_assign rfl) rfl rfl rfl ?_
    refine G.nil ?_
    refine QA.then_normal ?_
    refine C.seq ?_
    refine C.region ?_
    refine G.yl (yl_move rfl) rfl rfl rfl ?_
    refine G.yl (yl_fieldAddr fo47_1 rfl) rfl rfl rfl ?_
    refine G.yl (yl_load (v := (v64 i.Seq)) ag28 rfl (View.at_ (j := 0) (View.span_tail (Sat.pick [2] h18).isBlk.view0) rfl)) rfl rfl rfl ?_
    obtain ⟨r3_2, hy19, hm⟩ := sp_bind hm
    refine G.does (does_fn 0 rfl rfl rfl en90 h18 (fun U hU hp hr hs => M_signpostref01_Put_v_w (b := ([] : List UInt8) ++ (List.ofFn i.Publisher)) (n := i.Seq) (width := 8) (Rest.view hr) (Sat.own_cap h18).1 hp hy19)) rfl rfl rfl ?_
    rintro _ w22 ⟨U25, hb26, r120, r221, rfl, h24⟩
    have h23 : Sat W w22 [ow elU8 r120 r221 5 r3_2, ow elU8 a15 c16 5 (([] : List UInt8) ++ (List.ofFn i.Publisher)), ow elU8 a11 0 5 ([] : List UInt8), blk b1 (bytesV (List.ofFn (n := 20) i.Publisher) ++ ([(v64 i.Seq), (v64 i.Born), (v32 i.Life), (.bool i.Gone), (v16 i.Priority), (v16 i.Weight), (v16 i.Port), (.string (str i.Target))] : List Value)) 47] := hb26 h24
    refine G.yl (yl_assign rfl) rfl rfl rfl ?_
    refine G.nil ?_
    refine QA.then_normal ?_
    refine C.seq ?_
    refine C.region ?_
    refine G.yl (yl_move rfl) rfl rfl rfl ?_
    refine G.yl (yl_fieldAddr fo47_2 rfl) rfl rfl rfl ?_
    refine G.yl (yl_load (v := (v64 i.Born)) ag28 rfl (View.at_ (j := 1) (View.span_tail (Sat.pick [3] h23).isBlk.view0) rfl)) rfl rfl rfl ?_
    obtain ⟨r3_3, hy27, hm⟩ := sp_bind hm
    refine G.does (does_fn 0 rfl rfl rfl en90 h23 (fun U hU hp hr hs => M_signpostref01_Put_v_w (b := r3_2) (n := i.Born) (width := 8) (Rest.view hr) (Sat.own_cap h23).1 hp hy27)) rfl rfl rfl ?_
    rintro _ w30 ⟨U33, hb34, r128, r229, rfl, h32⟩
    have h31 : Sat W w30 [ow elU8 r128 r229 5 r3_3, ow elU8 r120 r221 5 r3_2, ow elU8 a15 c16 5 (([] : List UInt8) ++ (List.ofFn i.Publisher)), ow elU8 a11 0 5 ([] : List UInt8), blk b1 (bytesV (List.ofFn (n := 20) i.Publisher) ++ ([(v64 i.Seq), (v64 i.Born), (v32 i.Life), (.bool i.Gone), (v16 i.Priority), (v16 i.Weight), (v16 i.Port), (.string (str i.Target))] : List Value)) 47] := hb34 h32
    refine G.yl (yl_assign rfl) rfl rfl rfl ?_
    refine G.nil ?_
    refine QA.then_normal ?_
    refine C.seq ?_
    refine C.region ?_
    refine G.yl (yl_move rfl) rfl rfl rfl ?_
    refine G.yl (yl_fieldAddr fo47_3 rfl) rfl rfl rfl ?_
    refine G.yl (yl_load (v := (v32 i.Life)) ag44 rfl (View.at_ (j := 2) (View.span_tail (Sat.pick [4] h31).isBlk.view0) rfl)) rfl rfl rfl ?_
    refine G.yl (yl_32to64 us44 Try.underlying28 rfl) rfl rfl rfl ?_
    obtain ⟨r3_4, hy35, hm⟩ := sp_bind hm
    refine G.does (does_fn 0 rfl rfl rfl en90 h31 (fun U hU hp hr hs => M_signpostref01_Put_v_w (b := r3_3) (n := i.Life.toUInt64) (width := 4) (Rest.view hr) (Sat.own_cap h31).1 hp hy35)) rfl rfl rfl ?_
    rintro _ w38 ⟨U41, hb42, r136, r237, rfl, h40⟩
    have h39 : Sat W w38 [ow elU8 r136 r237 5 r3_4, ow elU8 r128 r229 5 r3_3, ow elU8 r120 r221 5 r3_2, ow elU8 a15 c16 5 (([] : List UInt8) ++ (List.ofFn i.Publisher)), ow elU8 a11 0 5 ([] : List UInt8), blk b1 (bytesV (List.ofFn (n := 20) i.Publisher) ++ ([(v64 i.Seq), (v64 i.Born), (v32 i.Life), (.bool i.Gone), (v16 i.Priority), (v16 i.Weight), (v16 i.Port), (.string (str i.Target))] : List Value)) 47] := hb42 h40
    refine G.yl (yl_assign rfl) rfl rfl rfl ?_
    refine G.nil ?_
    refine QA.then_normal ?_
    refine C.seq ?_
    refine C.seq ?_
    refine C.region ?_
    refine G.yl (yl_fieldAddr fo47_4 rfl) rfl rfl rfl ?_
    refine G.yl (yl_load (v := (.bool i.Gone)) ag4 rfl (View.at_ (j := 3) (View.span_tail (Sat.pick [5] h39).isBlk.view0) rfl)) rfl rfl rfl ?_
    refine G.nil ?_
    refine QA.then_normal ?_
    rcases sp_b hm with ⟨hc43, hm⟩ | ⟨hc43, hm⟩
    · refine C.cond_t rfl hc43 ?_
      refine C.seq ?_
      refine C.region ?_
      refine G.yl (yl_move rfl) rfl rfl rfl ?_
      refine G.does (does_lit (E := elU8) (l := ([1] : List UInt8)) (vs := [(.int .u8 1)]) (cs := [(.int .u8 1)]) (e := 5) h39 rfl (by kernel_rfl) rfl rfl (by decide)) rfl rfl rfl ?_
      rintro _ w45 ⟨a44, rfl, h46⟩
      obtain ⟨hc47, hm⟩ := sp_chk hm
      refine G.does (does_app (E := elU8) (l := r3_4) (l2 := ([1] : List UInt8)) Try.underlying49 el5 (Sat.pick [1, 0, 0, 0, 0, 0, 0] h46) rfl rfl rfl rfl (by decide) (Sat.own_view h46) hc47 (by decide)) rfl rfl rfl ?_
      rintro _ w50 ⟨a48, c49, rfl, h51⟩
      refine G.yl (yl_assign rfl) rfl rfl rfl ?_
      refine G.yl (yl_assign rfl) rfl rfl rfl ?_
      refine G.nil ?_
      refine QA.then_normal ?_
      refine C.ret ?_
      refine QA.then_ret ?_
      refine QA.ret2 rfl rfl rfl ?_
      obtain ⟨rfl, rfl⟩ := sp_ret2 hm
      exact ⟨a48, c49, rfl, (Sat.pick [0] h51)⟩
    · refine C.cond_f rfl hc43 ?_
      refine C.skip ?_
      refine QA.then_normal ?_
      refine C.seq ?_
      refine C.region ?_
      refine G.yl (yl_move rfl) rfl rfl rfl ?_
      refine G.does (does_lit (E := elU8) (l := ([0] : List UInt8)) (vs := [(.int .u8 0)]) (cs := [(.int .u8 0)]) (e := 5) h39 rfl (by kernel_rfl) rfl rfl (by decide)) rfl rfl rfl ?_
      rintro _ w53 ⟨a52, rfl, h54⟩
      obtain ⟨hc55, hm⟩ := sp_chk hm
      refine G.does (does_app (E := elU8) (l := r3_4) (l2 := ([0] : List UInt8)) Try.underlying49 el5 (Sat.pick [1, 0, 0, 0, 0, 0, 0] h54) rfl rfl rfl rfl (by decide) (Sat.own_view h54) hc55 (by decide)) rfl rfl rfl ?_
      rintro _ w58 ⟨a56, c57, rfl, h59⟩
      refine G.yl (yl_assign rfl) rfl rfl rfl ?_
      refine G.nil ?_
      refine QA.then_normal ?_
      refine C.seq ?_
      refine C.region ?_
      refine G.yl (yl_move rfl) rfl rfl rfl ?_
      refine G.yl (yl_fieldAddr fo47_5 rfl) rfl rfl rfl ?_
      refine G.yl (yl_load (v := (v16 i.Priority)) ag45 rfl (View.at_ (j := 4) (View.span_tail (Sat.pick [6] h59).isBlk.view0) rfl)) rfl rfl rfl ?_
      refine G.yl (yl_16to64 us45 Try.underlying28 rfl) rfl rfl rfl ?_
      obtain ⟨r3_5, hy60, hm⟩ := sp_bind hm
      refine G.does (does_fn 0 rfl rfl rfl en90 h59 (fun U hU hp hr hs => M_signpostref01_Put_v_w (b := r3_4 ++ ([0] : List UInt8)) (n := i.Priority.toUInt64) (width := 2) (Rest.view hr) (Sat.own_cap h59).1 hp hy60)) rfl rfl rfl ?_
      rintro _ w63 ⟨U66, hb67, r161, r262, rfl, h65⟩
      have h64 : Sat W w63 [ow elU8 r161 r262 5 r3_5, ow elU8 a56 c57 5 (r3_4 ++ ([0] : List UInt8)), ow elU8 a52 1 5 ([0] : List UInt8), ow elU8 r128 r229 5 r3_3, ow elU8 r120 r221 5 r3_2, ow elU8 a15 c16 5 (([] : List UInt8) ++ (List.ofFn i.Publisher)), ow elU8 a11 0 5 ([] : List UInt8), blk b1 (bytesV (List.ofFn (n := 20) i.Publisher) ++ ([(v64 i.Seq), (v64 i.Born), (v32 i.Life), (.bool i.Gone), (v16 i.Priority), (v16 i.Weight), (v16 i.Port), (.string (str i.Target))] : List Value)) 47] := hb67 h65
      refine G.yl (yl_assign rfl) rfl rfl rfl ?_
      refine G.nil ?_
      refine QA.then_normal ?_
      refine C.seq ?_
      refine C.region ?_
      refine G.yl (yl_move rfl) rfl rfl rfl ?_
      refine G.yl (yl_fieldAddr fo47_6 rfl) rfl rfl rfl ?_
      refine G.yl (yl_load (v := (v16 i.Weight)) ag45 rfl (View.at_ (j := 5) (View.span_tail (Sat.pick [7] h64).isBlk.view0) rfl)) rfl rfl rfl ?_
      refine G.yl (yl_16to64 us45 Try.underlying28 rfl) rfl rfl rfl ?_
      obtain ⟨r3_6, hy68, hm⟩ := sp_bind hm
      refine G.does (does_fn 0 rfl rfl rfl en90 h64 (fun U hU hp hr hs => M_signpostref01_Put_v_w (b := r3_5) (n := i.Weight.toUInt64) (width := 2) (Rest.view hr) (Sat.own_cap h64).1 hp hy68)) rfl rfl rfl ?_
      rintro _ w71 ⟨U74, hb75, r169, r270, rfl, h73⟩
      have h72 : Sat W w71 [ow elU8 r169 r270 5 r3_6, ow elU8 r161 r262 5 r3_5, ow elU8 a56 c57 5 (r3_4 ++ ([0] : List UInt8)), ow elU8 a52 1 5 ([0] : List UInt8), ow elU8 r128 r229 5 r3_3, ow elU8 r120 r221 5 r3_2, ow elU8 a15 c16 5 (([] : List UInt8) ++ (List.ofFn i.Publisher)), ow elU8 a11 0 5 ([] : List UInt8), blk b1 (bytesV (List.ofFn (n := 20) i.Publisher) ++ ([(v64 i.Seq), (v64 i.Born), (v32 i.Life), (.bool i.Gone), (v16 i.Priority), (v16 i.Weight), (v16 i.Port), (.string (str i.Target))] : List Value)) 47] := hb75 h73
      refine G.yl (yl_assign rfl) rfl rfl rfl ?_
      refine G.nil ?_
      refine QA.then_normal ?_
      refine C.seq ?_
      refine C.region ?_
      refine G.yl (yl_move rfl) rfl rfl rfl ?_
      refine G.yl (yl_fieldAddr fo47_7 rfl) rfl rfl rfl ?_
      refine G.yl (yl_load (v := (v16 i.Port)) ag45 rfl (View.at_ (j := 6) (View.span_tail (Sat.pick [8] h72).isBlk.view0) rfl)) rfl rfl rfl ?_
      refine G.yl (yl_16to64 us45 Try.underlying28 rfl) rfl rfl rfl ?_
      obtain ⟨r3_7, hy76, hm⟩ := sp_bind hm
      refine G.does (does_fn 0 rfl rfl rfl en90 h72 (fun U hU hp hr hs => M_signpostref01_Put_v_w (b := r3_6) (n := i.Port.toUInt64) (width := 2) (Rest.view hr) (Sat.own_cap h72).1 hp hy76)) rfl rfl rfl ?_
      rintro _ w79 ⟨U82, hb83, r177, r278, rfl, h81⟩
      have h80 : Sat W w79 [ow elU8 r177 r278 5 r3_7, ow elU8 r169 r270 5 r3_6, ow elU8 r161 r262 5 r3_5, ow elU8 a56 c57 5 (r3_4 ++ ([0] : List UInt8)), ow elU8 a52 1 5 ([0] : List UInt8), ow elU8 r128 r229 5 r3_3, ow elU8 r120 r221 5 r3_2, ow elU8 a15 c16 5 (([] : List UInt8) ++ (List.ofFn i.Publisher)), ow elU8 a11 0 5 ([] : List UInt8), blk b1 (bytesV (List.ofFn (n := 20) i.Publisher) ++ ([(v64 i.Seq), (v64 i.Born), (v32 i.Life), (.bool i.Gone), (v16 i.Priority), (v16 i.Weight), (v16 i.Port), (.string (str i.Target))] : List Value)) 47] := hb83 h81
      refine G.yl (yl_assign rfl) rfl rfl rfl ?_
      refine G.nil ?_
      refine QA.then_normal ?_
      refine C.seq ?_
      refine C.region ?_
      refine G.yl (yl_move rfl) rfl rfl rfl ?_
      refine G.yl (yl_fieldAddr fo47_8 rfl) rfl rfl rfl ?_
      refine G.yl (yl_load (v := (.string (str i.Target))) ag9 rfl (View.at_ (j := 7) (View.span_tail (Sat.pick [9] h80).isBlk.view0) rfl)) rfl rfl rfl ?_
      obtain ⟨⟨r3_8, r4_2⟩, hy84, hm⟩ := sp_bind hm
      refine G.does (does_fn 0 rfl rfl rfl en91 h80 (fun U hU hp hr hs => M_signpostref01_Text_v_w (b := r3_7) (s := i.Target) (Rest.view hr) (Sat.own_cap h80).1 hp hy84)) rfl rfl rfl ?_
      rintro _ w87 ⟨U90, hb91, r185, r286, rfl, h89⟩
      have h88 : Sat W w87 [ow elU8 r185 r286 5 r3_8, ow elU8 r177 r278 5 r3_7, ow elU8 r169 r270 5 r3_6, ow elU8 r161 r262 5 r3_5, ow elU8 a56 c57 5 (r3_4 ++ ([0] : List UInt8)), ow elU8 a52 1 5 ([0] : List UInt8), ow elU8 r128 r229 5 r3_3, ow elU8 r120 r221 5 r3_2, ow elU8 a15 c16 5 (([] : List UInt8) ++ (List.ofFn i.Publisher)), ow elU8 a11 0 5 ([] : List UInt8), blk b1 (bytesV (List.ofFn (n := 20) i.Publisher) ++ ([(v64 i.Seq), (v64 i.Born), (v32 i.Life), (.bool i.Gone), (v16 i.Priority), (v16 i.Weight), (v16 i.Port), (.string (str i.Target))] : List Value)) 47] := hb91 h89
      refine G.yl (yl_move rfl) rfl rfl rfl ?_
      refine G.yl (yl_extract rfl rfl) rfl rfl rfl ?_
      refine G.yl (yl_extract rfl rfl) rfl rfl rfl ?_
      refine G.yl (yl_assign rfl) rfl rfl rfl ?_
      refine G.nil ?_
      refine QA.then_normal ?_
      refine C.seq ?_
      refine C.region ?_
      refine G.yl (yl_move rfl) rfl rfl rfl ?_
      refine G.yl (yl_assign rfl) rfl rfl rfl ?_
      refine G.yl (yl_assign rfl) rfl rfl rfl ?_
      refine G.nil ?_
      refine QA.then_normal ?_
      refine C.ret ?_
      refine QA.ret2 rfl rfl rfl ?_
      obtain ⟨rfl, rfl⟩ := sp_ret2 hm
      exact ⟨r185, r286, rfl, (Sat.pick [0] h88)⟩
  · refine C.cond_t rfl (not_t hc10) ?_
    refine C.seq ?_
    refine C.region ?_
    refine G.yl (yl_assign rfl) rfl rfl rfl ?_
    refine G.yl (yl_assign rfl) rfl rfl rfl ?_
    refine G.nil ?_
    refine QA.then_normal ?_
    refine C.ret ?_
    refine QA.then_ret ?_
    refine QA.ret2 rfl rfl rfl ?_
    obtain ⟨rfl, rfl⟩ := sp_ret2 hm
    exact ⟨none, 0, rfl, (Sat.pick [0] (Sat.own_zero h6 elU8 none 5))⟩
set_option maxRecDepth 20000 in
set_option maxHeartbeats 1000000 in
theorem M_signpostref11_End_w {W : Base} {w : World} {i : G_api_Instance}  (h : Sat W w []) {r1 : UInt64} (hm : M_signpostref11_End i = some r1) :
    Calls Try.prog 35 #[(.agg (bytesV (List.ofFn (n := 20) i.Publisher) ++ ([(v64 i.Seq), (v64 i.Born), (v32 i.Life), (.bool i.Gone), (v16 i.Priority), (v16 i.Weight), (v16 i.Port), (.string (str i.Target))] : List Value)).toArray)] w (Ret fun v w' => v = (v64 r1) ∧ Sat W w' []) := by
  unfold M_signpostref11_End at hm
  refine C.enter (N := 16) Try.func35 rfl Try.ntmps35 rfl ?_
  show C _ _ _ [(0, (.agg (bytesV (List.ofFn (n := 20) i.Publisher) ++ ([(v64 i.Seq), (v64 i.Born), (v32 i.Life), (.bool i.Gone), (v16 i.Priority), (v16 i.Weight), (v16 i.Port), (.string (str i.Target))] : List Value)).toArray))] _ _
  refine C.seq ?_
  refine C.region ?_
  refine G.does (does_box (cs := (bytesV (List.ofFn (n := 20) i.Publisher) ++ ([(v64 i.Seq), (v64 i.Born), (v32 i.Life), (.bool i.Gone), (v16 i.Priority), (v16 i.Weight), (v16 i.Port), (.string (str i.Target))] : List Value))) h rfl rfl) rfl rfl rfl ?_
  rintro _ w2 ⟨b1, rfl, h3⟩
  refine G.yl (yl_assign rfl) rfl rfl rfl ?_
  refine G.nil ?_
  refine QA.then_normal ?_
  refine C.seq ?_
  refine C.seq ?_
  refine C.region ?_
  refine G.yl (yl_fieldAddr fo47_2 rfl) rfl rfl rfl ?_
  refine G.yl (yl_load (v := (v64 i.Born)) ag28 rfl (View.at_ (j := 1) (View.span_tail h3.isBlk.view0) rfl)) rfl rfl rfl ?_
  refine G.yl (yl_fieldAddr fo47_3 rfl) rfl rfl rfl ?_
  refine G.yl (yl_load (v := (v32 i.Life)) ag44 rfl (View.at_ (j := 2) (View.span_tail h3.isBlk.view0) rfl)) rfl rfl rfl ?_
  refine G.yl (yl_32to64 us44 Try.underlying28 rfl) rfl rfl rfl ?_
  refine G.yl (yl_sub64 (a := 18446744073709551615) rfl rfl) rfl rfl rfl ?_
  refine G.yl (yl_gt64 rfl rfl) rfl rfl rfl ?_
  refine G.nil ?_
  refine QA.then_normal ?_
  rcases sp_ite hm with ⟨hc4, hm⟩ | ⟨hc4, hm⟩
  · refine C.cond_t rfl (dec_t hc4) ?_
    refine C.seq ?_
    refine C.region ?_
    refine G.yl (yl_assign rfl) rfl rfl rfl ?_
    refine G.nil ?_
    refine QA.then_normal ?_
    refine C.ret ?_
    refine QA.then_ret ?_
    refine QA.ret1 rfl rfl ?_
    obtain rfl := sp_ret1 hm
    exact ⟨rfl, (Sat.pick [] h3)⟩
  · refine C.cond_f rfl (dec_f hc4) ?_
    refine C.skip ?_
    refine QA.then_normal ?_
    refine C.seq ?_
    refine C.region ?_
    refine G.yl (yl_fieldAddr fo47_2 rfl) rfl rfl rfl ?_
    refine G.yl (yl_load (v := (v64 i.Born)) ag28 rfl (View.at_ (j := 1) (View.span_tail h3.isBlk.view0) rfl)) rfl rfl rfl ?_
    refine G.yl (yl_fieldAddr fo47_3 rfl) rfl rfl rfl ?_
    refine G.yl (yl_load (v := (v32 i.Life)) ag44 rfl (View.at_ (j := 2) (View.span_tail h3.isBlk.view0) rfl)) rfl rfl rfl ?_
    refine G.yl (yl_32to64 us44 Try.underlying28 rfl) rfl rfl rfl ?_
    refine G.yl (yl_add64 rfl rfl) rfl rfl rfl ?_
    refine G.yl (yl_assign rfl) rfl rfl rfl ?_
    refine G.nil ?_
    refine QA.then_normal ?_
    refine C.ret ?_
    refine QA.ret1 rfl rfl ?_
    obtain rfl := sp_ret1 hm
    exact ⟨rfl, (Sat.pick [] h3)⟩
set_option maxRecDepth 20000 in
set_option maxHeartbeats 1000000 in
theorem M_signpostref11_Alive_w {W : Base} {w : World} {i : G_api_Instance} {now : UInt64}  (h : Sat W w []) {r1 : Bool} (hm : M_signpostref11_Alive i now = some r1) :
    Calls Try.prog 37 #[(.agg (bytesV (List.ofFn (n := 20) i.Publisher) ++ ([(v64 i.Seq), (v64 i.Born), (v32 i.Life), (.bool i.Gone), (v16 i.Priority), (v16 i.Weight), (v16 i.Port), (.string (str i.Target))] : List Value)).toArray), (v64 now)] w (Ret fun v w' => v = (.bool r1) ∧ Sat W w' []) := by
  unfold M_signpostref11_Alive at hm
  refine C.enter (N := 15) Try.func37 rfl Try.ntmps37 rfl ?_
  show C _ _ _ [(0, (.agg (bytesV (List.ofFn (n := 20) i.Publisher) ++ ([(v64 i.Seq), (v64 i.Born), (v32 i.Life), (.bool i.Gone), (v16 i.Priority), (v16 i.Weight), (v16 i.Port), (.string (str i.Target))] : List Value)).toArray)), (1, (v64 now))] _ _
  refine C.seq ?_
  refine C.region ?_
  refine G.does (does_box (cs := (bytesV (List.ofFn (n := 20) i.Publisher) ++ ([(v64 i.Seq), (v64 i.Born), (v32 i.Life), (.bool i.Gone), (v16 i.Priority), (v16 i.Weight), (v16 i.Port), (.string (str i.Target))] : List Value))) h rfl rfl) rfl rfl rfl ?_
  rintro _ w2 ⟨b1, rfl, h3⟩
  refine G.yl (yl_assign rfl) rfl rfl rfl ?_
  refine G.nil ?_
  refine QA.then_normal ?_
  refine C.seq ?_
  refine C.region ?_
  refine G.yl (yl_move rfl) rfl rfl rfl ?_
  refine G.yl (yl_fieldAddr fo47_2 rfl) rfl rfl rfl ?_
  refine G.yl (yl_load (v := (v64 i.Born)) ag28 rfl (View.at_ (j := 1) (View.span_tail h3.isBlk.view0) rfl)) rfl rfl rfl ?_
  refine G.yl (yl_ge64 rfl rfl) rfl rfl rfl ?_
  refine G.yl (yl_move rfl) rfl rfl rfl ?_
  rcases sp_ite hm with ⟨hc4, hm⟩ | ⟨hc4, hm⟩
  · refine G.on rfl rfl (dec_t hc4) ?_
    refine G.yl (yl_move rfl) rfl rfl rfl ?_
    refine G.on rfl rfl (dec_t hc4) ?_
    refine G.yl (yl_loadN (vs := (bytesV (List.ofFn (n := 20) i.Publisher) ++ ([(v64 i.Seq), (v64 i.Born), (v32 i.Life), (.bool i.Gone), (v16 i.Priority), (v16 i.Weight), (v16 i.Port), (.string (str i.Target))] : List Value))) ag47 sz47 (by simp [bytesV_length]) rfl (h3.isBlk.view0)) rfl rfl rfl ?_
    refine G.on rfl rfl (dec_t hc4) ?_
    obtain ⟨r1_2, hy5, hm⟩ := sp_bind hm
    refine G.does (does_fn 0 rfl rfl rfl en35 h3 (fun U hU hp hr hs => M_signpostref11_End_w (i := i) hp hy5)) rfl rfl rfl ?_
    rintro _ w6 ⟨U9, hb10, rfl, h8⟩
    have h7 : Sat W w6 [blk b1 (bytesV (List.ofFn (n := 20) i.Publisher) ++ ([(v64 i.Seq), (v64 i.Born), (v32 i.Life), (.bool i.Gone), (v16 i.Priority), (v16 i.Weight), (v16 i.Port), (.string (str i.Target))] : List Value)) 47] := hb10 h8
    refine G.on rfl rfl (dec_t hc4) ?_
    refine G.yl (yl_lt64 rfl rfl) rfl rfl rfl ?_
    refine G.yl (yl_pick_t rfl (dec_t hc4) rfl) rfl rfl rfl ?_
    refine G.yl (yl_assign rfl) rfl rfl rfl ?_
    refine G.nil ?_
    refine QA.then_normal ?_
    refine C.ret ?_
    refine QA.ret1 rfl rfl ?_
    obtain rfl := sp_ret1 hm
    exact ⟨rfl, (Sat.pick [] h7)⟩
  · refine G.offU rfl rfl (dec_f hc4) rfl ?_
    refine G.offU rfl rfl (dec_f hc4) rfl ?_
    refine G.offU rfl rfl (dec_f hc4) rfl ?_
    refine G.offU rfl rfl (dec_f hc4) rfl ?_
    refine G.yl (yl_pick_f rfl (dec_f hc4) rfl) rfl rfl rfl ?_
    refine G.yl (yl_assign rfl) rfl rfl rfl ?_
    refine G.nil ?_
    refine QA.then_normal ?_
    refine C.ret ?_
    refine QA.ret1 rfl rfl ?_
    obtain rfl := sp_ret1 hm
    exact ⟨rfl, (Sat.pick [] h3)⟩
end Go.Proofs.Ytgabplankmljfaa
