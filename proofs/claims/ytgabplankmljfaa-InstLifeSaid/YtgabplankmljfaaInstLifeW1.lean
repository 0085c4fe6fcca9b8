/-
  That the functions of the program compute what their Lean functions say, part 1. No condition.
-/
import Derived.Test.YtgabplankmljfaaInstLifeW0
namespace Go.Proofs.Ytgabplankmljfaa
open Go Go.RowKit
set_option linter.unusedVariables false
set_option linter.unusedSimpArgs false
set_option linter.unnecessarySimpa false
set_option maxRecDepth 20000 in
set_option maxHeartbeats 1000000 in
theorem M_signpostlaw11_lives_w {W : Base} {w : World}   (h : Sat W w []) {r1 : Bool} (hm : M_signpostlaw11_lives = some r1) :
    Calls Try.prog 29 #[] w (Ret fun v w' => v = (.bool r1) ∧ Sat W w' []) := by
  unfold M_signpostlaw11_lives at hm
  refine C.enter (N := 40) Try.func29 rfl Try.ntmps29 rfl ?_
  show C _ _ _ [] _ _
  refine C.seq ?_
  refine C.region ?_
  refine G.yl (yl_assign rfl) rfl rfl rfl ?_
  refine G.nil ?_
  refine QA.then_normal ?_
  refine C.seq ?_
  refine C.region ?_
  refine G.yl (yl_build (vs := [(.int .u64 5), (.int .u32 3), (.int .u16 80), (.string (str ([97] : List UInt8)))]) (cells := (bytesV (List.ofFn (n := 20) (fun _ => 0)) ++ ([(.int .u64 0), (.int .u64 5), (.int .u32 3), (.bool false), (.int .u16 0), (.int .u16 0), (.int .u16 80), (.string (str ([97] : List UInt8)))] : List Value)).toArray) rfl (by kernel_rfl)) rfl rfl rfl ?_
  refine G.does (does_alloc (cs := (bytesV (List.ofFn (n := 20) (fun _ => 0)) ++ ([(.int .u64 0), (.int .u64 0), (.int .u32 0), (.bool false), (.int .u16 0), (.int .u16 0), (.int .u16 0), (.string (str ([] : List UInt8)))] : List Value))) h z47 rfl) rfl rfl rfl ?_
  rintro _ w2 ⟨b1, rfl, h3⟩
  refine G.unit (does_store (vs := (bytesV (List.ofFn (n := 20) (fun _ => 0)) ++ ([(.int .u64 0), (.int .u64 5), (.int .u32 3), (.bool false), (.int .u16 0), (.int .u16 0), (.int .u16 80), (.string (str ([97] : List UInt8)))] : List Value))) h3 sz47 rfl rfl rfl (by simp [bytesV_length]) (List.forall_mem_append.2 ⟨(bytesV_one _), (List.forall_mem_cons.2 ⟨rfl, (List.forall_mem_cons.2 ⟨rfl, (List.forall_mem_cons.2 ⟨rfl, (List.forall_mem_cons.2 ⟨rfl, (List.forall_mem_cons.2 ⟨rfl, (List.forall_mem_cons.2 ⟨rfl, (List.forall_mem_cons.2 ⟨rfl, (List.forall_mem_cons.2 ⟨rfl, (fun _ hh => by cases hh)⟩)⟩)⟩)⟩)⟩)⟩)⟩)⟩)⟩) (by simp [bytesV_length])) rfl rfl ?_
  rintro _ w4 h6
  have h5 : Sat W w4 [blk b1 (bytesV (List.ofFn (n := 20) (fun _ => 0)) ++ ([(.int .u64 0), (.int .u64 5), (.int .u32 3), (.bool false), (.int .u16 0), (.int .u16 0), (.int .u16 80), (.string (str ([97] : List UInt8)))] : List Value)) 47] := sl_blk (setN_all _ _ (by simp [bytesV_length])) h6
  refine G.nil ?_
  refine QA.then_normal ?_
  refine C.seq ?_
  refine C.region ?_
  refine G.yl (yl_loadN (vs := (bytesV (List.ofFn (n := 20) (fun _ => 0)) ++ ([(.int .u64 0), (.int .u64 5), (.int .u32 3), (.bool false), (.int .u16 0), (.int .u16 0), (.int .u16 80), (.string (str ([97] : List UInt8)))] : List Value))) ag47 sz47 (by simp [bytesV_length]) rfl (h5.isBlk.view0)) rfl rfl rfl ?_
  obtain ⟨⟨r3_2, r4_2⟩, hy7, hm⟩ := sp_bind hm
  refine G.does (does_fn 0 rfl rfl rfl en30 h5 (fun U hU hp hr hs => M_inst_Bytes_w (i := (G_api_Instance.mk (fun _ => 0) 0 5 3 false 0 0 80 ([97] : List UInt8))) hp hy7)) rfl rfl rfl ?_
  rintro _ w10 ⟨U13, hb14, r18, r29, rfl, h12⟩
  have h11 : Sat W w10 [ow elU8 r18 r29 5 r3_2, blk b1 (bytesV (List.ofFn (n := 20) (fun _ => 0)) ++ ([(.int .u64 0), (.int .u64 5), (.int .u32 3), (.bool false), (.int .u16 0), (.int .u16 0), (.int .u16 80), (.string (str ([97] : List UInt8)))] : List Value)) 47] := hb14 h12
  refine G.yl (yl_move rfl) rfl rfl rfl ?_
  refine G.yl (yl_extract rfl rfl) rfl rfl rfl ?_
  refine G.yl (yl_extract rfl rfl) rfl rfl rfl ?_
  refine G.yl (yl_assign rfl) rfl rfl rfl ?_
  refine G.yl (yl_assign rfl) rfl rfl rfl ?_
  refine G.nil ?_
  refine QA.then_normal ?_
  refine C.seq ?_
  refine C.region ?_
  refine G.yl (yl_loadN (vs := (bytesV (List.ofFn (n := 20) (fun _ => 0)) ++ ([(.int .u64 0), (.int .u64 5), (.int .u32 3), (.bool false), (.int .u16 0), (.int .u16 0), (.int .u16 80), (.string (str ([97] : List UInt8)))] : List Value))) ag47 sz47 (by simp [bytesV_length]) rfl ((Sat.pick [1] h11).isBlk.view0)) rfl rfl rfl ?_
  obtain ⟨r1_2, hy15, hm⟩ := sp_bind hm
  refine G.does (does_fn 0 rfl rfl rfl en32 h11 (fun U hU hp hr hs => M_inst_Good_w (i := (G_api_Instance.mk (fun _ => 0) 0 5 3 false 0 0 80 ([97] : List UInt8))) hp hy15)) rfl rfl rfl ?_
  rintro _ w16 ⟨U19, hb20, rfl, h18⟩
  have h17 : Sat W w16 [ow elU8 r18 r29 5 r3_2, blk b1 (bytesV (List.ofFn (n := 20) (fun _ => 0)) ++ ([(.int .u64 0), (.int .u64 5), (.int .u32 3), (.bool false), (.int .u16 0), (.int .u16 0), (.int .u16 80), (.string (str ([97] : List UInt8)))] : List Value)) 47] := hb20 h18
  refine G.yl (yl_move rfl) rfl rfl rfl ?_
  rcases sp_b hm with ⟨hc21, hm⟩ | ⟨hc21, hm⟩
  · refine G.on rfl rfl hc21 ?_
    refine G.yl (yl_loadN (vs := (bytesV (List.ofFn (n := 20) (fun _ => 0)) ++ ([(.int .u64 0), (.int .u64 5), (.int .u32 3), (.bool false), (.int .u16 0), (.int .u16 0), (.int .u16 80), (.string (str ([97] : List UInt8)))] : List Value))) ag47 sz47 (by simp [bytesV_length]) rfl ((Sat.pick [1] h17).isBlk.view0)) rfl rfl rfl ?_
    refine G.on rfl rfl hc21 ?_
    obtain ⟨r1_3, hy22, hm⟩ := sp_bind hm
    refine G.does (does_fn 0 rfl rfl rfl en36 h17 (fun U hU hp hr hs => M_inst_Alive_w (i := (G_api_Instance.mk (fun _ => 0) 0 5 3 false 0 0 80 ([97] : List UInt8))) (now := 4) hp hy22)) rfl rfl rfl ?_
    rintro _ w23 ⟨U26, hb27, rfl, h25⟩
    have h24 : Sat W w23 [ow elU8 r18 r29 5 r3_2, blk b1 (bytesV (List.ofFn (n := 20) (fun _ => 0)) ++ ([(.int .u64 0), (.int .u64 5), (.int .u32 3), (.bool false), (.int .u16 0), (.int .u16 0), (.int .u16 80), (.string (str ([97] : List UInt8)))] : List Value)) 47] := hb27 h25
    refine G.on rfl rfl hc21 ?_
    refine G.yl (yl_not rfl) rfl rfl rfl ?_
    refine G.yl (yl_pick_t rfl hc21 rfl) rfl rfl rfl ?_
    refine G.yl (yl_move rfl) rfl rfl rfl ?_
    rcases sp_b hm with ⟨hc28, hm⟩ | ⟨hc28, hm⟩
    · refine G.offU rfl rfl (not_f hc28) rfl ?_
      refine G.offU rfl rfl (not_f hc28) rfl ?_
      refine G.yl (yl_pick_f rfl (not_f hc28) rfl) rfl rfl rfl ?_
      refine G.yl (yl_move rfl) rfl rfl rfl ?_
      refine G.offU rfl rfl rfl rfl ?_
      refine G.offU rfl rfl rfl rfl ?_
      refine G.offU rfl rfl rfl rfl ?_
      refine G.yl (yl_pick_f rfl rfl rfl) rfl rfl rfl ?_
      refine G.yl (yl_move rfl) rfl rfl rfl ?_
      refine G.offU rfl rfl rfl rfl ?_
      refine G.offU rfl rfl rfl rfl ?_
      refine G.offU rfl rfl rfl rfl ?_
      refine G.yl (yl_pick_f rfl rfl rfl) rfl rfl rfl ?_
      refine G.yl (yl_move rfl) rfl rfl rfl ?_
      refine G.offU rfl rfl rfl rfl ?_
      refine G.offU rfl rfl rfl rfl ?_
      refine G.yl (yl_pick_f rfl rfl rfl) rfl rfl rfl ?_
      refine G.yl (yl_move rfl) rfl rfl rfl ?_
      refine G.offU rfl rfl rfl rfl ?_
      refine G.offU rfl rfl rfl rfl ?_
      refine G.offU rfl rfl rfl rfl ?_
      refine G.yl (yl_pick_f rfl rfl rfl) rfl rfl rfl ?_
      refine G.yl (yl_assign rfl) rfl rfl rfl ?_
      refine G.nil ?_
      refine QA.then_normal ?_
      refine C.ret ?_
      refine QA.ret1 rfl rfl ?_
      obtain rfl := sp_ret1 hm
      exact ⟨rfl, (Sat.pick [] h24)⟩
    · refine G.on rfl rfl (not_t hc28) ?_
      refine G.yl (yl_loadN (vs := (bytesV (List.ofFn (n := 20) (fun _ => 0)) ++ ([(.int .u64 0), (.int .u64 5), (.int .u32 3), (.bool false), (.int .u16 0), (.int .u16 0), (.int .u16 80), (.string (str ([97] : List UInt8)))] : List Value))) ag47 sz47 (by simp [bytesV_length]) rfl ((Sat.pick [1] h24).isBlk.view0)) rfl rfl rfl ?_
      refine G.on rfl rfl (not_t hc28) ?_
      obtain ⟨r1_4, hy29, hm⟩ := sp_bind hm
      refine G.does (does_fn 0 rfl rfl rfl en36 h24 (fun U hU hp hr hs => M_inst_Alive_w (i := (G_api_Instance.mk (fun _ => 0) 0 5 3 false 0 0 80 ([97] : List UInt8))) (now := 5) hp hy29)) rfl rfl rfl ?_
      rintro _ w30 ⟨U33, hb34, rfl, h32⟩
      have h31 : Sat W w30 [ow elU8 r18 r29 5 r3_2, blk b1 (bytesV (List.ofFn (n := 20) (fun _ => 0)) ++ ([(.int .u64 0), (.int .u64 5), (.int .u32 3), (.bool false), (.int .u16 0), (.int .u16 0), (.int .u16 80), (.string (str ([97] : List UInt8)))] : List Value)) 47] := hb34 h32
      refine G.yl (yl_pick_t rfl (not_t hc28) rfl) rfl rfl rfl ?_
      refine G.yl (yl_move rfl) rfl rfl rfl ?_
      rcases sp_b hm with ⟨hc35, hm⟩ | ⟨hc35, hm⟩
      · refine G.on rfl rfl hc35 ?_
        refine G.yl (yl_loadN (vs := (bytesV (List.ofFn (n := 20) (fun _ => 0)) ++ ([(.int .u64 0), (.int .u64 5), (.int .u32 3), (.bool false), (.int .u16 0), (.int .u16 0), (.int .u16 80), (.string (str ([97] : List UInt8)))] : List Value))) ag47 sz47 (by simp [bytesV_length]) rfl ((Sat.pick [1] h31).isBlk.view0)) rfl rfl rfl ?_
        refine G.on rfl rfl hc35 ?_
        obtain ⟨r1_5, hy36, hm⟩ := sp_bind hm
        refine G.does (does_fn 0 rfl rfl rfl en36 h31 (fun U hU hp hr hs => M_inst_Alive_w (i := (G_api_Instance.mk (fun _ => 0) 0 5 3 false 0 0 80 ([97] : List UInt8))) (now := 8) hp hy36)) rfl rfl rfl ?_
        rintro _ w37 ⟨U40, hb41, rfl, h39⟩
        have h38 : Sat W w37 [ow elU8 r18 r29 5 r3_2, blk b1 (bytesV (List.ofFn (n := 20) (fun _ => 0)) ++ ([(.int .u64 0), (.int .u64 5), (.int .u32 3), (.bool false), (.int .u16 0), (.int .u16 0), (.int .u16 80), (.string (str ([97] : List UInt8)))] : List Value)) 47] := hb41 h39
        refine G.on rfl rfl hc35 ?_
        refine G.yl (yl_not rfl) rfl rfl rfl ?_
        refine G.yl (yl_pick_t rfl hc35 rfl) rfl rfl rfl ?_
        refine G.yl (yl_move rfl) rfl rfl rfl ?_
        rcases sp_b hm with ⟨hc42, hm⟩ | ⟨hc42, hm⟩
        · refine G.offU rfl rfl (not_f hc42) rfl ?_
          refine G.offU rfl rfl (not_f hc42) rfl ?_
          refine G.offU rfl rfl (not_f hc42) rfl ?_
          refine G.yl (yl_pick_f rfl (not_f hc42) rfl) rfl rfl rfl ?_
          refine G.yl (yl_move rfl) rfl rfl rfl ?_
          refine G.offU rfl rfl rfl rfl ?_
          refine G.offU rfl rfl rfl rfl ?_
          refine G.yl (yl_pick_f rfl rfl rfl) rfl rfl rfl ?_
          refine G.yl (yl_move rfl) rfl rfl rfl ?_
          refine G.offU rfl rfl rfl rfl ?_
          refine G.offU rfl rfl rfl rfl ?_
          refine G.offU rfl rfl rfl rfl ?_
          refine G.yl (yl_pick_f rfl rfl rfl) rfl rfl rfl ?_
          refine G.yl (yl_assign rfl) rfl rfl rfl ?_
          refine G.nil ?_
          refine QA.then_normal ?_
          refine C.ret ?_
          refine QA.ret1 rfl rfl ?_
          obtain rfl := sp_ret1 hm
          exact ⟨rfl, (Sat.pick [] h38)⟩
        · refine G.on rfl rfl (not_t hc42) ?_
          refine G.yl (yl_loadN (vs := (bytesV (List.ofFn (n := 20) (fun _ => 0)) ++ ([(.int .u64 0), (.int .u64 5), (.int .u32 3), (.bool false), (.int .u16 0), (.int .u16 0), (.int .u16 80), (.string (str ([97] : List UInt8)))] : List Value))) ag47 sz47 (by simp [bytesV_length]) rfl ((Sat.pick [1] h38).isBlk.view0)) rfl rfl rfl ?_
          refine G.on rfl rfl (not_t hc42) ?_
          obtain ⟨r1_6, hy43, hm⟩ := sp_bind hm
          refine G.does (does_fn 0 rfl rfl rfl en38 h38 (fun U hU hp hr hs => M_inst_Left_w (i := (G_api_Instance.mk (fun _ => 0) 0 5 3 false 0 0 80 ([97] : List UInt8))) (now := 6) hp hy43)) rfl rfl rfl ?_
          rintro _ w44 ⟨U47, hb48, rfl, h46⟩
          have h45 : Sat W w44 [ow elU8 r18 r29 5 r3_2, blk b1 (bytesV (List.ofFn (n := 20) (fun _ => 0)) ++ ([(.int .u64 0), (.int .u64 5), (.int .u32 3), (.bool false), (.int .u16 0), (.int .u16 0), (.int .u16 80), (.string (str ([97] : List UInt8)))] : List Value)) 47] := hb48 h46
          refine G.on rfl rfl (not_t hc42) ?_
          refine G.yl (yl_eq32 (b := 2) rfl rfl) rfl rfl rfl ?_
          refine G.yl (yl_pick_t rfl (not_t hc42) rfl) rfl rfl rfl ?_
          refine G.yl (yl_move rfl) rfl rfl rfl ?_
          rcases sp_ite hm with ⟨hc49, hm⟩ | ⟨hc49, hm⟩
          · refine G.on rfl rfl (dec_t hc49) ?_
            refine G.yl (yl_move rfl) rfl rfl rfl ?_
            refine G.on rfl rfl (dec_t hc49) ?_
            refine G.yl (yl_eqI rfl rfl) rfl rfl rfl ?_
            refine G.yl (yl_pick_t rfl (dec_t hc49) rfl) rfl rfl rfl ?_
            refine G.yl (yl_move rfl) rfl rfl rfl ?_
            rcases sp_ite hm with ⟨hc50, hm⟩ | ⟨hc50, hm⟩
            · refine G.on rfl rfl (dec_t hc50) ?_
              refine G.yl (yl_move rfl) rfl rfl rfl ?_
              refine G.on rfl rfl (dec_t hc50) ?_
              refine G.yl (yl_lenE Try.underlying49 rfl) rfl rfl rfl ?_
              refine G.on rfl rfl (dec_t hc50) ?_
              refine G.yl (yl_eqI rfl rfl) rfl rfl rfl ?_
              refine G.yl (yl_pick_t rfl (dec_t hc50) rfl) rfl rfl rfl ?_
              refine G.yl (yl_assign rfl) rfl rfl rfl ?_
              refine G.nil ?_
              refine QA.then_normal ?_
              refine C.ret ?_
              refine QA.ret1 rfl rfl ?_
              obtain rfl := sp_ret1 hm
              exact ⟨rfl, (Sat.pick [] h45)⟩
            · refine G.offU rfl rfl (dec_f hc50) rfl ?_
              refine G.offU rfl rfl (dec_f hc50) rfl ?_
              refine G.offU rfl rfl (dec_f hc50) rfl ?_
              refine G.yl (yl_pick_f rfl (dec_f hc50) rfl) rfl rfl rfl ?_
              refine G.yl (yl_assign rfl) rfl rfl rfl ?_
              refine G.nil ?_
              refine QA.then_normal ?_
              refine C.ret ?_
              refine QA.ret1 rfl rfl ?_
              obtain rfl := sp_ret1 hm
              exact ⟨rfl, (Sat.pick [] h45)⟩
          · refine G.offU rfl rfl (dec_f hc49) rfl ?_
            refine G.offU rfl rfl (dec_f hc49) rfl ?_
            refine G.yl (yl_pick_f rfl (dec_f hc49) rfl) rfl rfl rfl ?_
            refine G.yl (yl_move rfl) rfl rfl rfl ?_
            refine G.offU rfl rfl rfl rfl ?_
            refine G.offU rfl rfl rfl rfl ?_
            refine G.offU rfl rfl rfl rfl ?_
            refine G.yl (yl_pick_f rfl rfl rfl) rfl rfl rfl ?_
            refine G.yl (yl_assign rfl) rfl rfl rfl ?_
            refine G.nil ?_
            refine QA.then_normal ?_
            refine C.ret ?_
            refine QA.ret1 rfl rfl ?_
            obtain rfl := sp_ret1 hm
            exact ⟨rfl, (Sat.pick [] h45)⟩
      · refine G.offU rfl rfl hc35 rfl ?_
        refine G.offU rfl rfl hc35 rfl ?_
        refine G.offU rfl rfl hc35 rfl ?_
        refine G.yl (yl_pick_f rfl hc35 rfl) rfl rfl rfl ?_
        refine G.yl (yl_move rfl) rfl rfl rfl ?_
        refine G.offU rfl rfl rfl rfl ?_
        refine G.offU rfl rfl rfl rfl ?_
        refine G.offU rfl rfl rfl rfl ?_
        refine G.yl (yl_pick_f rfl rfl rfl) rfl rfl rfl ?_
        refine G.yl (yl_move rfl) rfl rfl rfl ?_
        refine G.offU rfl rfl rfl rfl ?_
        refine G.offU rfl rfl rfl rfl ?_
        refine G.yl (yl_pick_f rfl rfl rfl) rfl rfl rfl ?_
        refine G.yl (yl_move rfl) rfl rfl rfl ?_
        refine G.offU rfl rfl rfl rfl ?_
        refine G.offU rfl rfl rfl rfl ?_
        refine G.offU rfl rfl rfl rfl ?_
        refine G.yl (yl_pick_f rfl rfl rfl) rfl rfl rfl ?_
        refine G.yl (yl_assign rfl) rfl rfl rfl ?_
        refine G.nil ?_
        refine QA.then_normal ?_
        refine C.ret ?_
        refine QA.ret1 rfl rfl ?_
        obtain rfl := sp_ret1 hm
        exact ⟨rfl, (Sat.pick [] h31)⟩
  · refine G.offU rfl rfl hc21 rfl ?_
    refine G.offU rfl rfl hc21 rfl ?_
    refine G.offU rfl rfl hc21 rfl ?_
    refine G.yl (yl_pick_f rfl hc21 rfl) rfl rfl rfl ?_
    refine G.yl (yl_move rfl) rfl rfl rfl ?_
    refine G.offU rfl rfl rfl rfl ?_
    refine G.offU rfl rfl rfl rfl ?_
    refine G.yl (yl_pick_f rfl rfl rfl) rfl rfl rfl ?_
    refine G.yl (yl_move rfl) rfl rfl rfl ?_
    refine G.offU rfl rfl rfl rfl ?_
    refine G.offU rfl rfl rfl rfl ?_
    refine G.offU rfl rfl rfl rfl ?_
    refine G.yl (yl_pick_f rfl rfl rfl) rfl rfl rfl ?_
    refine G.yl (yl_move rfl) rfl rfl rfl ?_
    refine G.offU rfl rfl rfl rfl ?_
    refine G.offU rfl rfl rfl rfl ?_
    refine G.offU rfl rfl rfl rfl ?_
    refine G.yl (yl_pick_f rfl rfl rfl) rfl rfl rfl ?_
    refine G.yl (yl_move rfl) rfl rfl rfl ?_
    refine G.offU rfl rfl rfl rfl ?_
    refine G.offU rfl rfl rfl rfl ?_
    refine G.yl (yl_pick_f rfl rfl rfl) rfl rfl rfl ?_
    refine G.yl (yl_move rfl) rfl rfl rfl ?_
    refine G.offU rfl rfl rfl rfl ?_
    refine G.offU rfl rfl rfl rfl ?_
    refine G.offU rfl rfl rfl rfl ?_
    refine G.yl (yl_pick_f rfl rfl rfl) rfl rfl rfl ?_
    refine G.yl (yl_assign rfl) rfl rfl rfl ?_
    refine G.nil ?_
    refine QA.then_normal ?_
    refine C.ret ?_
    refine QA.ret1 rfl rfl ?_
    obtain rfl := sp_ret1 hm
    exact ⟨rfl, (Sat.pick [] h17)⟩
set_option maxRecDepth 20000 in
set_option maxHeartbeats 1000000 in
theorem M_cmp_isNaN_uint64_w {W : Base} {w : World} {x : UInt64}  (h : Sat W w [])  (hm : M_cmp_isNaN_uint64 x = some ()) :
    Calls Try.prog 138 #[(v64 x)] w (Ret fun v w' => v = (.bool (!(decide (x = x)))) ∧ Sat W w' []) := by
  unfold M_cmp_isNaN_uint64 at hm
  refine C.enter (N := 6) Try.func138 rfl Try.ntmps138 rfl ?_
  show C _ _ _ [(0, (v64 x))] _ _
  refine C.seq ?_
  refine C.region ?_
  refine G.yl (yl_assign rfl) rfl rfl rfl ?_
  refine G.nil ?_
  refine QA.then_normal ?_
  refine C.seq ?_
  refine C.region ?_
  refine G.yl (yl_move rfl) rfl rfl rfl ?_
  refine G.yl (yl_move rfl) rfl rfl rfl ?_
  refine G.yl (yl_ne64 rfl rfl) rfl rfl rfl ?_
  refine G.yl (yl_assign rfl) rfl rfl rfl ?_
  refine G.nil ?_
  refine QA.then_normal ?_
  refine C.ret ?_
  refine QA.ret1 rfl rfl ?_
  exact ⟨rfl, (Sat.pick [] h)⟩
set_option maxRecDepth 20000 in
set_option maxHeartbeats 1000000 in
theorem M_cmp_Compare_uint64_w {W : Base} {w : World} {x : UInt64} {y_ : UInt64}  (h : Sat W w []) {r1 : Int} (hm : M_cmp_Compare_uint64 x y_ = some r1) :
    Calls Try.prog 96 #[(v64 x), (v64 y_)] w (Ret fun v w' => v = (vI r1) ∧ Sat W w' []) := by
  unfold M_cmp_Compare_uint64 at hm
  refine C.enter (N := 20) Try.func96 rfl Try.ntmps96 rfl ?_
  show C _ _ _ [(0, (v64 x)), (1, (v64 y_))] _ _
  refine C.seq ?_
  refine C.region ?_
  refine G.yl (yl_assign rfl) rfl rfl rfl ?_
  refine G.nil ?_
  refine QA.then_normal ?_
  refine C.seq ?_
  refine C.region ?_
  refine G.yl (yl_move rfl) rfl rfl rfl ?_
  obtain ⟨_, hy1, hm⟩ := sp_bind hm
  refine G.does (does_fn 0 rfl rfl rfl en138 h (fun U hU hp hr hs => M_cmp_isNaN_uint64_w (x := x) hp hy1)) rfl rfl rfl ?_
  rintro _ w2 ⟨U5, hb6, rfl, h4⟩
  have h3 : Sat W w2 [] := hb6 h4
  refine G.yl (yl_assign rfl) rfl rfl rfl ?_
  refine G.nil ?_
  refine QA.then_normal ?_
  refine C.seq ?_
  refine C.region ?_
  refine G.yl (yl_move rfl) rfl rfl rfl ?_
  obtain ⟨_, hy7, hm⟩ := sp_bind hm
  refine G.does (does_fn 0 rfl rfl rfl en138 h3 (fun U hU hp hr hs => M_cmp_isNaN_uint64_w (x := y_) hp hy7)) rfl rfl rfl ?_
  rintro _ w8 ⟨U11, hb12, rfl, h10⟩
  have h9 : Sat W w8 [] := hb12 h10
  refine G.yl (yl_assign rfl) rfl rfl rfl ?_
  refine G.nil ?_
  refine QA.then_normal ?_
  refine C.seq ?_
  refine C.seq ?_
  refine C.region ?_
  refine G.yl (yl_move rfl) rfl rfl rfl ?_
  refine G.nil ?_
  refine QA.then_normal ?_
  refine C.cond_f rfl (not_f (dec_t rfl)) ?_
  refine C.skip ?_
  refine QA.then_normal ?_
  refine C.seq ?_
  refine C.seq ?_
  refine C.region ?_
  refine G.yl (yl_move rfl) rfl rfl rfl ?_
  refine G.nil ?_
  refine QA.then_normal ?_
  refine C.cond_f rfl (not_f (dec_t rfl)) ?_
  refine C.skip ?_
  refine QA.then_normal ?_
  refine C.seq ?_
  refine C.seq ?_
  refine C.region ?_
  refine G.yl (yl_move rfl) rfl rfl rfl ?_
  refine G.yl (yl_move rfl) rfl rfl rfl ?_
  refine G.yl (yl_lt64 rfl rfl) rfl rfl rfl ?_
  refine G.nil ?_
  refine QA.then_normal ?_
  rcases sp_ite hm with ⟨hc13, hm⟩ | ⟨hc13, hm⟩
  · refine C.cond_t rfl (dec_t hc13) ?_
    refine C.seq ?_
    refine C.region ?_
    refine G.yl (yl_assign rfl) rfl rfl rfl ?_
    refine G.nil ?_
    refine QA.then_normal ?_
    refine C.ret ?_
    refine QA.then_ret ?_
    refine QA.ret1 rfl rfl ?_
    obtain rfl := sp_ret1 hm
    exact ⟨rfl, (Sat.pick [] h9)⟩
  · refine C.cond_f rfl (dec_f hc13) ?_
    refine C.skip ?_
    refine QA.then_normal ?_
    refine C.seq ?_
    refine C.seq ?_
    refine C.region ?_
    refine G.yl (yl_move rfl) rfl rfl rfl ?_
    refine G.yl (yl_move rfl) rfl rfl rfl ?_
    refine G.yl (yl_gt64 rfl rfl) rfl rfl rfl ?_
    refine G.nil ?_
    refine QA.then_normal ?_
    rcases sp_ite hm with ⟨hc14, hm⟩ | ⟨hc14, hm⟩
    · refine C.cond_t rfl (dec_t hc14) ?_
      refine C.seq ?_
      refine C.region ?_
      refine G.yl (yl_assign rfl) rfl rfl rfl ?_
      refine G.nil ?_
      refine QA.then_normal ?_
      refine C.ret ?_
      refine QA.then_ret ?_
      refine QA.ret1 rfl rfl ?_
      obtain rfl := sp_ret1 hm
      exact ⟨rfl, (Sat.pick [] h9)⟩
    · refine C.cond_f rfl (dec_f hc14) ?_
      refine C.skip ?_
      refine QA.then_normal ?_
      refine C.seq ?_
      refine C.region ?_
      refine G.yl (yl_assign rfl) rfl rfl rfl ?_
      refine G.nil ?_
      refine QA.then_normal ?_
      refine C.ret ?_
      refine QA.ret1 rfl rfl ?_
      obtain rfl := sp_ret1 hm
      exact ⟨rfl, (Sat.pick [] h9)⟩
set_option maxRecDepth 20000 in
set_option maxHeartbeats 1000000 in
theorem M_inst_bit_w {W : Base} {w : World} {is : Bool}  (h : Sat W w []) {r1 : Int} (hm : M_inst_bit is = some r1) :
    Calls Try.prog 97 #[(.bool is)] w (Ret fun v w' => v = (vI r1) ∧ Sat W w' []) := by
  unfold M_inst_bit at hm
  refine C.enter (N := 4) Try.func97 rfl Try.ntmps97 rfl ?_
  show C _ _ _ [(0, (.bool is))] _ _
  refine C.seq ?_
  refine C.region ?_
  refine G.yl (yl_assign rfl) rfl rfl rfl ?_
  refine G.nil ?_
  refine QA.then_normal ?_
  refine C.seq ?_
  refine C.seq ?_
  refine C.region ?_
  refine G.yl (yl_move rfl) rfl rfl rfl ?_
  refine G.nil ?_
  refine QA.then_normal ?_
  rcases sp_b hm with ⟨hc1, hm⟩ | ⟨hc1, hm⟩
  · refine C.cond_t rfl hc1 ?_
    refine C.seq ?_
    refine C.region ?_
    refine G.yl (yl_assign rfl) rfl rfl rfl ?_
    refine G.nil ?_
    refine QA.then_normal ?_
    refine C.ret ?_
    refine QA.then_ret ?_
    refine QA.ret1 rfl rfl ?_
    obtain rfl := sp_ret1 hm
    exact ⟨rfl, (Sat.pick [] h)⟩
  · refine C.cond_f rfl hc1 ?_
    refine C.skip ?_
    refine QA.then_normal ?_
    refine C.seq ?_
    refine C.region ?_
    refine G.yl (yl_assign rfl) rfl rfl rfl ?_
    refine G.nil ?_
    refine QA.then_normal ?_
    refine C.ret ?_
    refine QA.ret1 rfl rfl ?_
    obtain rfl := sp_ret1 hm
    exact ⟨rfl, (Sat.pick [] h)⟩
set_option maxRecDepth 20000 in
set_option maxHeartbeats 1000000 in
theorem M_cmp_isNaN_int_w {W : Base} {w : World} {x : Int}  (h : Sat W w [])  (hm : M_cmp_isNaN_int x = some ()) :
    Calls Try.prog 129 #[(vI x)] w (Ret fun v w' => v = (.bool (!(decide (x = x)))) ∧ Sat W w' []) := by
  unfold M_cmp_isNaN_int at hm
  refine C.enter (N := 6) Try.func129 rfl Try.ntmps129 rfl ?_
  show C _ _ _ [(0, (vI x))] _ _
  refine C.seq ?_
  refine C.region ?_
  refine G.yl (yl_assign rfl) rfl rfl rfl ?_
  refine G.nil ?_
  refine QA.then_normal ?_
  refine C.seq ?_
  refine C.region ?_
  refine G.yl (yl_move rfl) rfl rfl rfl ?_
  refine G.yl (yl_move rfl) rfl rfl rfl ?_
  refine G.yl (yl_neI rfl rfl) rfl rfl rfl ?_
  refine G.yl (yl_assign rfl) rfl rfl rfl ?_
  refine G.nil ?_
  refine QA.then_normal ?_
  refine C.ret ?_
  refine QA.ret1 rfl rfl ?_
  exact ⟨rfl, (Sat.pick [] h)⟩
set_option maxRecDepth 20000 in
set_option maxHeartbeats 1000000 in
theorem M_cmp_Compare_int_w {W : Base} {w : World} {x : Int} {y_ : Int}  (h : Sat W w []) {r1 : Int} (hm : M_cmp_Compare_int x y_ = some r1) :
    Calls Try.prog 74 #[(vI x), (vI y_)] w (Ret fun v w' => v = (vI r1) ∧ Sat W w' []) := by
  unfold M_cmp_Compare_int at hm
  refine C.enter (N := 20) Try.func74 rfl Try.ntmps74 rfl ?_
  show C _ _ _ [(0, (vI x)), (1, (vI y_))] _ _
  refine C.seq ?_
  refine C.region ?_
  refine G.yl (yl_assign rfl) rfl rfl rfl ?_
  refine G.nil ?_
  refine QA.then_normal ?_
  refine C.seq ?_
  refine C.region ?_
  refine G.yl (yl_move rfl) rfl rfl rfl ?_
  obtain ⟨_, hy1, hm⟩ := sp_bind hm
  refine G.does (does_fn 0 rfl rfl rfl en129 h (fun U hU hp hr hs => M_cmp_isNaN_int_w (x := x) hp hy1)) rfl rfl rfl ?_
  rintro _ w2 ⟨U5, hb6, rfl, h4⟩
  have h3 : Sat W w2 [] := hb6 h4
  refine G.yl (yl_assign rfl) rfl rfl rfl ?_
  refine G.nil ?_
  refine QA.then_normal ?_
  refine C.seq ?_
  refine C.region ?_
  refine G.yl (yl_move rfl) rfl rfl rfl ?_
  obtain ⟨_, hy7, hm⟩ := sp_bind hm
  refine G.does (does_fn 0 rfl rfl rfl en129 h3 (fun U hU hp hr hs => M_cmp_isNaN_int_w (x := y_) hp hy7)) rfl rfl rfl ?_
  rintro _ w8 ⟨U11, hb12, rfl, h10⟩
  have h9 : Sat W w8 [] := hb12 h10
  refine G.yl (yl_assign rfl) rfl rfl rfl ?_
  refine G.nil ?_
  refine QA.then_normal ?_
  refine C.seq ?_
  refine C.seq ?_
  refine C.region ?_
  refine G.yl (yl_move rfl) rfl rfl rfl ?_
  refine G.nil ?_
  refine QA.then_normal ?_
  refine C.cond_f rfl (not_f (dec_t rfl)) ?_
  refine C.skip ?_
  refine QA.then_normal ?_
  refine C.seq ?_
  refine C.seq ?_
  refine C.region ?_
  refine G.yl (yl_move rfl) rfl rfl rfl ?_
  refine G.nil ?_
  refine QA.then_normal ?_
  refine C.cond_f rfl (not_f (dec_t rfl)) ?_
  refine C.skip ?_
  refine QA.then_normal ?_
  refine C.seq ?_
  refine C.seq ?_
  refine C.region ?_
  refine G.yl (yl_move rfl) rfl rfl rfl ?_
  refine G.yl (yl_move rfl) rfl rfl rfl ?_
  refine G.yl (yl_ltI rfl rfl) rfl rfl rfl ?_
  refine G.nil ?_
  refine QA.then_normal ?_
  rcases sp_ite hm with ⟨hc13, hm⟩ | ⟨hc13, hm⟩
  · refine C.cond_t rfl (dec_t hc13) ?_
    refine C.seq ?_
    refine C.region ?_
    refine G.yl (yl_assign rfl) rfl rfl rfl ?_
    refine G.nil ?_
    refine QA.then_normal ?_
    refine C.ret ?_
    refine QA.then_ret ?_
    refine QA.ret1 rfl rfl ?_
    obtain rfl := sp_ret1 hm
    exact ⟨rfl, (Sat.pick [] h9)⟩
  · refine C.cond_f rfl (dec_f hc13) ?_
    refine C.skip ?_
    refine QA.then_normal ?_
    refine C.seq ?_
    refine C.seq ?_
    refine C.region ?_
    refine G.yl (yl_move rfl) rfl rfl rfl ?_
    refine G.yl (yl_move rfl) rfl rfl rfl ?_
    refine G.yl (yl_gtI rfl rfl) rfl rfl rfl ?_
    refine G.nil ?_
    refine QA.then_normal ?_
    rcases sp_ite hm with ⟨hc14, hm⟩ | ⟨hc14, hm⟩
    · refine C.cond_t rfl (dec_t hc14) ?_
      refine C.seq ?_
      refine C.region ?_
      refine G.yl (yl_assign rfl) rfl rfl rfl ?_
      refine G.nil ?_
      refine QA.then_normal ?_
      refine C.ret ?_
      refine QA.then_ret ?_
      refine QA.ret1 rfl rfl ?_
      obtain rfl := sp_ret1 hm
      exact ⟨rfl, (Sat.pick [] h9)⟩
    · refine C.cond_f rfl (dec_f hc14) ?_
      refine C.skip ?_
      refine QA.then_normal ?_
      refine C.seq ?_
      refine C.region ?_
      refine G.yl (yl_assign rfl) rfl rfl rfl ?_
      refine G.nil ?_
      refine QA.then_normal ?_
      refine C.ret ?_
      refine QA.ret1 rfl rfl ?_
      obtain rfl := sp_ret1 hm
      exact ⟨rfl, (Sat.pick [] h9)⟩
set_option maxRecDepth 20000 in
set_option maxHeartbeats 1000000 in
theorem M_cmp_isNaN_uint32_w {W : Base} {w : World} {x : UInt32}  (h : Sat W w [])  (hm : M_cmp_isNaN_uint32 x = some ()) :
    Calls Try.prog 139 #[(v32 x)] w (Ret fun v w' => v = (.bool (!(decide (x = x)))) ∧ Sat W w' []) := by
  unfold M_cmp_isNaN_uint32 at hm
  refine C.enter (N := 6) Try.func139 rfl Try.ntmps139 rfl ?_
  show C _ _ _ [(0, (v32 x))] _ _
  refine C.seq ?_
  refine C.region ?_
  refine G.yl (yl_assign rfl) rfl rfl rfl ?_
  refine G.nil ?_
  refine QA.then_normal ?_
  refine C.seq ?_
  refine C.region ?_
  refine G.yl (yl_move rfl) rfl rfl rfl ?_
  refine G.yl (yl_move rfl) rfl rfl rfl ?_
  refine G.yl (yl_ne32 rfl rfl) rfl rfl rfl ?_
  refine G.yl (yl_assign rfl) rfl rfl rfl ?_
  refine G.nil ?_
  refine QA.then_normal ?_
  refine C.ret ?_
  refine QA.ret1 rfl rfl ?_
  exact ⟨rfl, (Sat.pick [] h)⟩
set_option maxRecDepth 20000 in
set_option maxHeartbeats 1000000 in
theorem M_cmp_Compare_uint32_w {W : Base} {w : World} {x : UInt32} {y_ : UInt32}  (h : Sat W w []) {r1 : Int} (hm : M_cmp_Compare_uint32 x y_ = some r1) :
    Calls Try.prog 98 #[(v32 x), (v32 y_)] w (Ret fun v w' => v = (vI r1) ∧ Sat W w' []) := by
  unfold M_cmp_Compare_uint32 at hm
  refine C.enter (N := 20) Try.func98 rfl Try.ntmps98 rfl ?_
  show C _ _ _ [(0, (v32 x)), (1, (v32 y_))] _ _
  refine C.seq ?_
  refine C.region ?_
  refine G.yl (yl_assign rfl) rfl rfl rfl ?_
  refine G.nil ?_
  refine QA.then_normal ?_
  refine C.seq ?_
  refine C.region ?_
  refine G.yl (yl_move rfl) rfl rfl rfl ?_
  obtain ⟨_, hy1, hm⟩ := sp_bind hm
  refine G.does (does_fn 0 rfl rfl rfl en139 h (fun U hU hp hr hs => M_cmp_isNaN_uint32_w (x := x) hp hy1)) rfl rfl rfl ?_
  rintro _ w2 ⟨U5, hb6, rfl, h4⟩
  have h3 : Sat W w2 [] := hb6 h4
  refine G.yl (yl_assign rfl) rfl rfl rfl ?_
  refine G.nil ?_
  refine QA.then_normal ?_
  refine C.seq ?_
  refine C.region ?_
  refine G.yl (yl_move rfl) rfl rfl rfl ?_
  obtain ⟨_, hy7, hm⟩ := sp_bind hm
  refine G.does (does_fn 0 rfl rfl rfl en139 h3 (fun U hU hp hr hs => M_cmp_isNaN_uint32_w (x := y_) hp hy7)) rfl rfl rfl ?_
  rintro _ w8 ⟨U11, hb12, rfl, h10⟩
  have h9 : Sat W w8 [] := hb12 h10
  refine G.yl (yl_assign rfl) rfl rfl rfl ?_
  refine G.nil ?_
  refine QA.then_normal ?_
  refine C.seq ?_
  refine C.seq ?_
  refine C.region ?_
  refine G.yl (yl_move rfl) rfl rfl rfl ?_
  refine G.nil ?_
  refine QA.then_normal ?_
  refine C.cond_f rfl (not_f (dec_t rfl)) ?_
  refine C.skip ?_
  refine QA.then_normal ?_
  refine C.seq ?_
  refine C.seq ?_
  refine C.region ?_
  refine G.yl (yl_move rfl) rfl rfl rfl ?_
  refine G.nil ?_
  refine QA.then_normal ?_
  refine C.cond_f rfl (not_f (dec_t rfl)) ?_
  refine C.skip ?_
  refine QA.then_normal ?_
  refine C.seq ?_
  refine C.seq ?_
  refine C.region ?_
  refine G.yl (yl_move rfl) rfl rfl rfl ?_
  refine G.yl (yl_move rfl) rfl rfl rfl ?_
  refine G.yl (yl_lt32 rfl rfl) rfl rfl rfl ?_
  refine G.nil ?_
  refine QA.then_normal ?_
  rcases sp_ite hm with ⟨hc13, hm⟩ | ⟨hc13, hm⟩
  · refine C.cond_t rfl (dec_t hc13) ?_
    refine C.seq ?_
    refine C.region ?_
    refine G.yl (yl_assign rfl) rfl rfl rfl ?_
    refine G.nil ?_
    refine QA.then_normal ?_
    refine C.ret ?_
    refine QA.then_ret ?_
    refine QA.ret1 rfl rfl ?_
    obtain rfl := sp_ret1 hm
    exact ⟨rfl, (Sat.pick [] h9)⟩
  · refine C.cond_f rfl (dec_f hc13) ?_
    refine C.skip ?_
    refine QA.then_normal ?_
    refine C.seq ?_
    refine C.seq ?_
    refine C.region ?_
    refine G.yl (yl_move rfl) rfl rfl rfl ?_
    refine G.yl (yl_move rfl) rfl rfl rfl ?_
    refine G.yl (yl_gt32 rfl rfl) rfl rfl rfl ?_
    refine G.nil ?_
    refine QA.then_normal ?_
    rcases sp_ite hm with ⟨hc14, hm⟩ | ⟨hc14, hm⟩
    · refine C.cond_t rfl (dec_t hc14) ?_
      refine C.seq ?_
      refine C.region ?_
      refine G.yl (yl_assign rfl) rfl rfl rfl ?_
      refine G.nil ?_
      refine QA.then_normal ?_
      refine C.ret ?_
      refine QA.then_ret ?_
      refine QA.ret1 rfl rfl ?_
      obtain rfl := sp_ret1 hm
      exact ⟨rfl, (Sat.pick [] h9)⟩
    · refine C.cond_f rfl (dec_f hc14) ?_
      refine C.skip ?_
      refine QA.then_normal ?_
      refine C.seq ?_
      refine C.region ?_
      refine G.yl (yl_assign rfl) rfl rfl rfl ?_
      refine G.nil ?_
      refine QA.then_normal ?_
      refine C.ret ?_
      refine QA.ret1 rfl rfl ?_
      obtain rfl := sp_ret1 hm
      exact ⟨rfl, (Sat.pick [] h9)⟩
set_option maxRecDepth 20000 in
set_option maxHeartbeats 1000000 in
theorem M_bytes_Compare_vv_w {W : Base} {w : World} {a : Option Addr} {c : Nat} {a2 : List UInt8} {a3 : Option Addr} {c2 : Nat} {b : List UInt8} (hv_a2 : V W a (elU8.row a2)) (hq_a2 : a2.length ≤ c) (hv_b : V W a3 (elU8.row b)) (hq_b : b.length ≤ c2) (h : Sat W w [])  (hm : M_bytes_Compare_vv a2 b = some ()) :
    Calls Try.prog 99 #[(.slice a a2.length c), (.slice a3 b.length c2)] w (Ret fun v w' => v = (vI (Lib.compareBytes a2 b)) ∧ Sat W w' []) := by
  unfold M_bytes_Compare_vv at hm
  refine C.enter (N := 8) Try.func99 rfl Try.ntmps99 rfl ?_
  show C _ _ _ [(0, (.slice a a2.length c)), (1, (.slice a3 b.length c2))] _ _
  refine C.seq ?_
  refine C.region ?_
  refine G.yl (yl_assign rfl) rfl rfl rfl ?_
  refine G.nil ?_
  refine QA.then_normal ?_
  refine C.seq ?_
  refine C.region ?_
  refine G.yl (yl_move rfl) rfl rfl rfl ?_
  refine G.yl (yl_move rfl) rfl rfl rfl ?_
  refine G.yl (yl_cmpB (l := a2) (m := b) rfl rfl rfl Try.func140 ex140 rfl rfl (hv_a2.at_ h) (hv_b.at_ h)) rfl rfl rfl ?_
  refine G.yl (yl_assign rfl) rfl rfl rfl ?_
  refine G.nil ?_
  refine QA.then_normal ?_
  refine C.ret ?_
  refine QA.ret1 rfl rfl ?_
  exact ⟨rfl, (Sat.pick [] h)⟩
set_option maxRecDepth 20000 in
set_option maxHeartbeats 1000000 in
theorem M_cmp_isNaN_uint16_w {W : Base} {w : World} {x : UInt16}  (h : Sat W w [])  (hm : M_cmp_isNaN_uint16 x = some ()) :
    Calls Try.prog 128 #[(v16 x)] w (Ret fun v w' => v = (.bool (!(decide (x = x)))) ∧ Sat W w' []) := by
  unfold M_cmp_isNaN_uint16 at hm
  refine C.enter (N := 6) Try.func128 rfl Try.ntmps128 rfl ?_
  show C _ _ _ [(0, (v16 x))] _ _
  refine C.seq ?_
  refine C.region ?_
  refine G.yl (yl_assign rfl) rfl rfl rfl ?_
  refine G.nil ?_
  refine QA.then_normal ?_
  refine C.seq ?_
  refine C.region ?_
  refine G.yl (yl_move rfl) rfl rfl rfl ?_
  refine G.yl (yl_move rfl) rfl rfl rfl ?_
  refine G.yl (yl_ne16 rfl rfl) rfl rfl rfl ?_
  refine G.yl (yl_assign rfl) rfl rfl rfl ?_
  refine G.nil ?_
  refine QA.then_normal ?_
  refine C.ret ?_
  refine QA.ret1 rfl rfl ?_
  exact ⟨rfl, (Sat.pick [] h)⟩
set_option maxRecDepth 20000 in
set_option maxHeartbeats 1000000 in
theorem M_cmp_Compare_uint16_w {W : Base} {w : World} {x : UInt16} {y_ : UInt16}  (h : Sat W w []) {r1 : Int} (hm : M_cmp_Compare_uint16 x y_ = some r1) :
    Calls Try.prog 73 #[(v16 x), (v16 y_)] w (Ret fun v w' => v = (vI r1) ∧ Sat W w' []) := by
  unfold M_cmp_Compare_uint16 at hm
  refine C.enter (N := 20) Try.func73 rfl Try.ntmps73 rfl ?_
  show C _ _ _ [(0, (v16 x)), (1, (v16 y_))] _ _
  refine C.seq ?_
  refine C.region ?_
  refine G.yl (yl_assign rfl) rfl rfl rfl ?_
  refine G.nil ?_
  refine QA.then_normal ?_
  refine C.seq ?_
  refine C.region ?_
  refine G.yl (yl_move rfl) rfl rfl rfl ?_
  obtain ⟨_, hy1, hm⟩ := sp_bind hm
  refine G.does (does_fn 0 rfl rfl rfl en128 h (fun U hU hp hr hs => M_cmp_isNaN_uint16_w (x := x) hp hy1)) rfl rfl rfl ?_
  rintro _ w2 ⟨U5, hb6, rfl, h4⟩
  have h3 : Sat W w2 [] := hb6 h4
  refine G.yl (yl_assign rfl) rfl rfl rfl ?_
  refine G.nil ?_
  refine QA.then_normal ?_
  refine C.seq ?_
  refine C.region ?_
  refine G.yl (yl_move rfl) rfl rfl rfl ?_
  obtain ⟨_, hy7, hm⟩ := sp_bind hm
  refine G.does (does_fn 0 rfl rfl rfl en128 h3 (fun U hU hp hr hs => M_cmp_isNaN_uint16_w (x := y_) hp hy7)) rfl rfl rfl ?_
  rintro _ w8 ⟨U11, hb12, rfl, h10⟩
  have h9 : Sat W w8 [] := hb12 h10
  refine G.yl (yl_assign rfl) rfl rfl rfl ?_
  refine G.nil ?_
  refine QA.then_normal ?_
  refine C.seq ?_
  refine C.seq ?_
  refine C.region ?_
  refine G.yl (yl_move rfl) rfl rfl rfl ?_
  refine G.nil ?_
  refine QA.then_normal ?_
  refine C.cond_f rfl (not_f (dec_t rfl)) ?_
  refine C.skip ?_
  refine QA.then_normal ?_
  refine C.seq ?_
  refine C.seq ?_
  refine C.region ?_
  refine G.yl (yl_move rfl) rfl rfl rfl ?_
  refine G.nil ?_
  refine QA.then_normal ?_
  refine C.cond_f rfl (not_f (dec_t rfl)) ?_
  refine C.skip ?_
  refine QA.then_normal ?_
  refine C.seq ?_
  refine C.seq ?_
  refine C.region ?_
  refine G.yl (yl_move rfl) rfl rfl rfl ?_
  refine G.yl (yl_move rfl) rfl rfl rfl ?_
  refine G.yl (yl_lt16 rfl rfl) rfl rfl rfl ?_
  refine G.nil ?_
  refine QA.then_normal ?_
  rcases sp_ite hm with ⟨hc13, hm⟩ | ⟨hc13, hm⟩
  · refine C.cond_t rfl (dec_t hc13) ?_
    refine C.seq ?_
    refine C.region ?_
    refine G.yl (yl_assign rfl) rfl rfl rfl ?_
    refine G.nil ?_
    refine QA.then_normal ?_
    refine C.ret ?_
    refine QA.then_ret ?_
    refine QA.ret1 rfl rfl ?_
    obtain rfl := sp_ret1 hm
    exact ⟨rfl, (Sat.pick [] h9)⟩
  · refine C.cond_f rfl (dec_f hc13) ?_
    refine C.skip ?_
    refine QA.then_normal ?_
    refine C.seq ?_
    refine C.seq ?_
    refine C.region ?_
    refine G.yl (yl_move rfl) rfl rfl rfl ?_
    refine G.yl (yl_move rfl) rfl rfl rfl ?_
    refine G.yl (yl_gt16 rfl rfl) rfl rfl rfl ?_
    refine G.nil ?_
    refine QA.then_normal ?_
    rcases sp_ite hm with ⟨hc14, hm⟩ | ⟨hc14, hm⟩
    · refine C.cond_t rfl (dec_t hc14) ?_
      refine C.seq ?_
      refine C.region ?_
      refine G.yl (yl_assign rfl) rfl rfl rfl ?_
      refine G.nil ?_
      refine QA.then_normal ?_
      refine C.ret ?_
      refine QA.then_ret ?_
      refine QA.ret1 rfl rfl ?_
      obtain rfl := sp_ret1 hm
      exact ⟨rfl, (Sat.pick [] h9)⟩
    · refine C.cond_f rfl (dec_f hc14) ?_
      refine C.skip ?_
      refine QA.then_normal ?_
      refine C.seq ?_
      refine C.region ?_
      refine G.yl (yl_assign rfl) rfl rfl rfl ?_
      refine G.nil ?_
      refine QA.then_normal ?_
      refine C.ret ?_
      refine QA.ret1 rfl rfl ?_
      obtain rfl := sp_ret1 hm
      exact ⟨rfl, (Sat.pick [] h9)⟩
set_option maxRecDepth 20000 in
set_option maxHeartbeats 1000000 in
theorem M_cmp_isNaN_string_w {W : Base} {w : World} {x : List UInt8}  (h : Sat W w [])  (hm : M_cmp_isNaN_string x = some ()) :
    Calls Try.prog 141 #[(.string (str x))] w (Ret fun v w' => v = (.bool (!(decide (x = x)))) ∧ Sat W w' []) := by
  unfold M_cmp_isNaN_string at hm
  refine C.enter (N := 6) Try.func141 rfl Try.ntmps141 rfl ?_
  show C _ _ _ [(0, (.string (str x)))] _ _
  refine C.seq ?_
  refine C.region ?_
  refine G.yl (yl_assign rfl) rfl rfl rfl ?_
  refine G.nil ?_
  refine QA.then_normal ?_
  refine C.seq ?_
  refine C.region ?_
  refine G.yl (yl_move rfl) rfl rfl rfl ?_
  refine G.yl (yl_move rfl) rfl rfl rfl ?_
  refine G.yl (yl_neS rfl rfl) rfl rfl rfl ?_
  refine G.yl (yl_assign rfl) rfl rfl rfl ?_
  refine G.nil ?_
  refine QA.then_normal ?_
  refine C.ret ?_
  refine QA.ret1 rfl rfl ?_
  exact ⟨rfl, (Sat.pick [] h)⟩
set_option maxRecDepth 20000 in
set_option maxHeartbeats 1000000 in
theorem M_cmp_Compare_string_w {W : Base} {w : World} {x : List UInt8} {y_ : List UInt8}  (h : Sat W w []) {r1 : Int} (hm : M_cmp_Compare_string x y_ = some r1) :
    Calls Try.prog 100 #[(.string (str x)), (.string (str y_))] w (Ret fun v w' => v = (vI r1) ∧ Sat W w' []) := by
  unfold M_cmp_Compare_string at hm
  refine C.enter (N := 20) Try.func100 rfl Try.ntmps100 rfl ?_
  show C _ _ _ [(0, (.string (str x))), (1, (.string (str y_)))] _ _
  refine C.seq ?_
  refine C.region ?_
  refine G.yl (yl_assign rfl) rfl rfl rfl ?_
  refine G.nil ?_
  refine QA.then_normal ?_
  refine C.seq ?_
  refine C.region ?_
  refine G.yl (yl_move rfl) rfl rfl rfl ?_
  obtain ⟨_, hy1, hm⟩ := sp_bind hm
  refine G.does (does_fn 0 rfl rfl rfl en141 h (fun U hU hp hr hs => M_cmp_isNaN_string_w (x := x) hp hy1)) rfl rfl rfl ?_
  rintro _ w2 ⟨U5, hb6, rfl, h4⟩
  have h3 : Sat W w2 [] := hb6 h4
  refine G.yl (yl_assign rfl) rfl rfl rfl ?_
  refine G.nil ?_
  refine QA.then_normal ?_
  refine C.seq ?_
  refine C.region ?_
  refine G.yl (yl_move rfl) rfl rfl rfl ?_
  obtain ⟨_, hy7, hm⟩ := sp_bind hm
  refine G.does (does_fn 0 rfl rfl rfl en141 h3 (fun U hU hp hr hs => M_cmp_isNaN_string_w (x := y_) hp hy7)) rfl rfl rfl ?_
  rintro _ w8 ⟨U11, hb12, rfl, h10⟩
  have h9 : Sat W w8 [] := hb12 h10
  refine G.yl (yl_assign rfl) rfl rfl rfl ?_
  refine G.nil ?_
  refine QA.then_normal ?_
  refine C.seq ?_
  refine C.seq ?_
  refine C.region ?_
  refine G.yl (yl_move rfl) rfl rfl rfl ?_
  refine G.nil ?_
  refine QA.then_normal ?_
  refine C.cond_f rfl (not_f (dec_t rfl)) ?_
  refine C.skip ?_
  refine QA.then_normal ?_
  refine C.seq ?_
  refine C.seq ?_
  refine C.region ?_
  refine G.yl (yl_move rfl) rfl rfl rfl ?_
  refine G.nil ?_
  refine QA.then_normal ?_
  refine C.cond_f rfl (not_f (dec_t rfl)) ?_
  refine C.skip ?_
  refine QA.then_normal ?_
  refine C.seq ?_
  refine C.seq ?_
  refine C.region ?_
  refine G.yl (yl_move rfl) rfl rfl rfl ?_
  refine G.yl (yl_move rfl) rfl rfl rfl ?_
  refine G.yl (yl_ltS rfl rfl) rfl rfl rfl ?_
  refine G.nil ?_
  refine QA.then_normal ?_
  rcases sp_b hm with ⟨hc13, hm⟩ | ⟨hc13, hm⟩
  · refine C.cond_t rfl hc13 ?_
    refine C.seq ?_
    refine C.region ?_
    refine G.yl (yl_assign rfl) rfl rfl rfl ?_
    refine G.nil ?_
    refine QA.then_normal ?_
    refine C.ret ?_
    refine QA.then_ret ?_
    refine QA.ret1 rfl rfl ?_
    obtain rfl := sp_ret1 hm
    exact ⟨rfl, (Sat.pick [] h9)⟩
  · refine C.cond_f rfl hc13 ?_
    refine C.skip ?_
    refine QA.then_normal ?_
    refine C.seq ?_
    refine C.seq ?_
    refine C.region ?_
    refine G.yl (yl_move rfl) rfl rfl rfl ?_
    refine G.yl (yl_move rfl) rfl rfl rfl ?_
    refine G.yl (yl_gtS rfl rfl) rfl rfl rfl ?_
    refine G.nil ?_
    refine QA.then_normal ?_
    rcases sp_b hm with ⟨hc14, hm⟩ | ⟨hc14, hm⟩
    · refine C.cond_f rfl (not_f hc14) ?_
      refine C.skip ?_
      refine QA.then_normal ?_
      refine C.seq ?_
      refine C.region ?_
      refine G.yl (yl_assign rfl) rfl rfl rfl ?_
      refine G.nil ?_
      refine QA.then_normal ?_
      refine C.ret ?_
      refine QA.ret1 rfl rfl ?_
      obtain rfl := sp_ret1 hm
      exact ⟨rfl, (Sat.pick [] h9)⟩
    · refine C.cond_t rfl (not_t hc14) ?_
      refine C.seq ?_
      refine C.region ?_
      refine G.yl (yl_assign rfl) rfl rfl rfl ?_
      refine G.nil ?_
      refine QA.then_normal ?_
      refine C.ret ?_
      refine QA.then_ret ?_
      refine QA.ret1 rfl rfl ?_
      obtain rfl := sp_ret1 hm
      exact ⟨rfl, (Sat.pick [] h9)⟩
set_option maxRecDepth 20000 in
set_option maxHeartbeats 1000000 in
theorem M_cmp_Or_int_v_w {W : Base} {w : World} {a : Option Addr} {c : Nat} {vals : List Int} (hv_vals : V W a (elInt.row vals)) (hq_vals : vals.length ≤ c) (h : Sat W w []) {r1 : Int} (hm : M_cmp_Or_int_v vals = some r1) :
    Calls Try.prog 72 #[(.slice a vals.length c)] w (Ret fun v w' => v = (vI r1) ∧ Sat W w' []) := by
  unfold M_cmp_Or_int_v at hm
  refine C.enter (N := 18) Try.func72 rfl Try.ntmps72 rfl ?_
  show C _ _ _ [(0, (.slice a vals.length c))] _ _
  refine C.seq ?_
  refine C.region ?_
  refine G.yl (yl_assign rfl) rfl rfl rfl ?_
  refine G.nil ?_
  refine QA.then_normal ?_
  refine C.seq ?_
  refine C.region ?_
  refine G.yl (yl_assign rfl) rfl rfl rfl ?_
  refine G.nil ?_
  refine QA.then_normal ?_
  refine C.seq ?_
  refine C.seq ?_
  refine C.region ?_
  refine G.yl (yl_move rfl) rfl rfl rfl ?_
  refine G.yl (yl_lenE Try.underlying34 rfl) rfl rfl rfl ?_
  refine G.yl (yl_move rfl) rfl rfl rfl ?_
  refine G.nil ?_
  refine QA.then_normal ?_
  refine C.block ?_
  obtain ⟨o, ho1, hm2⟩ := sp_bind hm
  refine C.left (γ := Unit) (.exit 0) (fun g => match g with | () => [(2, (vI 0)), (3, (vI 0))]) (fun g ww => match g with | () => .inl () = o ∧ Sat W ww []) ?_ ?_
  · refine C.loopO (γ := Int) (fun g => match g with | t8 => [(2, (vI 0)), (3, (vI 0)), (6, (.slice a vals.length c)), (7, (vI (vals.length : Int))), (8, (vI t8))]) (fun g ww => match g with | t8 => Sat W ww []) (fun g => match g with | t8 => t8) 0 ho1 (Sub.of ⟨rfl, rfl, rfl, rfl, rfl, trivial⟩) (Sat.pick [] h) ?_
    rintro t8 k5 w3 y_ h4 hm hg6
    show C _ _ _ [(2, (vI 0)), (3, (vI 0)), (6, (.slice a vals.length c)), (7, (vI (vals.length : Int))), (8, (vI t8))] _ _
    change M_cmp_Or_int_v_b1 vals t8 = some y_ at hm
    unfold M_cmp_Or_int_v_b1 at hm
    refine C.seq ?_
    refine C.region ?_
    refine G.yl (yl_ltI rfl rfl) rfl rfl rfl ?_
    refine G.nil ?_
    refine QA.then_normal ?_
    refine C.seq ?_
    rcases sp_ite hm with ⟨hc7, hm⟩ | ⟨hc7, hm⟩
    · refine C.cond_t rfl (dec_t hc7) ?_
      refine C.skip ?_
      refine QA.then_normal ?_
      refine C.seq ?_
      refine C.block ?_
      refine C.seq ?_
      refine C.region ?_
      obtain ⟨x, hy8, hm⟩ := sp_bind hm
      refine G.yl (yl_ixP (l := vals) sl34 rfl rfl (View.isA (E := elInt) (hv_vals.at_ h4) (by decide) (at?_lt hy8)) rfl (at?_lt hy8)) rfl rfl rfl ?_
      refine G.yl (yl_ld1 (E := elInt) (v := (vI x)) ag3 rfl (hv_vals.at_ h4) (at?_some hy8).2 rfl) rfl rfl rfl ?_
      refine G.yl (yl_assign rfl) rfl rfl rfl ?_
      refine G.nil ?_
      refine QA.then_normal ?_
      refine C.seq ?_
      refine C.region ?_
      refine G.yl (yl_move rfl) rfl rfl rfl ?_
      refine G.yl (yl_move rfl) rfl rfl rfl ?_
      refine G.yl (yl_neI rfl rfl) rfl rfl rfl ?_
      refine G.nil ?_
      refine QA.then_normal ?_
      rcases sp_ite hm with ⟨hc9, hm⟩ | ⟨hc9, hm⟩
      · refine C.cond_f rfl (not_f (dec_t hc9)) ?_
        refine C.skip ?_
        refine QA.block_normal ?_
        refine QA.then_normal ?_
        refine C.region ?_
        obtain ⟨hc10, hm⟩ := sp_chk hm
        refine G.yl (yl_addI rfl rfl hc10) rfl rfl rfl ?_
        refine G.yl (yl_move rfl) rfl rfl rfl ?_
        refine G.nil ?_
        obtain rfl := sp_ret1 hm
        exact QA.againO (t8 + 1) hg6 (Sub.of ⟨rfl, rfl, rfl, rfl, rfl, trivial⟩) (Sat.pick [] h4)
      · refine C.cond_t rfl (not_t (dec_f hc9)) ?_
        refine C.seq ?_
        refine C.region ?_
        refine G.yl (yl_move rfl) rfl rfl rfl ?_
        refine G.yl (yl_assign rfl) rfl rfl rfl ?_
        refine G.nil ?_
        refine QA.then_normal ?_
        refine C.ret ?_
        refine QA.block_ret ?_
        refine QA.then_ret ?_
        refine QA.then_ret ?_
        refine QA.past (by simp) ?_
        refine QA.block_ret ?_
        refine QA.then_ret ?_
        refine QA.ret1 rfl rfl ?_
        obtain rfl := sp_ret1 hm
        obtain rfl : .inr x = o := hg6
        have hm : some x = some r1 := hm2
        obtain rfl := sp_ret1 hm
        exact ⟨rfl, (Sat.pick [] h4)⟩
    · refine C.cond_f rfl (dec_f hc7) ?_
      refine C.exit ?_
      refine QA.then_exit ?_
      refine QA.then_exit ?_
      obtain rfl := sp_ret1 hm
      exact QA.left () (Sub.of ⟨rfl, rfl, trivial⟩) ⟨hg6, (Sat.pick [] h4)⟩
  · rintro _ w11 ⟨rfl, h12⟩
    have hm := hm2
    show QA _ _ [(2, (vI 0)), (3, (vI 0))] _ _
    refine QA.block_here ?_
    refine QA.then_normal ?_
    refine C.seq ?_
    refine C.region ?_
    refine G.yl (yl_move rfl) rfl rfl rfl ?_
    refine G.yl (yl_assign rfl) rfl rfl rfl ?_
    refine G.nil ?_
    refine QA.then_normal ?_
    refine C.ret ?_
    refine QA.ret1 rfl rfl ?_
    obtain rfl := sp_ret1 hm
    exact ⟨rfl, (Sat.pick [] h12)⟩
set_option maxRecDepth 20000 in
set_option maxHeartbeats 1000000 in
theorem M_inst_Cmp_w {W : Base} {w : World} {a : G_api_Instance} {b : G_api_Instance}  (h : Sat W w []) {r1 : Int} (hm : M_inst_Cmp a b = some r1) :
    Calls Try.prog 42 #[(.agg (bytesV (List.ofFn (n := 20) a.Publisher) ++ ([(v64 a.Seq), (v64 a.Born), (v32 a.Life), (.bool a.Gone), (v16 a.Priority), (v16 a.Weight), (v16 a.Port), (.string (str a.Target))] : List Value)).toArray), (.agg (bytesV (List.ofFn (n := 20) b.Publisher) ++ ([(v64 b.Seq), (v64 b.Born), (v32 b.Life), (.bool b.Gone), (v16 b.Priority), (v16 b.Weight), (v16 b.Port), (.string (str b.Target))] : List Value)).toArray)] w (Ret fun v w' => v = (vI r1) ∧ Sat W w' []) := by
  unfold M_inst_Cmp at hm
  refine C.enter (N := 54) Try.func42 rfl Try.ntmps42 rfl ?_
  show C _ _ _ [(0, (.agg (bytesV (List.ofFn (n := 20) a.Publisher) ++ ([(v64 a.Seq), (v64 a.Born), (v32 a.Life), (.bool a.Gone), (v16 a.Priority), (v16 a.Weight), (v16 a.Port), (.string (str a.Target))] : List Value)).toArray)), (1, (.agg (bytesV (List.ofFn (n := 20) b.Publisher) ++ ([(v64 b.Seq), (v64 b.Born), (v32 b.Life), (.bool b.Gone), (v16 b.Priority), (v16 b.Weight), (v16 b.Port), (.string (str b.Target))] : List Value)).toArray))] _ _
  refine C.seq ?_
  refine C.region ?_
  refine G.does (does_box (cs := (bytesV (List.ofFn (n := 20) a.Publisher) ++ ([(v64 a.Seq), (v64 a.Born), (v32 a.Life), (.bool a.Gone), (v16 a.Priority), (v16 a.Weight), (v16 a.Port), (.string (str a.Target))] : List Value))) h rfl rfl) rfl rfl rfl ?_
  rintro _ w2 ⟨b1, rfl, h3⟩
  refine G.does (does_box (cs := (bytesV (List.ofFn (n := 20) b.Publisher) ++ ([(v64 b.Seq), (v64 b.Born), (v32 b.Life), (.bool b.Gone), (v16 b.Priority), (v16 b.Weight), (v16 b.Port), (.string (str b.Target))] : List Value))) h3 rfl rfl) rfl rfl rfl ?_
  rintro _ w5 ⟨b4, rfl, h6⟩
  refine G.yl (yl_assign rfl) rfl rfl rfl ?_
  refine G.nil ?_
  refine QA.then_normal ?_
  refine C.seq ?_
  refine C.draw (V := fun w' => View w' (some ⟨b1, 0, none⟩) (bytesV (List.ofFn (n := 20) a.Publisher) ++ ([(v64 a.Seq), (v64 a.Born), (v32 a.Life), (.bool a.Gone), (v16 a.Priority), (v16 a.Weight), (v16 a.Port), (.string (str a.Target))] : List Value)) ∧ View w' (some ⟨b4, 0, none⟩) (bytesV (List.ofFn (n := 20) b.Publisher) ++ ([(v64 b.Seq), (v64 b.Born), (v32 b.Life), (.bool b.Gone), (v16 b.Priority), (v16 b.Weight), (v16 b.Port), (.string (str b.Target))] : List Value))) (nd := [1, 3, 6, 9, 13, 15, 18, 20, 28, 30, 33, 35, 38, 40, 43, 45]) (sp := []) (n := 50) rfl h6 rfl rfl ?_
  intro w7 h8
  have hS9 : Cls (fun w' => View w' (some ⟨b1, 0, none⟩) (bytesV (List.ofFn (n := 20) a.Publisher) ++ ([(v64 a.Seq), (v64 a.Born), (v32 a.Life), (.bool a.Gone), (v16 a.Priority), (v16 a.Weight), (v16 a.Port), (.string (str a.Target))] : List Value)) ∧ View w' (some ⟨b4, 0, none⟩) (bytesV (List.ofFn (n := 20) b.Publisher) ++ ([(v64 b.Seq), (v64 b.Born), (v32 b.Life), (.bool b.Gone), (v16 b.Priority), (v16 b.Weight), (v16 b.Port), (.string (str b.Target))] : List Value))) [1, 3, 6, 9, 13, 15, 18, 20, 28, 30, 33, 35, 38, 40, 43, 45] [] #[nn, nn, nn, nn, nn, nn, nn, nn, nn, nn, nn, nn, nn, nn, nn, nn, nn, nn, nn, nn, nn, nn, nn, nn, nn, nn, nn, nn, nn, nn, nn, nn, nn, nn, nn, nn, nn, nn, nn, nn, nn, nn, nn, nn, nn, nn, nn, nn, nn, nn] w7 := Cls.keep (⟨((Sat.pick [1] h8).isBlk.view0), h8.isBlk.view0⟩) (by kernel_rfl)
  refine GH.yl (i := 0) (listed' := #[yy, nn, nn, nn, nn, nn, nn, nn, nn, nn, nn, nn, nn, nn, nn, nn, nn, nn, nn, nn, nn, nn, nn, nn, nn, nn, nn, nn, nn, nn, nn, nn, nn, nn, nn, nn, nn, nn, nn, nn, nn, nn, nn, nn, nn, nn, nn, nn, nn, nn]) rfl (by kernel_rfl) rfl (NP.next NP.body) rfl rfl rfl (fun w' => yl_fieldAddr fo47_1 rfl) hS9 (fun hS10 => ?_)
  refine GH.yr (i := 1) (listed' := #[yy, yy, nn, nn, nn, nn, nn, nn, nn, nn, nn, nn, nn, nn, nn, nn, nn, nn, nn, nn, nn, nn, nn, nn, nn, nn, nn, nn, nn, nn, nn, nn, nn, nn, nn, nn, nn, nn, nn, nn, nn, nn, nn, nn, nn, nn, nn, nn, nn, nn]) rfl (by kernel_rfl) rfl rfl (NP.next NP.body) rfl rfl rfl (fun w' hw' => yl_load (v := (v64 a.Seq)) ag28 rfl (View.at_ (j := 0) (View.span_tail hw'.1) rfl)) hS10 (fun hS11 => ?_)
  refine GH.yl (i := 2) (listed' := #[yy, yy, yy, nn, nn, nn, nn, nn, nn, nn, nn, nn, nn, nn, nn, nn, nn, nn, nn, nn, nn, nn, nn, nn, nn, nn, nn, nn, nn, nn, nn, nn, nn, nn, nn, nn, nn, nn, nn, nn, nn, nn, nn, nn, nn, nn, nn, nn, nn, nn]) rfl (by kernel_rfl) rfl (NP.next NP.body) rfl rfl rfl (fun w' => yl_fieldAddr fo47_1 rfl) hS11 (fun hS12 => ?_)
  refine GH.yr (i := 3) (listed' := #[yy, yy, yy, yy, nn, nn, nn, nn, nn, nn, nn, nn, nn, nn, nn, nn, nn, nn, nn, nn, nn, nn, nn, nn, nn, nn, nn, nn, nn, nn, nn, nn, nn, nn, nn, nn, nn, nn, nn, nn, nn, nn, nn, nn, nn, nn, nn, nn, nn, nn]) rfl (by kernel_rfl) rfl rfl (NP.next NP.body) rfl rfl rfl (fun w' hw' => yl_load (v := (v64 b.Seq)) ag28 rfl (View.at_ (j := 0) (View.span_tail hw'.2) rfl)) hS12 (fun hS13 => ?_)
  refine GH.yl (i := 5) (listed' := #[yy, yy, yy, yy, nn, yy, nn, nn, nn, nn, nn, nn, nn, nn, nn, nn, nn, nn, nn, nn, nn, nn, nn, nn, nn, nn, nn, nn, nn, nn, nn, nn, nn, nn, nn, nn, nn, nn, nn, nn, nn, nn, nn, nn, nn, nn, nn, nn, nn, nn]) rfl (by kernel_rfl) rfl (NP.next NP.body) rfl rfl rfl (fun w' => yl_fieldAddr fo47_4 rfl) hS13 (fun hS14 => ?_)
  refine GH.yr (i := 6) (listed' := #[yy, yy, yy, yy, nn, yy, yy, nn, nn, nn, nn, nn, nn, nn, nn, nn, nn, nn, nn, nn, nn, nn, nn, nn, nn, nn, nn, nn, nn, nn, nn, nn, nn, nn, nn, nn, nn, nn, nn, nn, nn, nn, nn, nn, nn, nn, nn, nn, nn, nn]) rfl (by kernel_rfl) rfl rfl (NP.next NP.body) rfl rfl rfl (fun w' hw' => yl_load (v := (.bool a.Gone)) ag4 rfl (View.at_ (j := 3) (View.span_tail hw'.1) rfl)) hS14 (fun hS15 => ?_)
  refine GH.yl (i := 8) (listed' := #[yy, yy, yy, yy, nn, yy, yy, nn, yy, nn, nn, nn, nn, nn, nn, nn, nn, nn, nn, nn, nn, nn, nn, nn, nn, nn, nn, nn, nn, nn, nn, nn, nn, nn, nn, nn, nn, nn, nn, nn, nn, nn, nn, nn, nn, nn, nn, nn, nn, nn]) rfl (by kernel_rfl) rfl (NP.next NP.body) rfl rfl rfl (fun w' => yl_fieldAddr fo47_4 rfl) hS15 (fun hS16 => ?_)
  refine GH.yr (i := 9) (listed' := #[yy, yy, yy, yy, nn, yy, yy, nn, yy, yy, nn, nn, nn, nn, nn, nn, nn, nn, nn, nn, nn, nn, nn, nn, nn, nn, nn, nn, nn, nn, nn, nn, nn, nn, nn, nn, nn, nn, nn, nn, nn, nn, nn, nn, nn, nn, nn, nn, nn, nn]) rfl (by kernel_rfl) rfl rfl (NP.next NP.body) rfl rfl rfl (fun w' hw' => yl_load (v := (.bool b.Gone)) ag4 rfl (View.at_ (j := 3) (View.span_tail hw'.2) rfl)) hS16 (fun hS17 => ?_)
  refine GH.yl (i := 12) (listed' := #[yy, yy, yy, yy, nn, yy, yy, nn, yy, yy, nn, nn, yy, nn, nn, nn, nn, nn, nn, nn, nn, nn, nn, nn, nn, nn, nn, nn, nn, nn, nn, nn, nn, nn, nn, nn, nn, nn, nn, nn, nn, nn, nn, nn, nn, nn, nn, nn, nn, nn]) rfl (by kernel_rfl) rfl (NP.next NP.body) rfl rfl rfl (fun w' => yl_fieldAddr fo47_2 rfl) hS17 (fun hS18 => ?_)
  refine GH.yr (i := 13) (listed' := #[yy, yy, yy, yy, nn, yy, yy, nn, yy, yy, nn, nn, yy, yy, nn, nn, nn, nn, nn, nn, nn, nn, nn, nn, nn, nn, nn, nn, nn, nn, nn, nn, nn, nn, nn, nn, nn, nn, nn, nn, nn, nn, nn, nn, nn, nn, nn, nn, nn, nn]) rfl (by kernel_rfl) rfl rfl (NP.next NP.body) rfl rfl rfl (fun w' hw' => yl_load (v := (v64 a.Born)) ag28 rfl (View.at_ (j := 1) (View.span_tail hw'.1) rfl)) hS18 (fun hS19 => ?_)
  refine GH.yl (i := 14) (listed' := #[yy, yy, yy, yy, nn, yy, yy, nn, yy, yy, nn, nn, yy, yy, yy, nn, nn, nn, nn, nn, nn, nn, nn, nn, nn, nn, nn, nn, nn, nn, nn, nn, nn, nn, nn, nn, nn, nn, nn, nn, nn, nn, nn, nn, nn, nn, nn, nn, nn, nn]) rfl (by kernel_rfl) rfl (NP.next NP.body) rfl rfl rfl (fun w' => yl_fieldAddr fo47_2 rfl) hS19 (fun hS20 => ?_)
  refine GH.yr (i := 15) (listed' := #[yy, yy, yy, yy, nn, yy, yy, nn, yy, yy, nn, nn, yy, yy, yy, yy, nn, nn, nn, nn, nn, nn, nn, nn, nn, nn, nn, nn, nn, nn, nn, nn, nn, nn, nn, nn, nn, nn, nn, nn, nn, nn, nn, nn, nn, nn, nn, nn, nn, nn]) rfl (by kernel_rfl) rfl rfl (NP.next NP.body) rfl rfl rfl (fun w' hw' => yl_load (v := (v64 b.Born)) ag28 rfl (View.at_ (j := 1) (View.span_tail hw'.2) rfl)) hS20 (fun hS21 => ?_)
  refine GH.yl (i := 17) (listed' := #[yy, yy, yy, yy, nn, yy, yy, nn, yy, yy, nn, nn, yy, yy, yy, yy, nn, yy, nn, nn, nn, nn, nn, nn, nn, nn, nn, nn, nn, nn, nn, nn, nn, nn, nn, nn, nn, nn, nn, nn, nn, nn, nn, nn, nn, nn, nn, nn, nn, nn]) rfl (by kernel_rfl) rfl (NP.next NP.body) rfl rfl rfl (fun w' => yl_fieldAddr fo47_3 rfl) hS21 (fun hS22 => ?_)
  refine GH.yr (i := 18) (listed' := #[yy, yy, yy, yy, nn, yy, yy, nn, yy, yy, nn, nn, yy, yy, yy, yy, nn, yy, yy, nn, nn, nn, nn, nn, nn, nn, nn, nn, nn, nn, nn, nn, nn, nn, nn, nn, nn, nn, nn, nn, nn, nn, nn, nn, nn, nn, nn, nn, nn, nn]) rfl (by kernel_rfl) rfl rfl (NP.next NP.body) rfl rfl rfl (fun w' hw' => yl_load (v := (v32 a.Life)) ag44 rfl (View.at_ (j := 2) (View.span_tail hw'.1) rfl)) hS22 (fun hS23 => ?_)
  refine GH.yl (i := 19) (listed' := #[yy, yy, yy, yy, nn, yy, yy, nn, yy, yy, nn, nn, yy, yy, yy, yy, nn, yy, yy, yy, nn, nn, nn, nn, nn, nn, nn, nn, nn, nn, nn, nn, nn, nn, nn, nn, nn, nn, nn, nn, nn, nn, nn, nn, nn, nn, nn, nn, nn, nn]) rfl (by kernel_rfl) rfl (NP.next NP.body) rfl rfl rfl (fun w' => yl_fieldAddr fo47_3 rfl) hS23 (fun hS24 => ?_)
  refine GH.yr (i := 20) (listed' := #[yy, yy, yy, yy, nn, yy, yy, nn, yy, yy, nn, nn, yy, yy, yy, yy, nn, yy, yy, yy, yy, nn, nn, nn, nn, nn, nn, nn, nn, nn, nn, nn, nn, nn, nn, nn, nn, nn, nn, nn, nn, nn, nn, nn, nn, nn, nn, nn, nn, nn]) rfl (by kernel_rfl) rfl rfl (NP.next NP.body) rfl rfl rfl (fun w' hw' => yl_load (v := (v32 b.Life)) ag44 rfl (View.at_ (j := 2) (View.span_tail hw'.2) rfl)) hS24 (fun hS25 => ?_)
  refine GH.yl (i := 22) (listed' := #[yy, yy, yy, yy, nn, yy, yy, nn, yy, yy, nn, nn, yy, yy, yy, yy, nn, yy, yy, yy, yy, nn, yy, nn, nn, nn, nn, nn, nn, nn, nn, nn, nn, nn, nn, nn, nn, nn, nn, nn, nn, nn, nn, nn, nn, nn, nn, nn, nn, nn]) rfl (by kernel_rfl) rfl (NP.next NP.body) rfl rfl rfl (fun w' => yl_fieldAddr fo47_0 rfl) hS25 (fun hS26 => ?_)
  refine GH.yl (i := 23) (listed' := #[yy, yy, yy, yy, nn, yy, yy, nn, yy, yy, nn, nn, yy, yy, yy, yy, nn, yy, yy, yy, yy, nn, yy, yy, nn, nn, nn, nn, nn, nn, nn, nn, nn, nn, nn, nn, nn, nn, nn, nn, nn, nn, nn, nn, nn, nn, nn, nn, nn, nn]) rfl (by kernel_rfl) rfl (NP.next NP.body) rfl rfl rfl (fun w' => yl_slice_arr (n := 20) (l := 0) (h := 20) (s := 1) (v := (.slice (some ⟨b1, 0, none⟩) 20 20)) Try.underlying43 (by kernel_rfl) (by kernel_rfl) rfl rfl rfl (by decide) (by decide) rfl) hS26 (fun hS27 => ?_)
  refine GH.yl (i := 24) (listed' := #[yy, yy, yy, yy, nn, yy, yy, nn, yy, yy, nn, nn, yy, yy, yy, yy, nn, yy, yy, yy, yy, nn, yy, yy, yy, nn, nn, nn, nn, nn, nn, nn, nn, nn, nn, nn, nn, nn, nn, nn, nn, nn, nn, nn, nn, nn, nn, nn, nn, nn]) rfl (by kernel_rfl) rfl (NP.next NP.body) rfl rfl rfl (fun w' => yl_fieldAddr fo47_0 rfl) hS27 (fun hS28 => ?_)
  refine GH.yl (i := 25) (listed' := #[yy, yy, yy, yy, nn, yy, yy, nn, yy, yy, nn, nn, yy, yy, yy, yy, nn, yy, yy, yy, yy, nn, yy, yy, yy, yy, nn, nn, nn, nn, nn, nn, nn, nn, nn, nn, nn, nn, nn, nn, nn, nn, nn, nn, nn, nn, nn, nn, nn, nn]) rfl (by kernel_rfl) rfl (NP.next NP.body) rfl rfl rfl (fun w' => yl_slice_arr (n := 20) (l := 0) (h := 20) (s := 1) (v := (.slice (some ⟨b4, 0, none⟩) 20 20)) Try.underlying43 (by kernel_rfl) (by kernel_rfl) rfl rfl rfl (by decide) (by decide) rfl) hS28 (fun hS29 => ?_)
  refine GH.yl (i := 27) (listed' := #[yy, yy, yy, yy, nn, yy, yy, nn, yy, yy, nn, nn, yy, yy, yy, yy, nn, yy, yy, yy, yy, nn, yy, yy, yy, yy, nn, yy, nn, nn, nn, nn, nn, nn, nn, nn, nn, nn, nn, nn, nn, nn, nn, nn, nn, nn, nn, nn, nn, nn]) rfl (by kernel_rfl) rfl (NP.next NP.body) rfl rfl rfl (fun w' => yl_fieldAddr fo47_5 rfl) hS29 (fun hS30 => ?_)
  refine GH.yr (i := 28) (listed' := #[yy, yy, yy, yy, nn, yy, yy, nn, yy, yy, nn, nn, yy, yy, yy, yy, nn, yy, yy, yy, yy, nn, yy, yy, yy, yy, nn, yy, yy, nn, nn, nn, nn, nn, nn, nn, nn, nn, nn, nn, nn, nn, nn, nn, nn, nn, nn, nn, nn, nn]) rfl (by kernel_rfl) rfl rfl (NP.next NP.body) rfl rfl rfl (fun w' hw' => yl_load (v := (v16 a.Priority)) ag45 rfl (View.at_ (j := 4) (View.span_tail hw'.1) rfl)) hS30 (fun hS31 => ?_)
  refine GH.yl (i := 29) (listed' := #[yy, yy, yy, yy, nn, yy, yy, nn, yy, yy, nn, nn, yy, yy, yy, yy, nn, yy, yy, yy, yy, nn, yy, yy, yy, yy, nn, yy, yy, yy, nn, nn, nn, nn, nn, nn, nn, nn, nn, nn, nn, nn, nn, nn, nn, nn, nn, nn, nn, nn]) rfl (by kernel_rfl) rfl (NP.next NP.body) rfl rfl rfl (fun w' => yl_fieldAddr fo47_5 rfl) hS31 (fun hS32 => ?_)
  refine GH.yr (i := 30) (listed' := #[yy, yy, yy, yy, nn, yy, yy, nn, yy, yy, nn, nn, yy, yy, yy, yy, nn, yy, yy, yy, yy, nn, yy, yy, yy, yy, nn, yy, yy, yy, yy, nn, nn, nn, nn, nn, nn, nn, nn, nn, nn, nn, nn, nn, nn, nn, nn, nn, nn, nn]) rfl (by kernel_rfl) rfl rfl (NP.next NP.body) rfl rfl rfl (fun w' hw' => yl_load (v := (v16 b.Priority)) ag45 rfl (View.at_ (j := 4) (View.span_tail hw'.2) rfl)) hS32 (fun hS33 => ?_)
  refine GH.yl (i := 32) (listed' := #[yy, yy, yy, yy, nn, yy, yy, nn, yy, yy, nn, nn, yy, yy, yy, yy, nn, yy, yy, yy, yy, nn, yy, yy, yy, yy, nn, yy, yy, yy, yy, nn, yy, nn, nn, nn, nn, nn, nn, nn, nn, nn, nn, nn, nn, nn, nn, nn, nn, nn]) rfl (by kernel_rfl) rfl (NP.next NP.body) rfl rfl rfl (fun w' => yl_fieldAddr fo47_6 rfl) hS33 (fun hS34 => ?_)
  refine GH.yr (i := 33) (listed' := #[yy, yy, yy, yy, nn, yy, yy, nn, yy, yy, nn, nn, yy, yy, yy, yy, nn, yy, yy, yy, yy, nn, yy, yy, yy, yy, nn, yy, yy, yy, yy, nn, yy, yy, nn, nn, nn, nn, nn, nn, nn, nn, nn, nn, nn, nn, nn, nn, nn, nn]) rfl (by kernel_rfl) rfl rfl (NP.next NP.body) rfl rfl rfl (fun w' hw' => yl_load (v := (v16 a.Weight)) ag45 rfl (View.at_ (j := 5) (View.span_tail hw'.1) rfl)) hS34 (fun hS35 => ?_)
  refine GH.yl (i := 34) (listed' := #[yy, yy, yy, yy, nn, yy, yy, nn, yy, yy, nn, nn, yy, yy, yy, yy, nn, yy, yy, yy, yy, nn, yy, yy, yy, yy, nn, yy, yy, yy, yy, nn, yy, yy, yy, nn, nn, nn, nn, nn, nn, nn, nn, nn, nn, nn, nn, nn, nn, nn]) rfl (by kernel_rfl) rfl (NP.next NP.body) rfl rfl rfl (fun w' => yl_fieldAddr fo47_6 rfl) hS35 (fun hS36 => ?_)
  refine GH.yr (i := 35) (listed' := #[yy, yy, yy, yy, nn, yy, yy, nn, yy, yy, nn, nn, yy, yy, yy, yy, nn, yy, yy, yy, yy, nn, yy, yy, yy, yy, nn, yy, yy, yy, yy, nn, yy, yy, yy, yy, nn, nn, nn, nn, nn, nn, nn, nn, nn, nn, nn, nn, nn, nn]) rfl (by kernel_rfl) rfl rfl (NP.next NP.body) rfl rfl rfl (fun w' hw' => yl_load (v := (v16 b.Weight)) ag45 rfl (View.at_ (j := 5) (View.span_tail hw'.2) rfl)) hS36 (fun hS37 => ?_)
  refine GH.yl (i := 37) (listed' := #[yy, yy, yy, yy, nn, yy, yy, nn, yy, yy, nn, nn, yy, yy, yy, yy, nn, yy, yy, yy, yy, nn, yy, yy, yy, yy, nn, yy, yy, yy, yy, nn, yy, yy, yy, yy, nn, yy, nn, nn, nn, nn, nn, nn, nn, nn, nn, nn, nn, nn]) rfl (by kernel_rfl) rfl (NP.next NP.body) rfl rfl rfl (fun w' => yl_fieldAddr fo47_7 rfl) hS37 (fun hS38 => ?_)
  refine GH.yr (i := 38) (listed' := #[yy, yy, yy, yy, nn, yy, yy, nn, yy, yy, nn, nn, yy, yy, yy, yy, nn, yy, yy, yy, yy, nn, yy, yy, yy, yy, nn, yy, yy, yy, yy, nn, yy, yy, yy, yy, nn, yy, yy, nn, nn, nn, nn, nn, nn, nn, nn, nn, nn, nn]) rfl (by kernel_rfl) rfl rfl (NP.next NP.body) rfl rfl rfl (fun w' hw' => yl_load (v := (v16 a.Port)) ag45 rfl (View.at_ (j := 6) (View.span_tail hw'.1) rfl)) hS38 (fun hS39 => ?_)
  refine GH.yl (i := 39) (listed' := #[yy, yy, yy, yy, nn, yy, yy, nn, yy, yy, nn, nn, yy, yy, yy, yy, nn, yy, yy, yy, yy, nn, yy, yy, yy, yy, nn, yy, yy, yy, yy, nn, yy, yy, yy, yy, nn, yy, yy, yy, nn, nn, nn, nn, nn, nn, nn, nn, nn, nn]) rfl (by kernel_rfl) rfl (NP.next NP.body) rfl rfl rfl (fun w' => yl_fieldAddr fo47_7 rfl) hS39 (fun hS40 => ?_)
  refine GH.yr (i := 40) (listed' := #[yy, yy, yy, yy, nn, yy, yy, nn, yy, yy, nn, nn, yy, yy, yy, yy, nn, yy, yy, yy, yy, nn, yy, yy, yy, yy, nn, yy, yy, yy, yy, nn, yy, yy, yy, yy, nn, yy, yy, yy, yy, nn, nn, nn, nn, nn, nn, nn, nn, nn]) rfl (by kernel_rfl) rfl rfl (NP.next NP.body) rfl rfl rfl (fun w' hw' => yl_load (v := (v16 b.Port)) ag45 rfl (View.at_ (j := 6) (View.span_tail hw'.2) rfl)) hS40 (fun hS41 => ?_)
  refine GH.yl (i := 42) (listed' := #[yy, yy, yy, yy, nn, yy, yy, nn, yy, yy, nn, nn, yy, yy, yy, yy, nn, yy, yy, yy, yy, nn, yy, yy, yy, yy, nn, yy, yy, yy, yy, nn, yy, yy, yy, yy, nn, yy, yy, yy, yy, nn, yy, nn, nn, nn, nn, nn, nn, nn]) rfl (by kernel_rfl) rfl (NP.next NP.body) rfl rfl rfl (fun w' => yl_fieldAddr fo47_8 rfl) hS41 (fun hS42 => ?_)
  refine GH.yr (i := 43) (listed' := #[yy, yy, yy, yy, nn, yy, yy, nn, yy, yy, nn, nn, yy, yy, yy, yy, nn, yy, yy, yy, yy, nn, yy, yy, yy, yy, nn, yy, yy, yy, yy, nn, yy, yy, yy, yy, nn, yy, yy, yy, yy, nn, yy, yy, nn, nn, nn, nn, nn, nn]) rfl (by kernel_rfl) rfl rfl (NP.next NP.body) rfl rfl rfl (fun w' hw' => yl_load (v := (.string (str a.Target))) ag9 rfl (View.at_ (j := 7) (View.span_tail hw'.1) rfl)) hS42 (fun hS43 => ?_)
  refine GH.yl (i := 44) (listed' := #[yy, yy, yy, yy, nn, yy, yy, nn, yy, yy, nn, nn, yy, yy, yy, yy, nn, yy, yy, yy, yy, nn, yy, yy, yy, yy, nn, yy, yy, yy, yy, nn, yy, yy, yy, yy, nn, yy, yy, yy, yy, nn, yy, yy, yy, nn, nn, nn, nn, nn]) rfl (by kernel_rfl) rfl (NP.next NP.body) rfl rfl rfl (fun w' => yl_fieldAddr fo47_8 rfl) hS43 (fun hS44 => ?_)
  refine GH.yr (i := 45) (listed' := #[yy, yy, yy, yy, nn, yy, yy, nn, yy, yy, nn, nn, yy, yy, yy, yy, nn, yy, yy, yy, yy, nn, yy, yy, yy, yy, nn, yy, yy, yy, yy, nn, yy, yy, yy, yy, nn, yy, yy, yy, yy, nn, yy, yy, yy, yy, nn, nn, nn, nn]) rfl (by kernel_rfl) rfl rfl (NP.next NP.body) rfl rfl rfl (fun w' hw' => yl_load (v := (.string (str b.Target))) ag9 rfl (View.at_ (j := 7) (View.span_tail hw'.2) rfl)) hS44 (fun hS45 => ?_)
  obtain ⟨r1_2, hy46, hm⟩ := sp_bind hm
  refine GH.does (i := 4) (listed' := #[yy, yy, yy, yy, yy, yy, yy, nn, yy, yy, nn, nn, yy, yy, yy, yy, nn, yy, yy, yy, yy, nn, yy, yy, yy, yy, nn, yy, yy, yy, yy, nn, yy, yy, yy, yy, nn, yy, yy, yy, yy, nn, yy, yy, yy, yy, nn, nn, nn, nn]) rfl (by kernel_rfl) rfl rfl rfl rfl (does_fn 0 rfl rfl rfl en96 h8 (fun U hU hp hr hs => M_cmp_Compare_uint64_w (x := a.Seq) (y_ := b.Seq) hp hy46)) ?_
  rintro _ w47 ⟨U50, hb51, rfl, h49⟩
  have h48 : Sat W w47 [blk b4 (bytesV (List.ofFn (n := 20) b.Publisher) ++ ([(v64 b.Seq), (v64 b.Born), (v32 b.Life), (.bool b.Gone), (v16 b.Priority), (v16 b.Weight), (v16 b.Port), (.string (str b.Target))] : List Value)) 47, blk b1 (bytesV (List.ofFn (n := 20) a.Publisher) ++ ([(v64 a.Seq), (v64 a.Born), (v32 a.Life), (.bool a.Gone), (v16 a.Priority), (v16 a.Weight), (v16 a.Port), (.string (str a.Target))] : List Value)) 47] := hb51 h49
  have hS52 : Cls (fun w' => View w' (some ⟨b1, 0, none⟩) (bytesV (List.ofFn (n := 20) a.Publisher) ++ ([(v64 a.Seq), (v64 a.Born), (v32 a.Life), (.bool a.Gone), (v16 a.Priority), (v16 a.Weight), (v16 a.Port), (.string (str a.Target))] : List Value)) ∧ View w' (some ⟨b4, 0, none⟩) (bytesV (List.ofFn (n := 20) b.Publisher) ++ ([(v64 b.Seq), (v64 b.Born), (v32 b.Life), (.bool b.Gone), (v16 b.Priority), (v16 b.Weight), (v16 b.Port), (.string (str b.Target))] : List Value))) [1, 3, 6, 9, 13, 15, 18, 20, 28, 30, 33, 35, 38, 40, 43, 45] [] #[yy, yy, yy, yy, yy, yy, yy, nn, yy, yy, nn, nn, yy, yy, yy, yy, nn, yy, yy, yy, yy, nn, yy, yy, yy, yy, nn, yy, yy, yy, yy, nn, yy, yy, yy, yy, nn, yy, yy, yy, yy, nn, yy, yy, yy, yy, nn, nn, nn, nn] w47 := Cls.keep (⟨((Sat.pick [1] h48).isBlk.view0), h48.isBlk.view0⟩) (by kernel_rfl)
  refine ⟨hS52, ?_⟩
  obtain ⟨r1_3, hy53, hm⟩ := sp_bind hm
  refine GH.does (i := 7) (listed' := #[yy, yy, yy, yy, yy, yy, yy, yy, yy, yy, nn, nn, yy, yy, yy, yy, nn, yy, yy, yy, yy, nn, yy, yy, yy, yy, nn, yy, yy, yy, yy, nn, yy, yy, yy, yy, nn, yy, yy, yy, yy, nn, yy, yy, yy, yy, nn, nn, nn, nn]) rfl (by kernel_rfl) rfl rfl rfl rfl (does_fn 0 rfl rfl rfl en97 h48 (fun U hU hp hr hs => M_inst_bit_w (is := a.Gone) hp hy53)) ?_
  rintro _ w54 ⟨U57, hb58, rfl, h56⟩
  have h55 : Sat W w54 [blk b4 (bytesV (List.ofFn (n := 20) b.Publisher) ++ ([(v64 b.Seq), (v64 b.Born), (v32 b.Life), (.bool b.Gone), (v16 b.Priority), (v16 b.Weight), (v16 b.Port), (.string (str b.Target))] : List Value)) 47, blk b1 (bytesV (List.ofFn (n := 20) a.Publisher) ++ ([(v64 a.Seq), (v64 a.Born), (v32 a.Life), (.bool a.Gone), (v16 a.Priority), (v16 a.Weight), (v16 a.Port), (.string (str a.Target))] : List Value)) 47] := hb58 h56
  have hS59 : Cls (fun w' => View w' (some ⟨b1, 0, none⟩) (bytesV (List.ofFn (n := 20) a.Publisher) ++ ([(v64 a.Seq), (v64 a.Born), (v32 a.Life), (.bool a.Gone), (v16 a.Priority), (v16 a.Weight), (v16 a.Port), (.string (str a.Target))] : List Value)) ∧ View w' (some ⟨b4, 0, none⟩) (bytesV (List.ofFn (n := 20) b.Publisher) ++ ([(v64 b.Seq), (v64 b.Born), (v32 b.Life), (.bool b.Gone), (v16 b.Priority), (v16 b.Weight), (v16 b.Port), (.string (str b.Target))] : List Value))) [1, 3, 6, 9, 13, 15, 18, 20, 28, 30, 33, 35, 38, 40, 43, 45] [] #[yy, yy, yy, yy, yy, yy, yy, yy, yy, yy, nn, nn, yy, yy, yy, yy, nn, yy, yy, yy, yy, nn, yy, yy, yy, yy, nn, yy, yy, yy, yy, nn, yy, yy, yy, yy, nn, yy, yy, yy, yy, nn, yy, yy, yy, yy, nn, nn, nn, nn] w54 := Cls.keep (⟨((Sat.pick [1] h55).isBlk.view0), h55.isBlk.view0⟩) (by kernel_rfl)
  refine ⟨hS59, ?_⟩
  obtain ⟨r1_4, hy60, hm⟩ := sp_bind hm
  refine GH.does (i := 10) (listed' := #[yy, yy, yy, yy, yy, yy, yy, yy, yy, yy, yy, nn, yy, yy, yy, yy, nn, yy, yy, yy, yy, nn, yy, yy, yy, yy, nn, yy, yy, yy, yy, nn, yy, yy, yy, yy, nn, yy, yy, yy, yy, nn, yy, yy, yy, yy, nn, nn, nn, nn]) rfl (by kernel_rfl) rfl rfl rfl rfl (does_fn 0 rfl rfl rfl en97 h55 (fun U hU hp hr hs => M_inst_bit_w (is := b.Gone) hp hy60)) ?_
  rintro _ w61 ⟨U64, hb65, rfl, h63⟩
  have h62 : Sat W w61 [blk b4 (bytesV (List.ofFn (n := 20) b.Publisher) ++ ([(v64 b.Seq), (v64 b.Born), (v32 b.Life), (.bool b.Gone), (v16 b.Priority), (v16 b.Weight), (v16 b.Port), (.string (str b.Target))] : List Value)) 47, blk b1 (bytesV (List.ofFn (n := 20) a.Publisher) ++ ([(v64 a.Seq), (v64 a.Born), (v32 a.Life), (.bool a.Gone), (v16 a.Priority), (v16 a.Weight), (v16 a.Port), (.string (str a.Target))] : List Value)) 47] := hb65 h63
  have hS66 : Cls (fun w' => View w' (some ⟨b1, 0, none⟩) (bytesV (List.ofFn (n := 20) a.Publisher) ++ ([(v64 a.Seq), (v64 a.Born), (v32 a.Life), (.bool a.Gone), (v16 a.Priority), (v16 a.Weight), (v16 a.Port), (.string (str a.Target))] : List Value)) ∧ View w' (some ⟨b4, 0, none⟩) (bytesV (List.ofFn (n := 20) b.Publisher) ++ ([(v64 b.Seq), (v64 b.Born), (v32 b.Life), (.bool b.Gone), (v16 b.Priority), (v16 b.Weight), (v16 b.Port), (.string (str b.Target))] : List Value))) [1, 3, 6, 9, 13, 15, 18, 20, 28, 30, 33, 35, 38, 40, 43, 45] [] #[yy, yy, yy, yy, yy, yy, yy, yy, yy, yy, yy, nn, yy, yy, yy, yy, nn, yy, yy, yy, yy, nn, yy, yy, yy, yy, nn, yy, yy, yy, yy, nn, yy, yy, yy, yy, nn, yy, yy, yy, yy, nn, yy, yy, yy, yy, nn, nn, nn, nn] w61 := Cls.keep (⟨((Sat.pick [1] h62).isBlk.view0), h62.isBlk.view0⟩) (by kernel_rfl)
  refine ⟨hS66, ?_⟩
  obtain ⟨r1_5, hy67, hm⟩ := sp_bind hm
  refine GH.does (i := 11) (listed' := #[yy, yy, yy, yy, yy, yy, yy, yy, yy, yy, yy, yy, yy, yy, yy, yy, nn, yy, yy, yy, yy, nn, yy, yy, yy, yy, nn, yy, yy, yy, yy, nn, yy, yy, yy, yy, nn, yy, yy, yy, yy, nn, yy, yy, yy, yy, nn, nn, nn, nn]) rfl (by kernel_rfl) rfl rfl rfl rfl (does_fn 0 rfl rfl rfl en74 h62 (fun U hU hp hr hs => M_cmp_Compare_int_w (x := r1_3) (y_ := r1_4) hp hy67)) ?_
  rintro _ w68 ⟨U71, hb72, rfl, h70⟩
  have h69 : Sat W w68 [blk b4 (bytesV (List.ofFn (n := 20) b.Publisher) ++ ([(v64 b.Seq), (v64 b.Born), (v32 b.Life), (.bool b.Gone), (v16 b.Priority), (v16 b.Weight), (v16 b.Port), (.string (str b.Target))] : List Value)) 47, blk b1 (bytesV (List.ofFn (n := 20) a.Publisher) ++ ([(v64 a.Seq), (v64 a.Born), (v32 a.Life), (.bool a.Gone), (v16 a.Priority), (v16 a.Weight), (v16 a.Port), (.string (str a.Target))] : List Value)) 47] := hb72 h70
  have hS73 : Cls (fun w' => View w' (some ⟨b1, 0, none⟩) (bytesV (List.ofFn (n := 20) a.Publisher) ++ ([(v64 a.Seq), (v64 a.Born), (v32 a.Life), (.bool a.Gone), (v16 a.Priority), (v16 a.Weight), (v16 a.Port), (.string (str a.Target))] : List Value)) ∧ View w' (some ⟨b4, 0, none⟩) (bytesV (List.ofFn (n := 20) b.Publisher) ++ ([(v64 b.Seq), (v64 b.Born), (v32 b.Life), (.bool b.Gone), (v16 b.Priority), (v16 b.Weight), (v16 b.Port), (.string (str b.Target))] : List Value))) [1, 3, 6, 9, 13, 15, 18, 20, 28, 30, 33, 35, 38, 40, 43, 45] [] #[yy, yy, yy, yy, yy, yy, yy, yy, yy, yy, yy, yy, yy, yy, yy, yy, nn, yy, yy, yy, yy, nn, yy, yy, yy, yy, nn, yy, yy, yy, yy, nn, yy, yy, yy, yy, nn, yy, yy, yy, yy, nn, yy, yy, yy, yy, nn, nn, nn, nn] w68 := Cls.keep (⟨((Sat.pick [1] h69).isBlk.view0), h69.isBlk.view0⟩) (by kernel_rfl)
  refine ⟨hS73, ?_⟩
  obtain ⟨r1_6, hy74, hm⟩ := sp_bind hm
  refine GH.does (i := 16) (listed' := #[yy, yy, yy, yy, yy, yy, yy, yy, yy, yy, yy, yy, yy, yy, yy, yy, yy, yy, yy, yy, yy, nn, yy, yy, yy, yy, nn, yy, yy, yy, yy, nn, yy, yy, yy, yy, nn, yy, yy, yy, yy, nn, yy, yy, yy, yy, nn, nn, nn, nn]) rfl (by kernel_rfl) rfl rfl rfl rfl (does_fn 0 rfl rfl rfl en96 h69 (fun U hU hp hr hs => M_cmp_Compare_uint64_w (x := a.Born) (y_ := b.Born) hp hy74)) ?_
  rintro _ w75 ⟨U78, hb79, rfl, h77⟩
  have h76 : Sat W w75 [blk b4 (bytesV (List.ofFn (n := 20) b.Publisher) ++ ([(v64 b.Seq), (v64 b.Born), (v32 b.Life), (.bool b.Gone), (v16 b.Priority), (v16 b.Weight), (v16 b.Port), (.string (str b.Target))] : List Value)) 47, blk b1 (bytesV (List.ofFn (n := 20) a.Publisher) ++ ([(v64 a.Seq), (v64 a.Born), (v32 a.Life), (.bool a.Gone), (v16 a.Priority), (v16 a.Weight), (v16 a.Port), (.string (str a.Target))] : List Value)) 47] := hb79 h77
  have hS80 : Cls (fun w' => View w' (some ⟨b1, 0, none⟩) (bytesV (List.ofFn (n := 20) a.Publisher) ++ ([(v64 a.Seq), (v64 a.Born), (v32 a.Life), (.bool a.Gone), (v16 a.Priority), (v16 a.Weight), (v16 a.Port), (.string (str a.Target))] : List Value)) ∧ View w' (some ⟨b4, 0, none⟩) (bytesV (List.ofFn (n := 20) b.Publisher) ++ ([(v64 b.Seq), (v64 b.Born), (v32 b.Life), (.bool b.Gone), (v16 b.Priority), (v16 b.Weight), (v16 b.Port), (.string (str b.Target))] : List Value))) [1, 3, 6, 9, 13, 15, 18, 20, 28, 30, 33, 35, 38, 40, 43, 45] [] #[yy, yy, yy, yy, yy, yy, yy, yy, yy, yy, yy, yy, yy, yy, yy, yy, yy, yy, yy, yy, yy, nn, yy, yy, yy, yy, nn, yy, yy, yy, yy, nn, yy, yy, yy, yy, nn, yy, yy, yy, yy, nn, yy, yy, yy, yy, nn, nn, nn, nn] w75 := Cls.keep (⟨((Sat.pick [1] h76).isBlk.view0), h76.isBlk.view0⟩) (by kernel_rfl)
  refine ⟨hS80, ?_⟩
  obtain ⟨r1_7, hy81, hm⟩ := sp_bind hm
  refine GH.does (i := 21) (listed' := #[yy, yy, yy, yy, yy, yy, yy, yy, yy, yy, yy, yy, yy, yy, yy, yy, yy, yy, yy, yy, yy, yy, yy, yy, yy, yy, nn, yy, yy, yy, yy, nn, yy, yy, yy, yy, nn, yy, yy, yy, yy, nn, yy, yy, yy, yy, nn, nn, nn, nn]) rfl (by kernel_rfl) rfl rfl rfl rfl (does_fn 0 rfl rfl rfl en98 h76 (fun U hU hp hr hs => M_cmp_Compare_uint32_w (x := a.Life) (y_ := b.Life) hp hy81)) ?_
  rintro _ w82 ⟨U85, hb86, rfl, h84⟩
  have h83 : Sat W w82 [blk b4 (bytesV (List.ofFn (n := 20) b.Publisher) ++ ([(v64 b.Seq), (v64 b.Born), (v32 b.Life), (.bool b.Gone), (v16 b.Priority), (v16 b.Weight), (v16 b.Port), (.string (str b.Target))] : List Value)) 47, blk b1 (bytesV (List.ofFn (n := 20) a.Publisher) ++ ([(v64 a.Seq), (v64 a.Born), (v32 a.Life), (.bool a.Gone), (v16 a.Priority), (v16 a.Weight), (v16 a.Port), (.string (str a.Target))] : List Value)) 47] := hb86 h84
  have hS87 : Cls (fun w' => View w' (some ⟨b1, 0, none⟩) (bytesV (List.ofFn (n := 20) a.Publisher) ++ ([(v64 a.Seq), (v64 a.Born), (v32 a.Life), (.bool a.Gone), (v16 a.Priority), (v16 a.Weight), (v16 a.Port), (.string (str a.Target))] : List Value)) ∧ View w' (some ⟨b4, 0, none⟩) (bytesV (List.ofFn (n := 20) b.Publisher) ++ ([(v64 b.Seq), (v64 b.Born), (v32 b.Life), (.bool b.Gone), (v16 b.Priority), (v16 b.Weight), (v16 b.Port), (.string (str b.Target))] : List Value))) [1, 3, 6, 9, 13, 15, 18, 20, 28, 30, 33, 35, 38, 40, 43, 45] [] #[yy, yy, yy, yy, yy, yy, yy, yy, yy, yy, yy, yy, yy, yy, yy, yy, yy, yy, yy, yy, yy, yy, yy, yy, yy, yy, nn, yy, yy, yy, yy, nn, yy, yy, yy, yy, nn, yy, yy, yy, yy, nn, yy, yy, yy, yy, nn, nn, nn, nn] w82 := Cls.keep (⟨((Sat.pick [1] h83).isBlk.view0), h83.isBlk.view0⟩) (by kernel_rfl)
  refine ⟨hS87, ?_⟩
  obtain ⟨_, hy88, hm⟩ := sp_bind hm
  refine GH.does (i := 26) (listed' := #[yy, yy, yy, yy, yy, yy, yy, yy, yy, yy, yy, yy, yy, yy, yy, yy, yy, yy, yy, yy, yy, yy, yy, yy, yy, yy, yy, yy, yy, yy, yy, nn, yy, yy, yy, yy, nn, yy, yy, yy, yy, nn, yy, yy, yy, yy, nn, nn, nn, nn]) rfl (by kernel_rfl) rfl rfl rfl rfl (does_fn 0 rfl rfl rfl en99 h83 (fun U hU hp hr hs => M_bytes_Compare_vv_w (a2 := List.ofFn a.Publisher) (b := List.ofFn b.Publisher) (V.of_bytes (V.span_head (Rest.blk (Rest.front 1 hr) 0))) (by simp) (V.of_bytes (V.span_head (Rest.blk hr 0))) (by simp) hp hy88)) ?_
  rintro _ w89 ⟨U92, hb93, rfl, h91⟩
  have h90 : Sat W w89 [blk b4 (bytesV (List.ofFn (n := 20) b.Publisher) ++ ([(v64 b.Seq), (v64 b.Born), (v32 b.Life), (.bool b.Gone), (v16 b.Priority), (v16 b.Weight), (v16 b.Port), (.string (str b.Target))] : List Value)) 47, blk b1 (bytesV (List.ofFn (n := 20) a.Publisher) ++ ([(v64 a.Seq), (v64 a.Born), (v32 a.Life), (.bool a.Gone), (v16 a.Priority), (v16 a.Weight), (v16 a.Port), (.string (str a.Target))] : List Value)) 47] := hb93 h91
  have hS94 : Cls (fun w' => View w' (some ⟨b1, 0, none⟩) (bytesV (List.ofFn (n := 20) a.Publisher) ++ ([(v64 a.Seq), (v64 a.Born), (v32 a.Life), (.bool a.Gone), (v16 a.Priority), (v16 a.Weight), (v16 a.Port), (.string (str a.Target))] : List Value)) ∧ View w' (some ⟨b4, 0, none⟩) (bytesV (List.ofFn (n := 20) b.Publisher) ++ ([(v64 b.Seq), (v64 b.Born), (v32 b.Life), (.bool b.Gone), (v16 b.Priority), (v16 b.Weight), (v16 b.Port), (.string (str b.Target))] : List Value))) [1, 3, 6, 9, 13, 15, 18, 20, 28, 30, 33, 35, 38, 40, 43, 45] [] #[yy, yy, yy, yy, yy, yy, yy, yy, yy, yy, yy, yy, yy, yy, yy, yy, yy, yy, yy, yy, yy, yy, yy, yy, yy, yy, yy, yy, yy, yy, yy, nn, yy, yy, yy, yy, nn, yy, yy, yy, yy, nn, yy, yy, yy, yy, nn, nn, nn, nn] w89 := Cls.keep (⟨((Sat.pick [1] h90).isBlk.view0), h90.isBlk.view0⟩) (by kernel_rfl)
  refine ⟨hS94, ?_⟩
  obtain ⟨r1_8, hy95, hm⟩ := sp_bind hm
  refine GH.does (i := 31) (listed' := #[yy, yy, yy, yy, yy, yy, yy, yy, yy, yy, yy, yy, yy, yy, yy, yy, yy, yy, yy, yy, yy, yy, yy, yy, yy, yy, yy, yy, yy, yy, yy, yy, yy, yy, yy, yy, nn, yy, yy, yy, yy, nn, yy, yy, yy, yy, nn, nn, nn, nn]) rfl (by kernel_rfl) rfl rfl rfl rfl (does_fn 0 rfl rfl rfl en73 h90 (fun U hU hp hr hs => M_cmp_Compare_uint16_w (x := a.Priority) (y_ := b.Priority) hp hy95)) ?_
  rintro _ w96 ⟨U99, hb100, rfl, h98⟩
  have h97 : Sat W w96 [blk b4 (bytesV (List.ofFn (n := 20) b.Publisher) ++ ([(v64 b.Seq), (v64 b.Born), (v32 b.Life), (.bool b.Gone), (v16 b.Priority), (v16 b.Weight), (v16 b.Port), (.string (str b.Target))] : List Value)) 47, blk b1 (bytesV (List.ofFn (n := 20) a.Publisher) ++ ([(v64 a.Seq), (v64 a.Born), (v32 a.Life), (.bool a.Gone), (v16 a.Priority), (v16 a.Weight), (v16 a.Port), (.string (str a.Target))] : List Value)) 47] := hb100 h98
  have hS101 : Cls (fun w' => View w' (some ⟨b1, 0, none⟩) (bytesV (List.ofFn (n := 20) a.Publisher) ++ ([(v64 a.Seq), (v64 a.Born), (v32 a.Life), (.bool a.Gone), (v16 a.Priority), (v16 a.Weight), (v16 a.Port), (.string (str a.Target))] : List Value)) ∧ View w' (some ⟨b4, 0, none⟩) (bytesV (List.ofFn (n := 20) b.Publisher) ++ ([(v64 b.Seq), (v64 b.Born), (v32 b.Life), (.bool b.Gone), (v16 b.Priority), (v16 b.Weight), (v16 b.Port), (.string (str b.Target))] : List Value))) [1, 3, 6, 9, 13, 15, 18, 20, 28, 30, 33, 35, 38, 40, 43, 45] [] #[yy, yy, yy, yy, yy, yy, yy, yy, yy, yy, yy, yy, yy, yy, yy, yy, yy, yy, yy, yy, yy, yy, yy, yy, yy, yy, yy, yy, yy, yy, yy, yy, yy, yy, yy, yy, nn, yy, yy, yy, yy, nn, yy, yy, yy, yy, nn, nn, nn, nn] w96 := Cls.keep (⟨((Sat.pick [1] h97).isBlk.view0), h97.isBlk.view0⟩) (by kernel_rfl)
  refine ⟨hS101, ?_⟩
  obtain ⟨r1_9, hy102, hm⟩ := sp_bind hm
  refine GH.does (i := 36) (listed' := #[yy, yy, yy, yy, yy, yy, yy, yy, yy, yy, yy, yy, yy, yy, yy, yy, yy, yy, yy, yy, yy, yy, yy, yy, yy, yy, yy, yy, yy, yy, yy, yy, yy, yy, yy, yy, yy, yy, yy, yy, yy, nn, yy, yy, yy, yy, nn, nn, nn, nn]) rfl (by kernel_rfl) rfl rfl rfl rfl (does_fn 0 rfl rfl rfl en73 h97 (fun U hU hp hr hs => M_cmp_Compare_uint16_w (x := a.Weight) (y_ := b.Weight) hp hy102)) ?_
  rintro _ w103 ⟨U106, hb107, rfl, h105⟩
  have h104 : Sat W w103 [blk b4 (bytesV (List.ofFn (n := 20) b.Publisher) ++ ([(v64 b.Seq), (v64 b.Born), (v32 b.Life), (.bool b.Gone), (v16 b.Priority), (v16 b.Weight), (v16 b.Port), (.string (str b.Target))] : List Value)) 47, blk b1 (bytesV (List.ofFn (n := 20) a.Publisher) ++ ([(v64 a.Seq), (v64 a.Born), (v32 a.Life), (.bool a.Gone), (v16 a.Priority), (v16 a.Weight), (v16 a.Port), (.string (str a.Target))] : List Value)) 47] := hb107 h105
  have hS108 : Cls (fun w' => View w' (some ⟨b1, 0, none⟩) (bytesV (List.ofFn (n := 20) a.Publisher) ++ ([(v64 a.Seq), (v64 a.Born), (v32 a.Life), (.bool a.Gone), (v16 a.Priority), (v16 a.Weight), (v16 a.Port), (.string (str a.Target))] : List Value)) ∧ View w' (some ⟨b4, 0, none⟩) (bytesV (List.ofFn (n := 20) b.Publisher) ++ ([(v64 b.Seq), (v64 b.Born), (v32 b.Life), (.bool b.Gone), (v16 b.Priority), (v16 b.Weight), (v16 b.Port), (.string (str b.Target))] : List Value))) [1, 3, 6, 9, 13, 15, 18, 20, 28, 30, 33, 35, 38, 40, 43, 45] [] #[yy, yy, yy, yy, yy, yy, yy, yy, yy, yy, yy, yy, yy, yy, yy, yy, yy, yy, yy, yy, yy, yy, yy, yy, yy, yy, yy, yy, yy, yy, yy, yy, yy, yy, yy, yy, yy, yy, yy, yy, yy, nn, yy, yy, yy, yy, nn, nn, nn, nn] w103 := Cls.keep (⟨((Sat.pick [1] h104).isBlk.view0), h104.isBlk.view0⟩) (by kernel_rfl)
  refine ⟨hS108, ?_⟩
  obtain ⟨r1_10, hy109, hm⟩ := sp_bind hm
  refine GH.does (i := 41) (listed' := #[yy, yy, yy, yy, yy, yy, yy, yy, yy, yy, yy, yy, yy, yy, yy, yy, yy, yy, yy, yy, yy, yy, yy, yy, yy, yy, yy, yy, yy, yy, yy, yy, yy, yy, yy, yy, yy, yy, yy, yy, yy, yy, yy, yy, yy, yy, nn, nn, nn, nn]) rfl (by kernel_rfl) rfl rfl rfl rfl (does_fn 0 rfl rfl rfl en73 h104 (fun U hU hp hr hs => M_cmp_Compare_uint16_w (x := a.Port) (y_ := b.Port) hp hy109)) ?_
  rintro _ w110 ⟨U113, hb114, rfl, h112⟩
  have h111 : Sat W w110 [blk b4 (bytesV (List.ofFn (n := 20) b.Publisher) ++ ([(v64 b.Seq), (v64 b.Born), (v32 b.Life), (.bool b.Gone), (v16 b.Priority), (v16 b.Weight), (v16 b.Port), (.string (str b.Target))] : List Value)) 47, blk b1 (bytesV (List.ofFn (n := 20) a.Publisher) ++ ([(v64 a.Seq), (v64 a.Born), (v32 a.Life), (.bool a.Gone), (v16 a.Priority), (v16 a.Weight), (v16 a.Port), (.string (str a.Target))] : List Value)) 47] := hb114 h112
  have hS115 : Cls (fun w' => View w' (some ⟨b1, 0, none⟩) (bytesV (List.ofFn (n := 20) a.Publisher) ++ ([(v64 a.Seq), (v64 a.Born), (v32 a.Life), (.bool a.Gone), (v16 a.Priority), (v16 a.Weight), (v16 a.Port), (.string (str a.Target))] : List Value)) ∧ View w' (some ⟨b4, 0, none⟩) (bytesV (List.ofFn (n := 20) b.Publisher) ++ ([(v64 b.Seq), (v64 b.Born), (v32 b.Life), (.bool b.Gone), (v16 b.Priority), (v16 b.Weight), (v16 b.Port), (.string (str b.Target))] : List Value))) [1, 3, 6, 9, 13, 15, 18, 20, 28, 30, 33, 35, 38, 40, 43, 45] [] #[yy, yy, yy, yy, yy, yy, yy, yy, yy, yy, yy, yy, yy, yy, yy, yy, yy, yy, yy, yy, yy, yy, yy, yy, yy, yy, yy, yy, yy, yy, yy, yy, yy, yy, yy, yy, yy, yy, yy, yy, yy, yy, yy, yy, yy, yy, nn, nn, nn, nn] w110 := Cls.keep (⟨((Sat.pick [1] h111).isBlk.view0), h111.isBlk.view0⟩) (by kernel_rfl)
  refine ⟨hS115, ?_⟩
  obtain ⟨r1_11, hy116, hm⟩ := sp_bind hm
  refine GH.does (i := 46) (listed' := #[yy, yy, yy, yy, yy, yy, yy, yy, yy, yy, yy, yy, yy, yy, yy, yy, yy, yy, yy, yy, yy, yy, yy, yy, yy, yy, yy, yy, yy, yy, yy, yy, yy, yy, yy, yy, yy, yy, yy, yy, yy, yy, yy, yy, yy, yy, yy, nn, nn, nn]) rfl (by kernel_rfl) rfl rfl rfl rfl (does_fn 0 rfl rfl rfl en100 h111 (fun U hU hp hr hs => M_cmp_Compare_string_w (x := a.Target) (y_ := b.Target) hp hy116)) ?_
  rintro _ w117 ⟨U120, hb121, rfl, h119⟩
  have h118 : Sat W w117 [blk b4 (bytesV (List.ofFn (n := 20) b.Publisher) ++ ([(v64 b.Seq), (v64 b.Born), (v32 b.Life), (.bool b.Gone), (v16 b.Priority), (v16 b.Weight), (v16 b.Port), (.string (str b.Target))] : List Value)) 47, blk b1 (bytesV (List.ofFn (n := 20) a.Publisher) ++ ([(v64 a.Seq), (v64 a.Born), (v32 a.Life), (.bool a.Gone), (v16 a.Priority), (v16 a.Weight), (v16 a.Port), (.string (str a.Target))] : List Value)) 47] := hb121 h119
  have hS122 : Cls (fun w' => View w' (some ⟨b1, 0, none⟩) (bytesV (List.ofFn (n := 20) a.Publisher) ++ ([(v64 a.Seq), (v64 a.Born), (v32 a.Life), (.bool a.Gone), (v16 a.Priority), (v16 a.Weight), (v16 a.Port), (.string (str a.Target))] : List Value)) ∧ View w' (some ⟨b4, 0, none⟩) (bytesV (List.ofFn (n := 20) b.Publisher) ++ ([(v64 b.Seq), (v64 b.Born), (v32 b.Life), (.bool b.Gone), (v16 b.Priority), (v16 b.Weight), (v16 b.Port), (.string (str b.Target))] : List Value))) [1, 3, 6, 9, 13, 15, 18, 20, 28, 30, 33, 35, 38, 40, 43, 45] [] #[yy, yy, yy, yy, yy, yy, yy, yy, yy, yy, yy, yy, yy, yy, yy, yy, yy, yy, yy, yy, yy, yy, yy, yy, yy, yy, yy, yy, yy, yy, yy, yy, yy, yy, yy, yy, yy, yy, yy, yy, yy, yy, yy, yy, yy, yy, yy, nn, nn, nn] w117 := Cls.keep (⟨((Sat.pick [1] h118).isBlk.view0), h118.isBlk.view0⟩) (by kernel_rfl)
  refine ⟨hS122, ?_⟩
  refine GH.does (i := 47) (listed' := #[yy, yy, yy, yy, yy, yy, yy, yy, yy, yy, yy, yy, yy, yy, yy, yy, yy, yy, yy, yy, yy, yy, yy, yy, yy, yy, yy, yy, yy, yy, yy, yy, yy, yy, yy, yy, yy, yy, yy, yy, yy, yy, yy, yy, yy, yy, yy, yy, nn, nn]) rfl (by kernel_rfl) rfl rfl rfl rfl (does_lit (E := elInt) (l := [r1_2, r1_5, r1_6, r1_7, Lib.compareBytes (List.ofFn a.Publisher) (List.ofFn b.Publisher), r1_8, r1_9, r1_10, r1_11]) (vs := [(vI r1_2), (vI r1_5), (vI r1_6), (vI r1_7), (vI (Lib.compareBytes (List.ofFn a.Publisher) (List.ofFn b.Publisher))), (vI r1_8), (vI r1_9), (vI r1_10), (vI r1_11)]) (cs := [(vI r1_2), (vI r1_5), (vI r1_6), (vI r1_7), (vI (Lib.compareBytes (List.ofFn a.Publisher) (List.ofFn b.Publisher))), (vI r1_8), (vI r1_9), (vI r1_10), (vI r1_11)]) (e := 3) h118 rfl (by kernel_rfl) rfl rfl (by decide)) ?_
  rintro _ w124 ⟨a123, rfl, h125⟩
  have hS126 : Cls (fun w' => View w' (some ⟨b1, 0, none⟩) (bytesV (List.ofFn (n := 20) a.Publisher) ++ ([(v64 a.Seq), (v64 a.Born), (v32 a.Life), (.bool a.Gone), (v16 a.Priority), (v16 a.Weight), (v16 a.Port), (.string (str a.Target))] : List Value)) ∧ View w' (some ⟨b4, 0, none⟩) (bytesV (List.ofFn (n := 20) b.Publisher) ++ ([(v64 b.Seq), (v64 b.Born), (v32 b.Life), (.bool b.Gone), (v16 b.Priority), (v16 b.Weight), (v16 b.Port), (.string (str b.Target))] : List Value))) [1, 3, 6, 9, 13, 15, 18, 20, 28, 30, 33, 35, 38, 40, 43, 45] [] #[yy, yy, yy, yy, yy, yy, yy, yy, yy, yy, yy, yy, yy, yy, yy, yy, yy, yy, yy, yy, yy, yy, yy, yy, yy, yy, yy, yy, yy, yy, yy, yy, yy, yy, yy, yy, yy, yy, yy, yy, yy, yy, yy, yy, yy, yy, yy, yy, nn, nn] w124 := Cls.keep (⟨((Sat.pick [2] h125).isBlk.view0), ((Sat.pick [1] h125).isBlk.view0)⟩) (by kernel_rfl)
  refine ⟨hS126, ?_⟩
  obtain ⟨r1_12, hy127, hm⟩ := sp_bind hm
  refine GH.does (i := 48) (listed' := #[yy, yy, yy, yy, yy, yy, yy, yy, yy, yy, yy, yy, yy, yy, yy, yy, yy, yy, yy, yy, yy, yy, yy, yy, yy, yy, yy, yy, yy, yy, yy, yy, yy, yy, yy, yy, yy, yy, yy, yy, yy, yy, yy, yy, yy, yy, yy, yy, yy, nn]) rfl (by kernel_rfl) rfl rfl rfl rfl (does_fn 0 rfl rfl rfl en72 h125 (fun U hU hp hr hs => M_cmp_Or_int_v_w (Rest.view hr) (Sat.own_cap h125).1 hp hy127)) ?_
  rintro _ w128 ⟨U131, hb132, rfl, h130⟩
  have h129 : Sat W w128 [ow elInt a123 9 3 [r1_2, r1_5, r1_6, r1_7, Lib.compareBytes (List.ofFn a.Publisher) (List.ofFn b.Publisher), r1_8, r1_9, r1_10, r1_11], blk b4 (bytesV (List.ofFn (n := 20) b.Publisher) ++ ([(v64 b.Seq), (v64 b.Born), (v32 b.Life), (.bool b.Gone), (v16 b.Priority), (v16 b.Weight), (v16 b.Port), (.string (str b.Target))] : List Value)) 47, blk b1 (bytesV (List.ofFn (n := 20) a.Publisher) ++ ([(v64 a.Seq), (v64 a.Born), (v32 a.Life), (.bool a.Gone), (v16 a.Priority), (v16 a.Weight), (v16 a.Port), (.string (str a.Target))] : List Value)) 47] := hb132 h130
  have hS133 : Cls (fun w' => View w' (some ⟨b1, 0, none⟩) (bytesV (List.ofFn (n := 20) a.Publisher) ++ ([(v64 a.Seq), (v64 a.Born), (v32 a.Life), (.bool a.Gone), (v16 a.Priority), (v16 a.Weight), (v16 a.Port), (.string (str a.Target))] : List Value)) ∧ View w' (some ⟨b4, 0, none⟩) (bytesV (List.ofFn (n := 20) b.Publisher) ++ ([(v64 b.Seq), (v64 b.Born), (v32 b.Life), (.bool b.Gone), (v16 b.Priority), (v16 b.Weight), (v16 b.Port), (.string (str b.Target))] : List Value))) [1, 3, 6, 9, 13, 15, 18, 20, 28, 30, 33, 35, 38, 40, 43, 45] [] #[yy, yy, yy, yy, yy, yy, yy, yy, yy, yy, yy, yy, yy, yy, yy, yy, yy, yy, yy, yy, yy, yy, yy, yy, yy, yy, yy, yy, yy, yy, yy, yy, yy, yy, yy, yy, yy, yy, yy, yy, yy, yy, yy, yy, yy, yy, yy, yy, yy, nn] w128 := Cls.keep (⟨((Sat.pick [2] h129).isBlk.view0), ((Sat.pick [1] h129).isBlk.view0)⟩) (by kernel_rfl)
  refine ⟨hS133, ?_⟩
  refine GH.yl (i := 49) (listed' := #[yy, yy, yy, yy, yy, yy, yy, yy, yy, yy, yy, yy, yy, yy, yy, yy, yy, yy, yy, yy, yy, yy, yy, yy, yy, yy, yy, yy, yy, yy, yy, yy, yy, yy, yy, yy, yy, yy, yy, yy, yy, yy, yy, yy, yy, yy, yy, yy, yy, yy]) rfl (by kernel_rfl) rfl (NP.next NP.body) rfl rfl rfl (fun w' => yl_assign rfl) hS133 (fun hS134 => ?_)
  refine GH.done (by kernel_rfl) ?_
  refine QA.then_normal ?_
  refine C.ret ?_
  refine QA.ret1 rfl rfl ?_
  obtain rfl := sp_ret1 hm
  exact ⟨rfl, (Sat.pick [] h129)⟩
set_option maxRecDepth 20000 in
set_option maxHeartbeats 1000000 in
theorem M_inst_Stone_w {W : Base} {w : World} {i : G_api_Instance}  (h : Sat W w []) {r1 : G_api_Instance} (hm : M_inst_Stone i = some r1) :
    Calls Try.prog 44 #[(.agg (bytesV (List.ofFn (n := 20) i.Publisher) ++ ([(v64 i.Seq), (v64 i.Born), (v32 i.Life), (.bool i.Gone), (v16 i.Priority), (v16 i.Weight), (v16 i.Port), (.string (str i.Target))] : List Value)).toArray)] w (Ret fun v w' => v = (.agg (bytesV (List.ofFn (n := 20) r1.Publisher) ++ ([(v64 r1.Seq), (v64 r1.Born), (v32 r1.Life), (.bool r1.Gone), (v16 r1.Priority), (v16 r1.Weight), (v16 r1.Port), (.string (str r1.Target))] : List Value)).toArray) ∧ Sat W w' []) := by
  unfold M_inst_Stone at hm
  refine C.enter (N := 18) Try.func44 rfl Try.ntmps44 rfl ?_
  show C _ _ _ [(0, (.agg (bytesV (List.ofFn (n := 20) i.Publisher) ++ ([(v64 i.Seq), (v64 i.Born), (v32 i.Life), (.bool i.Gone), (v16 i.Priority), (v16 i.Weight), (v16 i.Port), (.string (str i.Target))] : List Value)).toArray))] _ _
  refine C.seq ?_
  refine C.region ?_
  refine G.does (does_box (cs := (bytesV (List.ofFn (n := 20) i.Publisher) ++ ([(v64 i.Seq), (v64 i.Born), (v32 i.Life), (.bool i.Gone), (v16 i.Priority), (v16 i.Weight), (v16 i.Port), (.string (str i.Target))] : List Value))) h rfl rfl) rfl rfl rfl ?_
  rintro _ w2 ⟨b1, rfl, h3⟩
  refine G.does (does_alloc (cs := (bytesV (List.ofFn (n := 20) (fun _ => 0)) ++ ([(.int .u64 0), (.int .u64 0), (.int .u32 0), (.bool false), (.int .u16 0), (.int .u16 0), (.int .u16 0), (.string (str ([] : List UInt8)))] : List Value))) h3 z47 rfl) rfl rfl rfl ?_
  rintro _ w5 ⟨b4, rfl, h6⟩
  refine G.nil ?_
  refine QA.then_normal ?_
  refine C.seq ?_
  refine C.region ?_
  refine G.yl (yl_fieldAddr fo47_1 rfl) rfl rfl rfl ?_
  refine G.yl (yl_load (v := (v64 i.Seq)) ag28 rfl (View.at_ (j := 0) (View.span_tail (Sat.pick [1] h6).isBlk.view0) rfl)) rfl rfl rfl ?_
  refine G.yl (yl_assign rfl) rfl rfl rfl ?_
  refine G.nil ?_
  refine QA.then_normal ?_
  refine C.seq ?_
  refine C.seq ?_
  refine C.region ?_
  refine G.yl (yl_move rfl) rfl rfl rfl ?_
  refine G.yl (yl_ne64 (b := 18446744073709551615) rfl rfl) rfl rfl rfl ?_
  refine G.nil ?_
  refine QA.then_normal ?_
  rcases sp_ite hm with ⟨hc7, hm⟩ | ⟨hc7, hm⟩
  · refine C.cond_f rfl (not_f (dec_t hc7)) ?_
    refine C.skip ?_
    refine QA.then_normal ?_
    refine C.seq ?_
    refine C.region ?_
    refine G.yl (yl_fieldAddr fo47_0 rfl) rfl rfl rfl ?_
    refine G.yl (yl_loadN (vs := (bytesV (List.ofFn (n := 20) i.Publisher))) ag43 sz43 (by simp [bytesV_length]) rfl (View.span_head (Sat.pick [1] h6).isBlk.view0)) rfl rfl rfl ?_
    refine G.yl (yl_move rfl) rfl rfl rfl ?_
    refine G.yl (yl_fieldAddr fo47_2 rfl) rfl rfl rfl ?_
    refine G.yl (yl_load (v := (v64 i.Born)) ag28 rfl (View.at_ (j := 1) (View.span_tail (Sat.pick [1] h6).isBlk.view0) rfl)) rfl rfl rfl ?_
    refine G.yl (yl_fieldAddr fo47_3 rfl) rfl rfl rfl ?_
    refine G.yl (yl_load (v := (v32 i.Life)) ag44 rfl (View.at_ (j := 2) (View.span_tail (Sat.pick [1] h6).isBlk.view0) rfl)) rfl rfl rfl ?_
    refine G.yl (yl_build (vs := [(.agg (bytesV (List.ofFn (n := 20) i.Publisher)).toArray), (v64 i.Seq), (v64 i.Born), (v32 i.Life), (.bool true)]) (cells := (bytesV (List.ofFn (n := 20) i.Publisher) ++ ([(v64 i.Seq), (v64 i.Born), (v32 i.Life), (.bool true), (.int .u16 0), (.int .u16 0), (.int .u16 0), (.string (str ([] : List UInt8)))] : List Value)).toArray) rfl (by kernel_rfl)) rfl rfl rfl ?_
    refine G.unit (does_store (vs := (bytesV (List.ofFn (n := 20) i.Publisher) ++ ([(v64 i.Seq), (v64 i.Born), (v32 i.Life), (.bool true), (.int .u16 0), (.int .u16 0), (.int .u16 0), (.string (str ([] : List UInt8)))] : List Value))) h6 sz47 rfl rfl rfl (by simp [bytesV_length]) (List.forall_mem_append.2 ⟨(bytesV_one _), (List.forall_mem_cons.2 ⟨rfl, (List.forall_mem_cons.2 ⟨rfl, (List.forall_mem_cons.2 ⟨rfl, (List.forall_mem_cons.2 ⟨rfl, (List.forall_mem_cons.2 ⟨rfl, (List.forall_mem_cons.2 ⟨rfl, (List.forall_mem_cons.2 ⟨rfl, (List.forall_mem_cons.2 ⟨rfl, (fun _ hh => by cases hh)⟩)⟩)⟩)⟩)⟩)⟩)⟩)⟩)⟩) (by simp [bytesV_length])) rfl rfl ?_
    rintro _ w8 h10
    have h9 : Sat W w8 [blk b4 (bytesV (List.ofFn (n := 20) i.Publisher) ++ ([(v64 i.Seq), (v64 i.Born), (v32 i.Life), (.bool true), (.int .u16 0), (.int .u16 0), (.int .u16 0), (.string (str ([] : List UInt8)))] : List Value)) 47, blk b1 (bytesV (List.ofFn (n := 20) i.Publisher) ++ ([(v64 i.Seq), (v64 i.Born), (v32 i.Life), (.bool i.Gone), (v16 i.Priority), (v16 i.Weight), (v16 i.Port), (.string (str i.Target))] : List Value)) 47] := sl_blk (setN_all _ _ (by simp [bytesV_length])) h10
    refine G.nil ?_
    refine QA.then_normal ?_
    refine C.ret ?_
    refine QA.ret_c rfl (InCell.many (vs := (bytesV (List.ofFn (n := 20) i.Publisher) ++ ([(v64 i.Seq), (v64 i.Born), (v32 i.Life), (.bool true), (.int .u16 0), (.int .u16 0), (.int .u16 0), (.string (str ([] : List UInt8)))] : List Value))) rfl ag47 sz47 (by simp [bytesV_length]) (h9.isBlk.view0)) ?_
    obtain rfl := sp_ret1 hm
    exact ⟨rfl, (Sat.pick [] h9)⟩
  · refine C.cond_t rfl (not_t (dec_f hc7)) ?_
    refine C.region ?_
    refine G.yl (yl_move rfl) rfl rfl rfl ?_
    refine G.yl (yl_add64 (b := 1) rfl rfl) rfl rfl rfl ?_
    refine G.yl (yl_assign rfl) rfl rfl rfl ?_
    refine G.nil ?_
    refine QA.then_normal ?_
    refine C.seq ?_
    refine C.region ?_
    refine G.yl (yl_fieldAddr fo47_0 rfl) rfl rfl rfl ?_
    refine G.yl (yl_loadN (vs := (bytesV (List.ofFn (n := 20) i.Publisher))) ag43 sz43 (by simp [bytesV_length]) rfl (View.span_head (Sat.pick [1] h6).isBlk.view0)) rfl rfl rfl ?_
    refine G.yl (yl_move rfl) rfl rfl rfl ?_
    refine G.yl (yl_fieldAddr fo47_2 rfl) rfl rfl rfl ?_
    refine G.yl (yl_load (v := (v64 i.Born)) ag28 rfl (View.at_ (j := 1) (View.span_tail (Sat.pick [1] h6).isBlk.view0) rfl)) rfl rfl rfl ?_
    refine G.yl (yl_fieldAddr fo47_3 rfl) rfl rfl rfl ?_
    refine G.yl (yl_load (v := (v32 i.Life)) ag44 rfl (View.at_ (j := 2) (View.span_tail (Sat.pick [1] h6).isBlk.view0) rfl)) rfl rfl rfl ?_
    refine G.yl (yl_build (vs := [(.agg (bytesV (List.ofFn (n := 20) i.Publisher)).toArray), (v64 (i.Seq + 1)), (v64 i.Born), (v32 i.Life), (.bool true)]) (cells := (bytesV (List.ofFn (n := 20) i.Publisher) ++ ([(v64 (i.Seq + 1)), (v64 i.Born), (v32 i.Life), (.bool true), (.int .u16 0), (.int .u16 0), (.int .u16 0), (.string (str ([] : List UInt8)))] : List Value)).toArray) rfl (by kernel_rfl)) rfl rfl rfl ?_
    refine G.unit (does_store (vs := (bytesV (List.ofFn (n := 20) i.Publisher) ++ ([(v64 (i.Seq + 1)), (v64 i.Born), (v32 i.Life), (.bool true), (.int .u16 0), (.int .u16 0), (.int .u16 0), (.string (str ([] : List UInt8)))] : List Value))) h6 sz47 rfl rfl rfl (by simp [bytesV_length]) (List.forall_mem_append.2 ⟨(bytesV_one _), (List.forall_mem_cons.2 ⟨rfl, (List.forall_mem_cons.2 ⟨rfl, (List.forall_mem_cons.2 ⟨rfl, (List.forall_mem_cons.2 ⟨rfl, (List.forall_mem_cons.2 ⟨rfl, (List.forall_mem_cons.2 ⟨rfl, (List.forall_mem_cons.2 ⟨rfl, (List.forall_mem_cons.2 ⟨rfl, (fun _ hh => by cases hh)⟩)⟩)⟩)⟩)⟩)⟩)⟩)⟩)⟩) (by simp [bytesV_length])) rfl rfl ?_
    rintro _ w11 h13
    have h12 : Sat W w11 [blk b4 (bytesV (List.ofFn (n := 20) i.Publisher) ++ ([(v64 (i.Seq + 1)), (v64 i.Born), (v32 i.Life), (.bool true), (.int .u16 0), (.int .u16 0), (.int .u16 0), (.string (str ([] : List UInt8)))] : List Value)) 47, blk b1 (bytesV (List.ofFn (n := 20) i.Publisher) ++ ([(v64 i.Seq), (v64 i.Born), (v32 i.Life), (.bool i.Gone), (v16 i.Priority), (v16 i.Weight), (v16 i.Port), (.string (str i.Target))] : List Value)) 47] := sl_blk (setN_all _ _ (by simp [bytesV_length])) h13
    refine G.nil ?_
    refine QA.then_normal ?_
    refine C.ret ?_
    refine QA.ret_c rfl (InCell.many (vs := (bytesV (List.ofFn (n := 20) i.Publisher) ++ ([(v64 (i.Seq + 1)), (v64 i.Born), (v32 i.Life), (.bool true), (.int .u16 0), (.int .u16 0), (.int .u16 0), (.string (str ([] : List UInt8)))] : List Value))) rfl ag47 sz47 (by simp [bytesV_length]) (h12.isBlk.view0)) ?_
    obtain rfl := sp_ret1 hm
    exact ⟨rfl, (Sat.pick [] h12)⟩
end Go.Proofs.Ytgabplankmljfaa
