/-
  That the functions of the program compute what their Lean functions say, part 2. No condition.
-/
import Derived.Test.YtgabplankmljfaaInstBackW1
namespace Go.Proofs.Ytgabplankmljfaa
open Go Go.RowKit
set_option linter.unusedVariables false
set_option linter.unusedSimpArgs false
set_option linter.unnecessarySimpa false
set_option maxRecDepth 20000 in
set_option maxHeartbeats 1000000 in
theorem M_signpostlaw11_InstBack_v_w {W : Base} {w : World} {a : G_api_Instance} {b : G_api_Instance} {a2 : Option Addr} {c : Nat} {behind : List UInt8} (hv_behind : V W a2 (elU8.row behind)) (hq_behind : behind.length ≤ c) (h : Sat W w []) {r1 : Bool} (hm : M_signpostlaw11_InstBack_v a b behind = some r1) :
    Calls Try.prog 10 #[(.agg (bytesV (List.ofFn (n := 20) a.Publisher) ++ ([(v64 a.Seq), (v64 a.Born), (v32 a.Life), (.bool a.Gone), (v16 a.Priority), (v16 a.Weight), (v16 a.Port), (.string (str a.Target))] : List Value)).toArray), (.agg (bytesV (List.ofFn (n := 20) b.Publisher) ++ ([(v64 b.Seq), (v64 b.Born), (v32 b.Life), (.bool b.Gone), (v16 b.Priority), (v16 b.Weight), (v16 b.Port), (.string (str b.Target))] : List Value)).toArray), (.slice a2 behind.length c)] w (Ret fun v w' => v = (.bool r1) ∧ Sat W w' []) := by
  unfold M_signpostlaw11_InstBack_v at hm
  refine C.enter (N := 136) Try.func10 rfl Try.ntmps10 rfl ?_
  show C _ _ _ [(0, (.agg (bytesV (List.ofFn (n := 20) a.Publisher) ++ ([(v64 a.Seq), (v64 a.Born), (v32 a.Life), (.bool a.Gone), (v16 a.Priority), (v16 a.Weight), (v16 a.Port), (.string (str a.Target))] : List Value)).toArray)), (1, (.agg (bytesV (List.ofFn (n := 20) b.Publisher) ++ ([(v64 b.Seq), (v64 b.Born), (v32 b.Life), (.bool b.Gone), (v16 b.Priority), (v16 b.Weight), (v16 b.Port), (.string (str b.Target))] : List Value)).toArray)), (2, (.slice a2 behind.length c))] _ _
  refine C.seq ?_
  refine C.region ?_
  refine G.does (does_box (cs := (bytesV (List.ofFn (n := 20) a.Publisher) ++ ([(v64 a.Seq), (v64 a.Born), (v32 a.Life), (.bool a.Gone), (v16 a.Priority), (v16 a.Weight), (v16 a.Port), (.string (str a.Target))] : List Value))) h rfl rfl) rfl rfl rfl ?_
  rintro _ w2 ⟨b1, rfl, h3⟩
  refine G.does (does_box (cs := (bytesV (List.ofFn (n := 20) b.Publisher) ++ ([(v64 b.Seq), (v64 b.Born), (v32 b.Life), (.bool b.Gone), (v16 b.Priority), (v16 b.Weight), (v16 b.Port), (.string (str b.Target))] : List Value))) h3 rfl rfl) rfl rfl rfl ?_
  rintro _ w5 ⟨b4, rfl, h6⟩
  refine G.yl (yl_assign rfl) rfl rfl rfl ?_
  refine G.nil ?_
  refine QA.then_normal ?_
  refine C.seq ?_
  refine C.seq ?_
  refine C.region ?_
  refine G.yl (yl_fieldAddr fo47_8 rfl) rfl rfl rfl ?_
  refine G.yl (yl_load (v := (.string (str a.Target))) ag9 rfl (View.at_ (j := 7) (View.span_tail (Sat.pick [1] h6).isBlk.view0) rfl)) rfl rfl rfl ?_
  refine G.yl (yl_slenE Try.underlying9 rfl) rfl rfl rfl ?_
  refine G.yl (yl_fieldAddr fo47_8 rfl) rfl rfl rfl ?_
  refine G.yl (yl_load (v := (.string (str b.Target))) ag9 rfl (View.at_ (j := 7) (View.span_tail h6.isBlk.view0) rfl)) rfl rfl rfl ?_
  refine G.yl (yl_slenE Try.underlying9 rfl) rfl rfl rfl ?_
  obtain ⟨hc7, hm⟩ := sp_chk hm
  refine G.yl (yl_addI rfl rfl hc7) rfl rfl rfl ?_
  refine G.yl (yl_move rfl) rfl rfl rfl ?_
  refine G.yl (yl_lenE Try.underlying49 rfl) rfl rfl rfl ?_
  obtain ⟨hc8, hm⟩ := sp_chk hm
  refine G.yl (yl_addI rfl rfl hc8) rfl rfl rfl ?_
  refine G.yl (yl_gtI rfl rfl) rfl rfl rfl ?_
  refine G.nil ?_
  refine QA.then_normal ?_
  rcases sp_ite hm with ⟨hc9, hm⟩ | ⟨hc9, hm⟩
  · refine C.cond_t rfl (dec_t hc9) ?_
    refine C.seq ?_
    refine C.region ?_
    obtain ⟨r1_2, hy10, hm⟩ := sp_bind hm
    refine G.does (does_fn 0 rfl rfl rfl en29 h6 (fun U hU hp hr hs => M_signpostlaw11_lives_w hp hy10)) rfl rfl rfl ?_
    rintro _ w11 ⟨U14, hb15, rfl, h13⟩
    have h12 : Sat W w11 [blk b4 (bytesV (List.ofFn (n := 20) b.Publisher) ++ ([(v64 b.Seq), (v64 b.Born), (v32 b.Life), (.bool b.Gone), (v16 b.Priority), (v16 b.Weight), (v16 b.Port), (.string (str b.Target))] : List Value)) 47, blk b1 (bytesV (List.ofFn (n := 20) a.Publisher) ++ ([(v64 a.Seq), (v64 a.Born), (v32 a.Life), (.bool a.Gone), (v16 a.Priority), (v16 a.Weight), (v16 a.Port), (.string (str a.Target))] : List Value)) 47] := hb15 h13
    refine G.yl (yl_assign rfl) rfl rfl rfl ?_
    refine G.nil ?_
    refine QA.then_normal ?_
    refine C.ret ?_
    refine QA.then_ret ?_
    refine QA.ret1 rfl rfl ?_
    obtain rfl := sp_ret1 hm
    exact ⟨rfl, (Sat.pick [] h12)⟩
  · refine C.cond_f rfl (dec_f hc9) ?_
    refine C.skip ?_
    refine QA.then_normal ?_
    refine C.seq ?_
    refine C.region ?_
    refine G.yl (yl_loadN (vs := (bytesV (List.ofFn (n := 20) a.Publisher) ++ ([(v64 a.Seq), (v64 a.Born), (v32 a.Life), (.bool a.Gone), (v16 a.Priority), (v16 a.Weight), (v16 a.Port), (.string (str a.Target))] : List Value))) ag47 sz47 (by simp [bytesV_length]) rfl ((Sat.pick [1] h6).isBlk.view0)) rfl rfl rfl ?_
    obtain ⟨⟨r3_2, r4_2⟩, hy16, hm⟩ := sp_bind hm
    refine G.does (does_fn 0 rfl rfl rfl en30 h6 (fun U hU hp hr hs => M_inst_Bytes_w (i := a) hp hy16)) rfl rfl rfl ?_
    rintro _ w19 ⟨U22, hb23, r117, r218, rfl, h21⟩
    have h20 : Sat W w19 [ow elU8 r117 r218 5 r3_2, blk b4 (bytesV (List.ofFn (n := 20) b.Publisher) ++ ([(v64 b.Seq), (v64 b.Born), (v32 b.Life), (.bool b.Gone), (v16 b.Priority), (v16 b.Weight), (v16 b.Port), (.string (str b.Target))] : List Value)) 47, blk b1 (bytesV (List.ofFn (n := 20) a.Publisher) ++ ([(v64 a.Seq), (v64 a.Born), (v32 a.Life), (.bool a.Gone), (v16 a.Priority), (v16 a.Weight), (v16 a.Port), (.string (str a.Target))] : List Value)) 47] := hb23 h21
    refine G.yl (yl_move rfl) rfl rfl rfl ?_
    refine G.yl (yl_extract rfl rfl) rfl rfl rfl ?_
    refine G.yl (yl_extract rfl rfl) rfl rfl rfl ?_
    refine G.yl (yl_assign rfl) rfl rfl rfl ?_
    refine G.yl (yl_assign rfl) rfl rfl rfl ?_
    refine G.nil ?_
    refine QA.then_normal ?_
    refine C.seq ?_
    refine C.region ?_
    refine G.yl (yl_loadN (vs := (bytesV (List.ofFn (n := 20) b.Publisher) ++ ([(v64 b.Seq), (v64 b.Born), (v32 b.Life), (.bool b.Gone), (v16 b.Priority), (v16 b.Weight), (v16 b.Port), (.string (str b.Target))] : List Value))) ag47 sz47 (by simp [bytesV_length]) rfl ((Sat.pick [1] h20).isBlk.view0)) rfl rfl rfl ?_
    obtain ⟨⟨r3_3, r4_3⟩, hy24, hm⟩ := sp_bind hm
    refine G.does (does_fn 0 rfl rfl rfl en30 h20 (fun U hU hp hr hs => M_inst_Bytes_w (i := b) hp hy24)) rfl rfl rfl ?_
    rintro _ w27 ⟨U30, hb31, r125, r226, rfl, h29⟩
    have h28 : Sat W w27 [ow elU8 r125 r226 5 r3_3, ow elU8 r117 r218 5 r3_2, blk b4 (bytesV (List.ofFn (n := 20) b.Publisher) ++ ([(v64 b.Seq), (v64 b.Born), (v32 b.Life), (.bool b.Gone), (v16 b.Priority), (v16 b.Weight), (v16 b.Port), (.string (str b.Target))] : List Value)) 47, blk b1 (bytesV (List.ofFn (n := 20) a.Publisher) ++ ([(v64 a.Seq), (v64 a.Born), (v32 a.Life), (.bool a.Gone), (v16 a.Priority), (v16 a.Weight), (v16 a.Port), (.string (str a.Target))] : List Value)) 47] := hb31 h29
    refine G.yl (yl_move rfl) rfl rfl rfl ?_
    refine G.yl (yl_extract rfl rfl) rfl rfl rfl ?_
    refine G.yl (yl_extract rfl rfl) rfl rfl rfl ?_
    refine G.yl (yl_assign rfl) rfl rfl rfl ?_
    refine G.yl (yl_assign rfl) rfl rfl rfl ?_
    refine G.nil ?_
    refine QA.then_normal ?_
    refine C.join (γ := Unit) (fun g => match g with | () => [(2, (.slice a2 behind.length c)), (3, (.pointer (some ⟨b1, 0, none⟩))), (6, (.bool false)), (7, (.slice r117 r3_2.length r218)), (8, (vI r4_2))]) (fun g ww => match g with | () => (M_signpostlaw11_InstBack_v_k1 a behind r3_2 r4_2 = some r1) ∧ Sat W ww [blk b1 (bytesV (List.ofFn (n := 20) a.Publisher) ++ ([(v64 a.Seq), (v64 a.Born), (v32 a.Life), (.bool a.Gone), (v16 a.Priority), (v16 a.Weight), (v16 a.Port), (.string (str a.Target))] : List Value)) 47, ow elU8 r117 r218 5 r3_2]) ?_ ?_
    · refine C.seq ?_
      refine C.draw (V := fun w' => View w' r117 (elU8.row r3_2) ∧ View w' r125 (elU8.row r3_3) ∧ View w' (some ⟨b1, 0, none⟩) (bytesV (List.ofFn (n := 20) a.Publisher) ++ ([(v64 a.Seq), (v64 a.Born), (v32 a.Life), (.bool a.Gone), (v16 a.Priority), (v16 a.Weight), (v16 a.Port), (.string (str a.Target))] : List Value)) ∧ View w' (some ⟨b4, 0, none⟩) (bytesV (List.ofFn (n := 20) b.Publisher) ++ ([(v64 b.Seq), (v64 b.Born), (v32 b.Life), (.bool b.Gone), (v16 b.Priority), (v16 b.Weight), (v16 b.Port), (.string (str b.Target))] : List Value))) (nd := [3, 4, 7, 8, 9, 10, 11, 12, 13, 14, 15]) (sp := []) (n := 17) rfl h28 rfl rfl ?_
      intro w32 h33
      have hS34 : Cls (fun w' => View w' r117 (elU8.row r3_2) ∧ View w' r125 (elU8.row r3_3) ∧ View w' (some ⟨b1, 0, none⟩) (bytesV (List.ofFn (n := 20) a.Publisher) ++ ([(v64 a.Seq), (v64 a.Born), (v32 a.Life), (.bool a.Gone), (v16 a.Priority), (v16 a.Weight), (v16 a.Port), (.string (str a.Target))] : List Value)) ∧ View w' (some ⟨b4, 0, none⟩) (bytesV (List.ofFn (n := 20) b.Publisher) ++ ([(v64 b.Seq), (v64 b.Born), (v32 b.Life), (.bool b.Gone), (v16 b.Priority), (v16 b.Weight), (v16 b.Port), (.string (str b.Target))] : List Value))) [3, 4, 7, 8, 9, 10, 11, 12, 13, 14, 15] [] #[nn, nn, nn, nn, nn, nn, nn, nn, nn, nn, nn, nn, nn, nn, nn, nn, nn] w32 := Cls.keep (⟨(Sat.own_view (Sat.pick [1] h33)), (Sat.own_view h33), ((Sat.pick [3] h33).isBlk.view0), ((Sat.pick [2] h33).isBlk.view0)⟩) (by kernel_rfl)
      refine GH.yl (i := 0) (listed' := #[yy, nn, nn, nn, nn, nn, nn, nn, nn, nn, nn, nn, nn, nn, nn, nn, nn]) rfl (by kernel_rfl) rfl (NP.next (NP.next NP.body)) rfl rfl rfl (fun w' => yl_move rfl) hS34 (fun hS35 => ?_)
      refine GH.yl (i := 1) (listed' := #[yy, yy, nn, nn, nn, nn, nn, nn, nn, nn, nn, nn, nn, nn, nn, nn, nn]) rfl (by kernel_rfl) rfl (NP.next (NP.next NP.body)) rfl rfl rfl (fun w' => yl_eqI rfl rfl) hS35 (fun hS36 => ?_)
      refine GH.yl (i := 2) (listed' := #[yy, yy, yy, nn, nn, nn, nn, nn, nn, nn, nn, nn, nn, nn, nn, nn, nn]) rfl (by kernel_rfl) rfl (NP.next (NP.next NP.body)) rfl rfl rfl (fun w' => yl_move rfl) hS36 (fun hS37 => ?_)
      rcases sp_ite hm with ⟨hc38, hm⟩ | ⟨hc38, hm⟩
      · refine GH.on (i := 3) (listed' := #[yy, yy, yy, yy, nn, nn, nn, nn, nn, nn, nn, nn, nn, nn, nn, nn, nn]) rfl (by kernel_rfl) rfl rfl (NP.next (NP.next NP.body)) rfl rfl rfl rfl (dec_t hc38) (fun w' hw' => yl_move rfl) hS37 (fun hS39 => ?_)
        refine GH.on (i := 4) (listed' := #[yy, yy, yy, yy, yy, nn, nn, nn, nn, nn, nn, nn, nn, nn, nn, nn, nn]) rfl (by kernel_rfl) rfl rfl (NP.next (NP.next NP.body)) rfl rfl rfl rfl (dec_t hc38) (fun w' hw' => yl_eqI rfl rfl) hS39 (fun hS40 => ?_)
        refine GH.yl (i := 5) (listed' := #[yy, yy, yy, yy, yy, yy, nn, nn, nn, nn, nn, nn, nn, nn, nn, nn, nn]) rfl (by kernel_rfl) rfl (NP.next (NP.next NP.body)) rfl rfl rfl (fun w' => yl_pick_t rfl (dec_t hc38) rfl) hS40 (fun hS41 => ?_)
        refine GH.yl (i := 6) (listed' := #[yy, yy, yy, yy, yy, yy, yy, nn, nn, nn, nn, nn, nn, nn, nn, nn, nn]) rfl (by kernel_rfl) rfl (NP.next (NP.next NP.body)) rfl rfl rfl (fun w' => yl_move rfl) hS41 (fun hS42 => ?_)
        rcases sp_ite hm with ⟨hc43, hm⟩ | ⟨hc43, hm⟩
        · refine GH.on (i := 7) (listed' := #[yy, yy, yy, yy, yy, yy, yy, yy, nn, nn, nn, nn, nn, nn, nn, nn, nn]) rfl (by kernel_rfl) rfl rfl (NP.next (NP.next NP.body)) rfl rfl rfl rfl (dec_t hc43) (fun w' hw' => yl_move rfl) hS42 (fun hS44 => ?_)
          refine GH.on (i := 8) (listed' := #[yy, yy, yy, yy, yy, yy, yy, yy, yy, nn, nn, nn, nn, nn, nn, nn, nn]) rfl (by kernel_rfl) rfl rfl (NP.next (NP.next NP.body)) rfl rfl rfl rfl (dec_t hc43) (fun w' hw' => yl_strE Try.underlying49 Try.underlying5 Try.underlying9 rfl rfl (hw'.1)) hS44 (fun hS45 => ?_)
          refine GH.on (i := 9) (listed' := #[yy, yy, yy, yy, yy, yy, yy, yy, yy, yy, nn, nn, nn, nn, nn, nn, nn]) rfl (by kernel_rfl) rfl rfl (NP.next (NP.next NP.body)) rfl rfl rfl rfl (dec_t hc43) (fun w' hw' => yl_move rfl) hS45 (fun hS46 => ?_)
          refine GH.on (i := 10) (listed' := #[yy, yy, yy, yy, yy, yy, yy, yy, yy, yy, yy, nn, nn, nn, nn, nn, nn]) rfl (by kernel_rfl) rfl rfl (NP.next (NP.next NP.body)) rfl rfl rfl rfl (dec_t hc43) (fun w' hw' => yl_strE Try.underlying49 Try.underlying5 Try.underlying9 rfl rfl (hw'.2.1)) hS46 (fun hS47 => ?_)
          refine GH.on (i := 11) (listed' := #[yy, yy, yy, yy, yy, yy, yy, yy, yy, yy, yy, yy, nn, nn, nn, nn, nn]) rfl (by kernel_rfl) rfl rfl (NP.next (NP.next NP.body)) rfl rfl rfl rfl (dec_t hc43) (fun w' hw' => yl_eqS rfl rfl) hS47 (fun hS48 => ?_)
          refine GH.on (i := 12) (listed' := #[yy, yy, yy, yy, yy, yy, yy, yy, yy, yy, yy, yy, yy, nn, nn, nn, nn]) rfl (by kernel_rfl) rfl rfl (NP.next (NP.next NP.body)) rfl rfl rfl rfl (dec_t hc43) (fun w' hw' => yl_loadN (vs := (bytesV (List.ofFn (n := 20) a.Publisher) ++ ([(v64 a.Seq), (v64 a.Born), (v32 a.Life), (.bool a.Gone), (v16 a.Priority), (v16 a.Weight), (v16 a.Port), (.string (str a.Target))] : List Value))) ag47 sz47 (by simp [bytesV_length]) rfl (hw'.2.2.1)) hS48 (fun hS49 => ?_)
          refine GH.on (i := 13) (listed' := #[yy, yy, yy, yy, yy, yy, yy, yy, yy, yy, yy, yy, yy, yy, nn, nn, nn]) rfl (by kernel_rfl) rfl rfl (NP.next (NP.next NP.body)) rfl rfl rfl rfl (dec_t hc43) (fun w' hw' => yl_loadN (vs := (bytesV (List.ofFn (n := 20) b.Publisher) ++ ([(v64 b.Seq), (v64 b.Born), (v32 b.Life), (.bool b.Gone), (v16 b.Priority), (v16 b.Weight), (v16 b.Port), (.string (str b.Target))] : List Value))) ag47 sz47 (by simp [bytesV_length]) rfl (hw'.2.2.2)) hS49 (fun hS50 => ?_)
          obtain ⟨hc51, hm⟩ := sp_chk hm
          obtain ⟨hc52, hm⟩ := sp_chk hm
          refine GH.on (i := 14) (listed' := #[yy, yy, yy, yy, yy, yy, yy, yy, yy, yy, yy, yy, yy, yy, yy, nn, nn]) rfl (by kernel_rfl) rfl rfl (NP.next (NP.next NP.body)) rfl rfl rfl rfl (dec_t hc43) (fun w' hw' => yl_eq_agg (r := decide (a = b)) (vs := (el_G_api_Instance.f a)) (us := (el_G_api_Instance.f b)) rfl rfl (by rw [decide_eq_true_eq]; exact G_api_Instance_inj) eqT47.1 eqT47.2.1 eqT47.2.2.1 eqT47.2.2.2.1 eqT47.2.2.2.2 (G_api_Instance_fits a hc51) (G_api_Instance_fits b hc52)) hS50 (fun hS53 => ?_)
          refine GH.on (i := 15) (listed' := #[yy, yy, yy, yy, yy, yy, yy, yy, yy, yy, yy, yy, yy, yy, yy, yy, nn]) rfl (by kernel_rfl) rfl rfl (NP.next (NP.next NP.body)) rfl rfl rfl rfl (dec_t hc43) (fun w' hw' => yl_neB Try.underlying4 rfl rfl) hS53 (fun hS54 => ?_)
          refine GH.yl (i := 16) (listed' := #[yy, yy, yy, yy, yy, yy, yy, yy, yy, yy, yy, yy, yy, yy, yy, yy, yy]) rfl (by kernel_rfl) rfl (NP.next (NP.next NP.body)) rfl rfl rfl (fun w' => yl_pick_t rfl (dec_t hc43) rfl) hS54 (fun hS55 => ?_)
          refine GH.done (by kernel_rfl) ?_
          refine QA.then_normal ?_
          rcases sp_ite hm with ⟨hc56, hm⟩ | ⟨hc56, hm⟩
          · refine C.cond_f rfl (not_f (dec_t hc56)) ?_
            refine C.skip ?_
            exact QA.join () (Sub.of ⟨rfl, rfl, rfl, rfl, rfl, trivial⟩) ⟨hm, (Sat.pick [3, 1] h33)⟩
          · refine C.cond_t rfl (not_t (dec_f hc56)) ?_
            refine C.seq ?_
            refine C.region ?_
            refine G.yl (yl_assign rfl) rfl rfl rfl ?_
            refine G.nil ?_
            refine QA.then_normal ?_
            refine C.ret ?_
            refine QA.then_ret ?_
            refine QA.ret1 rfl rfl ?_
            obtain rfl := sp_ret1 hm
            exact ⟨rfl, (Sat.pick [] h33)⟩
        · refine GH.off (i := 7) (listed' := #[yy, yy, yy, yy, yy, yy, yy, yy, nn, nn, nn, nn, nn, nn, nn, nn, nn]) rfl (by kernel_rfl) rfl (NP.next (NP.next NP.body)) rfl rfl rfl rfl (dec_f hc43) hS42 (fun hS57 => ?_)
          refine GH.off (i := 8) (listed' := #[yy, yy, yy, yy, yy, yy, yy, yy, yy, nn, nn, nn, nn, nn, nn, nn, nn]) rfl (by kernel_rfl) rfl (NP.next (NP.next NP.body)) rfl rfl rfl rfl (dec_f hc43) hS57 (fun hS58 => ?_)
          refine GH.off (i := 9) (listed' := #[yy, yy, yy, yy, yy, yy, yy, yy, yy, yy, nn, nn, nn, nn, nn, nn, nn]) rfl (by kernel_rfl) rfl (NP.next (NP.next NP.body)) rfl rfl rfl rfl (dec_f hc43) hS58 (fun hS59 => ?_)
          refine GH.off (i := 10) (listed' := #[yy, yy, yy, yy, yy, yy, yy, yy, yy, yy, yy, nn, nn, nn, nn, nn, nn]) rfl (by kernel_rfl) rfl (NP.next (NP.next NP.body)) rfl rfl rfl rfl (dec_f hc43) hS59 (fun hS60 => ?_)
          refine GH.off (i := 11) (listed' := #[yy, yy, yy, yy, yy, yy, yy, yy, yy, yy, yy, yy, nn, nn, nn, nn, nn]) rfl (by kernel_rfl) rfl (NP.next (NP.next NP.body)) rfl rfl rfl rfl (dec_f hc43) hS60 (fun hS61 => ?_)
          refine GH.off (i := 12) (listed' := #[yy, yy, yy, yy, yy, yy, yy, yy, yy, yy, yy, yy, yy, nn, nn, nn, nn]) rfl (by kernel_rfl) rfl (NP.next (NP.next NP.body)) rfl rfl rfl rfl (dec_f hc43) hS61 (fun hS62 => ?_)
          refine GH.off (i := 13) (listed' := #[yy, yy, yy, yy, yy, yy, yy, yy, yy, yy, yy, yy, yy, yy, nn, nn, nn]) rfl (by kernel_rfl) rfl (NP.next (NP.next NP.body)) rfl rfl rfl rfl (dec_f hc43) hS62 (fun hS63 => ?_)
          refine GH.off (i := 14) (listed' := #[yy, yy, yy, yy, yy, yy, yy, yy, yy, yy, yy, yy, yy, yy, yy, nn, nn]) rfl (by kernel_rfl) rfl (NP.next (NP.next NP.body)) rfl rfl rfl rfl (dec_f hc43) hS63 (fun hS64 => ?_)
          refine GH.off (i := 15) (listed' := #[yy, yy, yy, yy, yy, yy, yy, yy, yy, yy, yy, yy, yy, yy, yy, yy, nn]) rfl (by kernel_rfl) rfl (NP.next (NP.next NP.body)) rfl rfl rfl rfl (dec_f hc43) hS64 (fun hS65 => ?_)
          refine GH.yl (i := 16) (listed' := #[yy, yy, yy, yy, yy, yy, yy, yy, yy, yy, yy, yy, yy, yy, yy, yy, yy]) rfl (by kernel_rfl) rfl (NP.next (NP.next NP.body)) rfl rfl rfl (fun w' => yl_pick_f rfl (dec_f hc43) rfl) hS65 (fun hS66 => ?_)
          refine GH.done (by kernel_rfl) ?_
          refine QA.then_normal ?_
          refine C.cond_f rfl rfl ?_
          refine C.skip ?_
          exact QA.join () (Sub.of ⟨rfl, rfl, rfl, rfl, rfl, trivial⟩) ⟨hm, (Sat.pick [3, 1] h33)⟩
      · refine GH.off (i := 3) (listed' := #[yy, yy, yy, yy, nn, nn, nn, nn, nn, nn, nn, nn, nn, nn, nn, nn, nn]) rfl (by kernel_rfl) rfl (NP.next (NP.next NP.body)) rfl rfl rfl rfl (dec_f hc38) hS37 (fun hS67 => ?_)
        refine GH.off (i := 4) (listed' := #[yy, yy, yy, yy, yy, nn, nn, nn, nn, nn, nn, nn, nn, nn, nn, nn, nn]) rfl (by kernel_rfl) rfl (NP.next (NP.next NP.body)) rfl rfl rfl rfl (dec_f hc38) hS67 (fun hS68 => ?_)
        refine GH.yl (i := 5) (listed' := #[yy, yy, yy, yy, yy, yy, nn, nn, nn, nn, nn, nn, nn, nn, nn, nn, nn]) rfl (by kernel_rfl) rfl (NP.next (NP.next NP.body)) rfl rfl rfl (fun w' => yl_pick_f rfl (dec_f hc38) rfl) hS68 (fun hS69 => ?_)
        refine GH.yl (i := 6) (listed' := #[yy, yy, yy, yy, yy, yy, yy, nn, nn, nn, nn, nn, nn, nn, nn, nn, nn]) rfl (by kernel_rfl) rfl (NP.next (NP.next NP.body)) rfl rfl rfl (fun w' => yl_move rfl) hS69 (fun hS70 => ?_)
        refine GH.off (i := 7) (listed' := #[yy, yy, yy, yy, yy, yy, yy, yy, nn, nn, nn, nn, nn, nn, nn, nn, nn]) rfl (by kernel_rfl) rfl (NP.next (NP.next NP.body)) rfl rfl rfl rfl rfl hS70 (fun hS71 => ?_)
        refine GH.off (i := 8) (listed' := #[yy, yy, yy, yy, yy, yy, yy, yy, yy, nn, nn, nn, nn, nn, nn, nn, nn]) rfl (by kernel_rfl) rfl (NP.next (NP.next NP.body)) rfl rfl rfl rfl rfl hS71 (fun hS72 => ?_)
        refine GH.off (i := 9) (listed' := #[yy, yy, yy, yy, yy, yy, yy, yy, yy, yy, nn, nn, nn, nn, nn, nn, nn]) rfl (by kernel_rfl) rfl (NP.next (NP.next NP.body)) rfl rfl rfl rfl rfl hS72 (fun hS73 => ?_)
        refine GH.off (i := 10) (listed' := #[yy, yy, yy, yy, yy, yy, yy, yy, yy, yy, yy, nn, nn, nn, nn, nn, nn]) rfl (by kernel_rfl) rfl (NP.next (NP.next NP.body)) rfl rfl rfl rfl rfl hS73 (fun hS74 => ?_)
        refine GH.off (i := 11) (listed' := #[yy, yy, yy, yy, yy, yy, yy, yy, yy, yy, yy, yy, nn, nn, nn, nn, nn]) rfl (by kernel_rfl) rfl (NP.next (NP.next NP.body)) rfl rfl rfl rfl rfl hS74 (fun hS75 => ?_)
        refine GH.off (i := 12) (listed' := #[yy, yy, yy, yy, yy, yy, yy, yy, yy, yy, yy, yy, yy, nn, nn, nn, nn]) rfl (by kernel_rfl) rfl (NP.next (NP.next NP.body)) rfl rfl rfl rfl rfl hS75 (fun hS76 => ?_)
        refine GH.off (i := 13) (listed' := #[yy, yy, yy, yy, yy, yy, yy, yy, yy, yy, yy, yy, yy, yy, nn, nn, nn]) rfl (by kernel_rfl) rfl (NP.next (NP.next NP.body)) rfl rfl rfl rfl rfl hS76 (fun hS77 => ?_)
        refine GH.off (i := 14) (listed' := #[yy, yy, yy, yy, yy, yy, yy, yy, yy, yy, yy, yy, yy, yy, yy, nn, nn]) rfl (by kernel_rfl) rfl (NP.next (NP.next NP.body)) rfl rfl rfl rfl rfl hS77 (fun hS78 => ?_)
        refine GH.off (i := 15) (listed' := #[yy, yy, yy, yy, yy, yy, yy, yy, yy, yy, yy, yy, yy, yy, yy, yy, nn]) rfl (by kernel_rfl) rfl (NP.next (NP.next NP.body)) rfl rfl rfl rfl rfl hS78 (fun hS79 => ?_)
        refine GH.yl (i := 16) (listed' := #[yy, yy, yy, yy, yy, yy, yy, yy, yy, yy, yy, yy, yy, yy, yy, yy, yy]) rfl (by kernel_rfl) rfl (NP.next (NP.next NP.body)) rfl rfl rfl (fun w' => yl_pick_f rfl rfl rfl) hS79 (fun hS80 => ?_)
        refine GH.done (by kernel_rfl) ?_
        refine QA.then_normal ?_
        refine C.cond_f rfl rfl ?_
        refine C.skip ?_
        exact QA.join () (Sub.of ⟨rfl, rfl, rfl, rfl, rfl, trivial⟩) ⟨hm, (Sat.pick [3, 1] h33)⟩
    · rintro _ w81 ⟨hm, h82⟩
      show C _ _ _ [(2, (.slice a2 behind.length c)), (3, (.pointer (some ⟨b1, 0, none⟩))), (6, (.bool false)), (7, (.slice r117 r3_2.length r218)), (8, (vI r4_2))] _ _
      unfold M_signpostlaw11_InstBack_v_k1 at hm
      refine C.join (γ := Unit) (fun g => match g with | () => [(2, (.slice a2 behind.length c)), (6, (.bool false))]) (fun g ww => match g with | () => (M_signpostlaw11_InstBack_v_k2 behind = some r1) ∧ Sat W ww []) ?_ ?_
      · refine C.seq ?_
        refine C.region ?_
        refine G.yl (yl_move rfl) rfl rfl rfl ?_
        refine G.yl (yl_eqI rfl rfl) rfl rfl rfl ?_
        refine G.nil ?_
        refine QA.then_normal ?_
        rcases sp_ite hm with ⟨hc83, hm⟩ | ⟨hc83, hm⟩
        · refine C.cond_t rfl (dec_t hc83) ?_
          refine C.seq ?_
          refine C.region ?_
          refine G.does (does_lit (E := elU8) (l := ([] : List UInt8)) (vs := []) (cs := []) (e := 5) h82 rfl (by kernel_rfl) rfl rfl (by decide)) rfl rfl rfl ?_
          rintro _ w85 ⟨a84, rfl, h86⟩
          refine G.yl (yl_move rfl) rfl rfl rfl ?_
          obtain ⟨hc87, hm⟩ := sp_chk hm
          refine G.does (does_app (E := elU8) (l := ([] : List UInt8)) (l2 := r3_2) Try.underlying49 el5 (Sat.own_zero h86 elU8 a84 5) rfl rfl rfl rfl (by decide) (Sat.own_view (Sat.pick [2] h86)) hc87 (by decide)) rfl rfl rfl ?_
          rintro _ w90 ⟨a88, c89, rfl, h91⟩
          refine G.yl (yl_move rfl) rfl rfl rfl ?_
          obtain ⟨hc92, hm⟩ := sp_chk hm
          refine G.does (does_app (E := elU8) (l := ([] : List UInt8) ++ r3_2) (l2 := behind) Try.underlying49 el5 h91 rfl rfl rfl rfl (by decide) (hv_behind.at_ h91) hc92 (by decide)) rfl rfl rfl ?_
          rintro _ w95 ⟨a93, c94, rfl, h96⟩
          obtain ⟨_, hy97, hm⟩ := sp_bind hm
          refine G.does (does_fn 0 rfl rfl rfl en52 h96 (fun U hU hp hr hs => M_octet_Open_v_w (b := (([] : List UInt8) ++ r3_2) ++ behind) (Rest.view hr) (Sat.own_cap h96).1 hp hy97)) rfl rfl rfl ?_
          rintro _ w101 ⟨U104, hb105, r198, r299, r3100, rfl, h103⟩
          have h102 : Sat W w101 [blk r198 [(.slice r299 ((([] : List UInt8) ++ ((([] : List UInt8) ++ r3_2) ++ behind)).length) r3100), (.bool true), (.bool false)] 155, ow elU8 r299 r3100 5 (([] : List UInt8) ++ ((([] : List UInt8) ++ r3_2) ++ behind)), ow elU8 a93 c94 5 ((([] : List UInt8) ++ r3_2) ++ behind), ow elU8 a84 0 5 ([] : List UInt8), blk b1 (bytesV (List.ofFn (n := 20) a.Publisher) ++ ([(v64 a.Seq), (v64 a.Born), (v32 a.Life), (.bool a.Gone), (v16 a.Priority), (v16 a.Weight), (v16 a.Port), (.string (str a.Target))] : List Value)) 47, ow elU8 r117 r218 5 r3_2] := hb105 h103
          refine G.yl (yl_assign rfl) rfl rfl rfl ?_
          refine G.nil ?_
          refine QA.then_normal ?_
          refine C.seq ?_
          refine C.region ?_
          refine G.yl (yl_move rfl) rfl rfl rfl ?_
          obtain ⟨⟨r1_3, r2_2, r5_2, r6_2⟩, hy106, hm⟩ := sp_bind hm
          refine G.does (does_fn 2 rfl rfl rfl en53 (Sat.pick [0, 0, 0, 0, 0, 0] h102) (fun U hU hp hr hs => M_inst_Read_po_w (b2 := ([] : List UInt8) ++ ((([] : List UInt8) ++ r3_2) ++ behind)) (open_ := true) (bad := false) hp hy106)) rfl rfl rfl ?_
          rintro _ w109 ⟨U112, hb113, r3107, r4108, rfl, h111⟩
          have h110 : Sat W w109 [blk r198 [(.slice r3107 r5_2.length r4108), (.bool true), (.bool r6_2)] 155, ow elU8 r3107 r4108 5 r5_2, ow elU8 a93 c94 5 ((([] : List UInt8) ++ r3_2) ++ behind), ow elU8 a84 0 5 ([] : List UInt8), blk b1 (bytesV (List.ofFn (n := 20) a.Publisher) ++ ([(v64 a.Seq), (v64 a.Born), (v32 a.Life), (.bool a.Gone), (v16 a.Priority), (v16 a.Weight), (v16 a.Port), (.string (str a.Target))] : List Value)) 47, ow elU8 r117 r218 5 r3_2] := hb113 h111
          refine G.yl (yl_move rfl) rfl rfl rfl ?_
          refine G.yl (yl_extract rfl rfl) rfl rfl rfl ?_
          refine G.yl (yl_extract rfl rfl) rfl rfl rfl ?_
          refine G.does (does_alloc (cs := (bytesV (List.ofFn (n := 20) (fun _ => 0)) ++ ([(.int .u64 0), (.int .u64 0), (.int .u32 0), (.bool false), (.int .u16 0), (.int .u16 0), (.int .u16 0), (.string (str ([] : List UInt8)))] : List Value))) h110 z47 rfl) rfl rfl rfl ?_
          rintro _ w115 ⟨b114, rfl, h116⟩
          refine G.unit (does_store (vs := (bytesV (List.ofFn (n := 20) r1_3.Publisher) ++ ([(v64 r1_3.Seq), (v64 r1_3.Born), (v32 r1_3.Life), (.bool r1_3.Gone), (v16 r1_3.Priority), (v16 r1_3.Weight), (v16 r1_3.Port), (.string (str r1_3.Target))] : List Value))) h116 sz47 rfl rfl rfl (by simp [bytesV_length]) (List.forall_mem_append.2 ⟨(bytesV_one _), (List.forall_mem_cons.2 ⟨rfl, (List.forall_mem_cons.2 ⟨rfl, (List.forall_mem_cons.2 ⟨rfl, (List.forall_mem_cons.2 ⟨rfl, (List.forall_mem_cons.2 ⟨rfl, (List.forall_mem_cons.2 ⟨rfl, (List.forall_mem_cons.2 ⟨rfl, (List.forall_mem_cons.2 ⟨rfl, (fun _ hh => by cases hh)⟩)⟩)⟩)⟩)⟩)⟩)⟩)⟩)⟩) (by simp [bytesV_length])) rfl rfl ?_
          rintro _ w117 h119
          have h118 : Sat W w117 [blk b114 (bytesV (List.ofFn (n := 20) r1_3.Publisher) ++ ([(v64 r1_3.Seq), (v64 r1_3.Born), (v32 r1_3.Life), (.bool r1_3.Gone), (v16 r1_3.Priority), (v16 r1_3.Weight), (v16 r1_3.Port), (.string (str r1_3.Target))] : List Value)) 47, blk r198 [(.slice r3107 r5_2.length r4108), (.bool true), (.bool r6_2)] 155, ow elU8 r3107 r4108 5 r5_2, ow elU8 a93 c94 5 ((([] : List UInt8) ++ r3_2) ++ behind), ow elU8 a84 0 5 ([] : List UInt8), blk b1 (bytesV (List.ofFn (n := 20) a.Publisher) ++ ([(v64 a.Seq), (v64 a.Born), (v32 a.Life), (.bool a.Gone), (v16 a.Priority), (v16 a.Weight), (v16 a.Port), (.string (str a.Target))] : List Value)) 47, ow elU8 r117 r218 5 r3_2] := sl_blk (setN_all _ _ (by simp [bytesV_length])) h119
          refine G.yl (yl_assign rfl) rfl rfl rfl ?_
          refine G.nil ?_
          refine QA.then_normal ?_
          refine C.seq ?_
          refine C.region ?_
          refine G.yl (yl_move rfl) rfl rfl rfl ?_
          refine G.yl (yl_eq_nil np93 rfl rfl) rfl rfl rfl ?_
          refine G.yl (yl_move rfl) rfl rfl rfl ?_
          refine G.on rfl rfl rfl ?_
          refine G.yl (yl_move rfl) rfl rfl rfl ?_
          refine G.on rfl rfl rfl ?_
          refine G.yl (yl_not rfl) rfl rfl rfl ?_
          refine G.yl (yl_pick_f rfl rfl rfl) rfl rfl rfl ?_
          refine G.yl (yl_move rfl) rfl rfl rfl ?_
          rcases sp_b hm with ⟨hc120, hm⟩ | ⟨hc120, hm⟩
          · refine G.on rfl rfl (not_f hc120) ?_
            refine G.yl (yl_loadN (vs := (bytesV (List.ofFn (n := 20) r1_3.Publisher) ++ ([(v64 r1_3.Seq), (v64 r1_3.Born), (v32 r1_3.Life), (.bool r1_3.Gone), (v16 r1_3.Priority), (v16 r1_3.Weight), (v16 r1_3.Port), (.string (str r1_3.Target))] : List Value))) ag47 sz47 (by simp [bytesV_length]) rfl (h118.isBlk.view0)) rfl rfl rfl ?_
            refine G.on rfl rfl (not_f hc120) ?_
            refine G.yl (yl_loadN (vs := (bytesV (List.ofFn (n := 20) a.Publisher) ++ ([(v64 a.Seq), (v64 a.Born), (v32 a.Life), (.bool a.Gone), (v16 a.Priority), (v16 a.Weight), (v16 a.Port), (.string (str a.Target))] : List Value))) ag47 sz47 (by simp [bytesV_length]) rfl ((Sat.pick [5] h118).isBlk.view0)) rfl rfl rfl ?_
            refine G.on rfl rfl (not_f hc120) ?_
            obtain ⟨hc121, hm⟩ := sp_chk hm
            obtain ⟨hc122, hm⟩ := sp_chk hm
            refine G.yl (yl_ne_agg (r := decide (r1_3 = a)) (vs := (el_G_api_Instance.f r1_3)) (us := (el_G_api_Instance.f a)) rfl rfl (by rw [decide_eq_true_eq]; exact G_api_Instance_inj) eqT47.1 eqT47.2.1 eqT47.2.2.1 eqT47.2.2.2.1 eqT47.2.2.2.2 (G_api_Instance_fits r1_3 hc121) (G_api_Instance_fits a hc122)) rfl rfl rfl ?_
            refine G.yl (yl_pick_f rfl (not_f hc120) rfl) rfl rfl rfl ?_
            refine G.yl (yl_move rfl) rfl rfl rfl ?_
            rcases sp_ite hm with ⟨hc123, hm⟩ | ⟨hc123, hm⟩
            · refine G.on rfl rfl (not_f (dec_t hc123)) ?_
              refine G.yl (yl_move rfl) rfl rfl rfl ?_
              refine G.on rfl rfl (not_f (dec_t hc123)) ?_
              obtain ⟨r1_4, hy124, hm⟩ := sp_bind hm
              refine G.does (does_fn 2 rfl rfl rfl en55 (Sat.pick [1, 1, 0, 0, 0, 0, 0] h118) (fun U hU hp hr hs => M_octet_Reader_Left_po_w (b2 := r5_2) (open_ := true) (bad := r6_2) hp hy124)) rfl rfl rfl ?_
              rintro _ w125 ⟨U128, hb129, rfl, h127⟩
              have h126 : Sat W w125 [blk r198 [(.slice r3107 r5_2.length r4108), (.bool true), (.bool r6_2)] 155, ow elU8 r3107 r4108 5 r5_2, blk b114 (bytesV (List.ofFn (n := 20) r1_3.Publisher) ++ ([(v64 r1_3.Seq), (v64 r1_3.Born), (v32 r1_3.Life), (.bool r1_3.Gone), (v16 r1_3.Priority), (v16 r1_3.Weight), (v16 r1_3.Port), (.string (str r1_3.Target))] : List Value)) 47, ow elU8 a93 c94 5 ((([] : List UInt8) ++ r3_2) ++ behind), ow elU8 a84 0 5 ([] : List UInt8), blk b1 (bytesV (List.ofFn (n := 20) a.Publisher) ++ ([(v64 a.Seq), (v64 a.Born), (v32 a.Life), (.bool a.Gone), (v16 a.Priority), (v16 a.Weight), (v16 a.Port), (.string (str a.Target))] : List Value)) 47, ow elU8 r117 r218 5 r3_2] := hb129 h127
              refine G.on rfl rfl (not_f (dec_t hc123)) ?_
              refine G.yl (yl_move rfl) rfl rfl rfl ?_
              refine G.on rfl rfl (not_f (dec_t hc123)) ?_
              refine G.yl (yl_lenE Try.underlying49 rfl) rfl rfl rfl ?_
              refine G.on rfl rfl (not_f (dec_t hc123)) ?_
              refine G.yl (yl_neI rfl rfl) rfl rfl rfl ?_
              refine G.yl (yl_pick_f rfl (not_f (dec_t hc123)) rfl) rfl rfl rfl ?_
              refine G.nil ?_
              refine QA.then_normal ?_
              rcases sp_ite hm with ⟨hc130, hm⟩ | ⟨hc130, hm⟩
              · refine C.cond_f rfl (not_f (dec_t hc130)) ?_
                refine C.skip ?_
                exact QA.join () (Sub.of ⟨rfl, rfl, trivial⟩) ⟨hm, (Sat.pick [] h126)⟩
              · refine C.cond_t rfl (not_t (dec_f hc130)) ?_
                refine C.seq ?_
                refine C.region ?_
                refine G.yl (yl_assign rfl) rfl rfl rfl ?_
                refine G.nil ?_
                refine QA.then_normal ?_
                refine C.ret ?_
                refine QA.then_ret ?_
                refine QA.ret1 rfl rfl ?_
                obtain rfl := sp_ret1 hm
                exact ⟨rfl, (Sat.pick [] h126)⟩
            · refine G.offU rfl rfl (not_t (dec_f hc123)) rfl ?_
              refine G.offU rfl rfl (not_t (dec_f hc123)) rfl ?_
              refine G.offU rfl rfl (not_t (dec_f hc123)) rfl ?_
              refine G.offU rfl rfl (not_t (dec_f hc123)) rfl ?_
              refine G.offU rfl rfl (not_t (dec_f hc123)) rfl ?_
              refine G.yl (yl_pick_t rfl (not_t (dec_f hc123)) rfl) rfl rfl rfl ?_
              refine G.nil ?_
              refine QA.then_normal ?_
              refine C.cond_t rfl rfl ?_
              refine C.seq ?_
              refine C.region ?_
              refine G.yl (yl_assign rfl) rfl rfl rfl ?_
              refine G.nil ?_
              refine QA.then_normal ?_
              refine C.ret ?_
              refine QA.then_ret ?_
              refine QA.ret1 rfl rfl ?_
              obtain rfl := sp_ret1 hm
              exact ⟨rfl, (Sat.pick [] h118)⟩
          · refine G.offU rfl rfl (not_t hc120) rfl ?_
            refine G.offU rfl rfl (not_t hc120) rfl ?_
            refine G.offU rfl rfl (not_t hc120) rfl ?_
            refine G.yl (yl_pick_t rfl (not_t hc120) rfl) rfl rfl rfl ?_
            refine G.yl (yl_move rfl) rfl rfl rfl ?_
            refine G.offU rfl rfl rfl rfl ?_
            refine G.offU rfl rfl rfl rfl ?_
            refine G.offU rfl rfl rfl rfl ?_
            refine G.offU rfl rfl rfl rfl ?_
            refine G.offU rfl rfl rfl rfl ?_
            refine G.yl (yl_pick_t rfl rfl rfl) rfl rfl rfl ?_
            refine G.nil ?_
            refine QA.then_normal ?_
            refine C.cond_t rfl rfl ?_
            refine C.seq ?_
            refine C.region ?_
            refine G.yl (yl_assign rfl) rfl rfl rfl ?_
            refine G.nil ?_
            refine QA.then_normal ?_
            refine C.ret ?_
            refine QA.then_ret ?_
            refine QA.ret1 rfl rfl ?_
            obtain rfl := sp_ret1 hm
            exact ⟨rfl, (Sat.pick [] h118)⟩
        · refine C.cond_f rfl (dec_f hc83) ?_
          refine C.skip ?_
          exact QA.join () (Sub.of ⟨rfl, rfl, trivial⟩) ⟨hm, (Sat.pick [] h82)⟩
      · rintro _ w131 ⟨hm, h132⟩
        show C _ _ _ [(2, (.slice a2 behind.length c)), (6, (.bool false))] _ _
        unfold M_signpostlaw11_InstBack_v_k2 at hm
        refine C.seq ?_
        refine C.region ?_
        refine G.yl (yl_move rfl) rfl rfl rfl ?_
        obtain ⟨_, hy133, hm⟩ := sp_bind hm
        refine G.does (does_fn 0 rfl rfl rfl en52 h132 (fun U hU hp hr hs => M_octet_Open_v_w (b := behind) (hs.v hv_behind) hq_behind hp hy133)) rfl rfl rfl ?_
        rintro _ w137 ⟨U140, hb141, r1134, r2135, r3136, rfl, h139⟩
        have h138 : Sat W w137 [blk r1134 [(.slice r2135 ((([] : List UInt8) ++ behind).length) r3136), (.bool true), (.bool false)] 155, ow elU8 r2135 r3136 5 (([] : List UInt8) ++ behind)] := hb141 h139
        refine G.yl (yl_assign rfl) rfl rfl rfl ?_
        refine G.nil ?_
        refine QA.then_normal ?_
        refine C.seq ?_
        refine C.seq ?_
        refine C.region ?_
        refine G.yl (yl_move rfl) rfl rfl rfl ?_
        obtain ⟨⟨r1_5, r2_3, r5_3, r6_3⟩, hy142, hm⟩ := sp_bind hm
        refine G.does (does_fn 2 rfl rfl rfl en53 (Sat.pick [0, 0] h138) (fun U hU hp hr hs => M_inst_Read_po_w (b2 := ([] : List UInt8) ++ behind) (open_ := true) (bad := false) hp hy142)) rfl rfl rfl ?_
        rintro _ w145 ⟨U148, hb149, r3143, r4144, rfl, h147⟩
        have h146 : Sat W w145 [blk r1134 [(.slice r3143 r5_3.length r4144), (.bool true), (.bool r6_3)] 155, ow elU8 r3143 r4144 5 r5_3] := hb149 h147
        refine G.yl (yl_move rfl) rfl rfl rfl ?_
        refine G.yl (yl_extract rfl rfl) rfl rfl rfl ?_
        refine G.yl (yl_extract rfl rfl) rfl rfl rfl ?_
        refine G.does (does_alloc (cs := (bytesV (List.ofFn (n := 20) (fun _ => 0)) ++ ([(.int .u64 0), (.int .u64 0), (.int .u32 0), (.bool false), (.int .u16 0), (.int .u16 0), (.int .u16 0), (.string (str ([] : List UInt8)))] : List Value))) h146 z47 rfl) rfl rfl rfl ?_
        rintro _ w151 ⟨b150, rfl, h152⟩
        refine G.unit (does_store (vs := (bytesV (List.ofFn (n := 20) r1_5.Publisher) ++ ([(v64 r1_5.Seq), (v64 r1_5.Born), (v32 r1_5.Life), (.bool r1_5.Gone), (v16 r1_5.Priority), (v16 r1_5.Weight), (v16 r1_5.Port), (.string (str r1_5.Target))] : List Value))) h152 sz47 rfl rfl rfl (by simp [bytesV_length]) (List.forall_mem_append.2 ⟨(bytesV_one _), (List.forall_mem_cons.2 ⟨rfl, (List.forall_mem_cons.2 ⟨rfl, (List.forall_mem_cons.2 ⟨rfl, (List.forall_mem_cons.2 ⟨rfl, (List.forall_mem_cons.2 ⟨rfl, (List.forall_mem_cons.2 ⟨rfl, (List.forall_mem_cons.2 ⟨rfl, (List.forall_mem_cons.2 ⟨rfl, (fun _ hh => by cases hh)⟩)⟩)⟩)⟩)⟩)⟩)⟩)⟩)⟩) (by simp [bytesV_length])) rfl rfl ?_
        rintro _ w153 h155
        have h154 : Sat W w153 [blk b150 (bytesV (List.ofFn (n := 20) r1_5.Publisher) ++ ([(v64 r1_5.Seq), (v64 r1_5.Born), (v32 r1_5.Life), (.bool r1_5.Gone), (v16 r1_5.Priority), (v16 r1_5.Weight), (v16 r1_5.Port), (.string (str r1_5.Target))] : List Value)) 47, blk r1134 [(.slice r3143 r5_3.length r4144), (.bool true), (.bool r6_3)] 155, ow elU8 r3143 r4144 5 r5_3] := sl_blk (setN_all _ _ (by simp [bytesV_length])) h155
        refine G.yl (yl_assign rfl) rfl rfl rfl ?_
        refine G.nil ?_
        refine QA.then_normal ?_
        refine C.join (γ := Bool) (fun g => match g with | t100 => [(2, (.slice a2 behind.length c)), (6, (.bool false)), (14, (.pointer (some ⟨r1134, 0, none⟩))), (15, (.pointer (some ⟨b150, 0, none⟩))), (100, (.bool t100))]) (fun g ww => match g with | t100 => (M_signpostlaw11_InstBack_v_k3 behind r1_5 r5_3 r6_3 t100 = some r1) ∧ Sat W ww [blk r1134 [(.slice r3143 r5_3.length r4144), (.bool true), (.bool r6_3)] 155, ow elU8 r3143 r4144 5 r5_3, blk b150 (bytesV (List.ofFn (n := 20) r1_5.Publisher) ++ ([(v64 r1_5.Seq), (v64 r1_5.Born), (v32 r1_5.Life), (.bool r1_5.Gone), (v16 r1_5.Priority), (v16 r1_5.Weight), (v16 r1_5.Port), (.string (str r1_5.Target))] : List Value)) 47]) ?_ ?_
        · refine C.region ?_
          refine G.yl (yl_move rfl) rfl rfl rfl ?_
          refine G.yl (yl_move rfl) rfl rfl rfl ?_
          rcases sp_b hm with ⟨hc156, hm⟩ | ⟨hc156, hm⟩
          · refine G.on rfl rfl hc156 ?_
            refine G.yl (yl_move rfl) rfl rfl rfl ?_
            refine G.on rfl rfl hc156 ?_
            refine G.yl (yl_ne_nil np93 rfl rfl) rfl rfl rfl ?_
            refine G.yl (yl_pick_t rfl hc156 rfl) rfl rfl rfl ?_
            refine G.nil ?_
            exact QA.join true (Sub.of ⟨rfl, rfl, rfl, rfl, rfl, trivial⟩) ⟨hm, (Sat.pick [1, 1, 0] h154)⟩
          · refine G.offU rfl rfl hc156 rfl ?_
            refine G.offU rfl rfl hc156 rfl ?_
            refine G.yl (yl_pick_f rfl hc156 rfl) rfl rfl rfl ?_
            refine G.nil ?_
            exact QA.join false (Sub.of ⟨rfl, rfl, rfl, rfl, rfl, trivial⟩) ⟨hm, (Sat.pick [1, 1, 0] h154)⟩
        · rintro t100 w157 ⟨hm, h158⟩
          show C _ _ _ [(2, (.slice a2 behind.length c)), (6, (.bool false)), (14, (.pointer (some ⟨r1134, 0, none⟩))), (15, (.pointer (some ⟨b150, 0, none⟩))), (100, (.bool t100))] _ _
          unfold M_signpostlaw11_InstBack_v_k3 at hm
          rcases sp_b hm with ⟨hc159, hm⟩ | ⟨hc159, hm⟩
          · refine C.cond_t rfl hc159 ?_
            refine C.seq ?_
            refine C.region ?_
            refine G.yl (yl_loadN (vs := (bytesV (List.ofFn (n := 20) r1_5.Publisher) ++ ([(v64 r1_5.Seq), (v64 r1_5.Born), (v32 r1_5.Life), (.bool r1_5.Gone), (v16 r1_5.Priority), (v16 r1_5.Weight), (v16 r1_5.Port), (.string (str r1_5.Target))] : List Value))) ag47 sz47 (by simp [bytesV_length]) rfl ((Sat.pick [2] h158).isBlk.view0)) rfl rfl rfl ?_
            obtain ⟨⟨r3_4, r4_4⟩, hy160, hm⟩ := sp_bind hm
            refine G.does (does_fn 0 rfl rfl rfl en30 h158 (fun U hU hp hr hs => M_inst_Bytes_w (i := r1_5) hp hy160)) rfl rfl rfl ?_
            rintro _ w163 ⟨U166, hb167, r1161, r2162, rfl, h165⟩
            have h164 : Sat W w163 [ow elU8 r1161 r2162 5 r3_4, blk r1134 [(.slice r3143 r5_3.length r4144), (.bool true), (.bool r6_3)] 155, ow elU8 r3143 r4144 5 r5_3, blk b150 (bytesV (List.ofFn (n := 20) r1_5.Publisher) ++ ([(v64 r1_5.Seq), (v64 r1_5.Born), (v32 r1_5.Life), (.bool r1_5.Gone), (v16 r1_5.Priority), (v16 r1_5.Weight), (v16 r1_5.Port), (.string (str r1_5.Target))] : List Value)) 47] := hb167 h165
            refine G.yl (yl_move rfl) rfl rfl rfl ?_
            refine G.yl (yl_extract rfl rfl) rfl rfl rfl ?_
            refine G.yl (yl_extract rfl rfl) rfl rfl rfl ?_
            refine G.yl (yl_assign rfl) rfl rfl rfl ?_
            refine G.yl (yl_assign rfl) rfl rfl rfl ?_
            refine G.nil ?_
            refine QA.then_normal ?_
            refine C.seq ?_
            refine C.draw (V := fun w' => View w' r1161 (elU8.row r3_4) ∧ View w' a2 (elU8.row behind) ∧ View w' (some ⟨b150, 0, none⟩) (bytesV (List.ofFn (n := 20) r1_5.Publisher) ++ ([(v64 r1_5.Seq), (v64 r1_5.Born), (v32 r1_5.Life), (.bool r1_5.Gone), (v16 r1_5.Priority), (v16 r1_5.Weight), (v16 r1_5.Port), (.string (str r1_5.Target))] : List Value))) (nd := [3, 4, 5, 7, 8, 9, 10, 13, 14, 15, 16, 17, 18, 19, 20, 23]) (sp := []) (n := 30) rfl h164 rfl rfl ?_
            intro w168 h169
            have hS170 : Cls (fun w' => View w' r1161 (elU8.row r3_4) ∧ View w' a2 (elU8.row behind) ∧ View w' (some ⟨b150, 0, none⟩) (bytesV (List.ofFn (n := 20) r1_5.Publisher) ++ ([(v64 r1_5.Seq), (v64 r1_5.Born), (v32 r1_5.Life), (.bool r1_5.Gone), (v16 r1_5.Priority), (v16 r1_5.Weight), (v16 r1_5.Port), (.string (str r1_5.Target))] : List Value))) [3, 4, 5, 7, 8, 9, 10, 13, 14, 15, 16, 17, 18, 19, 20, 23] [] #[nn, nn, nn, nn, nn, nn, nn, nn, nn, nn, nn, nn, nn, nn, nn, nn, nn, nn, nn, nn, nn, nn, nn, nn, nn, nn, nn, nn, nn, nn] w168 := Cls.keep (⟨(Sat.own_view h169), (hv_behind.at_ h169), ((Sat.pick [3] h169).isBlk.view0)⟩) (by kernel_rfl)
            refine GH.yl (i := 0) (listed' := #[yy, nn, nn, nn, nn, nn, nn, nn, nn, nn, nn, nn, nn, nn, nn, nn, nn, nn, nn, nn, nn, nn, nn, nn, nn, nn, nn, nn, nn, nn]) rfl (by kernel_rfl) rfl (NP.next (NP.next NP.body)) rfl rfl rfl (fun w' => yl_move rfl) hS170 (fun hS171 => ?_)
            refine GH.yl (i := 1) (listed' := #[yy, yy, nn, nn, nn, nn, nn, nn, nn, nn, nn, nn, nn, nn, nn, nn, nn, nn, nn, nn, nn, nn, nn, nn, nn, nn, nn, nn, nn, nn]) rfl (by kernel_rfl) rfl (NP.next (NP.next NP.body)) rfl rfl rfl (fun w' => yl_eqI rfl rfl) hS171 (fun hS172 => ?_)
            refine GH.yl (i := 2) (listed' := #[yy, yy, yy, nn, nn, nn, nn, nn, nn, nn, nn, nn, nn, nn, nn, nn, nn, nn, nn, nn, nn, nn, nn, nn, nn, nn, nn, nn, nn, nn]) rfl (by kernel_rfl) rfl (NP.next (NP.next NP.body)) rfl rfl rfl (fun w' => yl_move rfl) hS172 (fun hS173 => ?_)
            rcases sp_ite hm with ⟨hc174, hm⟩ | ⟨hc174, hm⟩
            · refine GH.on (i := 3) (listed' := #[yy, yy, yy, yy, nn, nn, nn, nn, nn, nn, nn, nn, nn, nn, nn, nn, nn, nn, nn, nn, nn, nn, nn, nn, nn, nn, nn, nn, nn, nn]) rfl (by kernel_rfl) rfl rfl (NP.next (NP.next NP.body)) rfl rfl rfl rfl (dec_t hc174) (fun w' hw' => yl_move rfl) hS173 (fun hS175 => ?_)
              refine GH.on (i := 4) (listed' := #[yy, yy, yy, yy, yy, nn, nn, nn, nn, nn, nn, nn, nn, nn, nn, nn, nn, nn, nn, nn, nn, nn, nn, nn, nn, nn, nn, nn, nn, nn]) rfl (by kernel_rfl) rfl rfl (NP.next (NP.next NP.body)) rfl rfl rfl rfl (dec_t hc174) (fun w' hw' => yl_lenE Try.underlying49 rfl) hS175 (fun hS176 => ?_)
              refine GH.on (i := 5) (listed' := #[yy, yy, yy, yy, yy, yy, nn, nn, nn, nn, nn, nn, nn, nn, nn, nn, nn, nn, nn, nn, nn, nn, nn, nn, nn, nn, nn, nn, nn, nn]) rfl (by kernel_rfl) rfl rfl (NP.next (NP.next NP.body)) rfl rfl rfl rfl (dec_t hc174) (fun w' hw' => yl_move rfl) hS176 (fun hS177 => ?_)
              refine GH.on (i := 8) (listed' := #[yy, yy, yy, yy, yy, yy, nn, nn, yy, nn, nn, nn, nn, nn, nn, nn, nn, nn, nn, nn, nn, nn, nn, nn, nn, nn, nn, nn, nn, nn]) rfl (by kernel_rfl) rfl rfl (NP.next (NP.next NP.body)) rfl rfl rfl rfl (dec_t hc174) (fun w' hw' => yl_move rfl) hS177 (fun hS178 => ?_)
              refine GH.on (i := 9) (listed' := #[yy, yy, yy, yy, yy, yy, nn, nn, yy, yy, nn, nn, nn, nn, nn, nn, nn, nn, nn, nn, nn, nn, nn, nn, nn, nn, nn, nn, nn, nn]) rfl (by kernel_rfl) rfl rfl (NP.next (NP.next NP.body)) rfl rfl rfl rfl (dec_t hc174) (fun w' hw' => yl_lenE Try.underlying49 rfl) hS178 (fun hS179 => ?_)
              obtain ⟨r1_6, hy180, hm⟩ := sp_bind hm
              refine GH.doesOn (i := 6) (listed' := #[yy, yy, yy, yy, yy, yy, yy, nn, yy, yy, nn, nn, nn, nn, nn, nn, nn, nn, nn, nn, nn, nn, nn, nn, nn, nn, nn, nn, nn, nn]) rfl (by kernel_rfl) rfl rfl rfl (dec_t hc174) rfl rfl (does_fn 2 rfl rfl rfl en55 (Sat.pick [1, 1, 0, 0] h169) (fun U hU hp hr hs => M_octet_Reader_Left_po_w (b2 := r5_3) (open_ := true) (bad := r6_3) hp hy180)) ?_
              rintro _ w181 ⟨U184, hb185, rfl, h183⟩
              have h182 : Sat W w181 [blk r1134 [(.slice r3143 r5_3.length r4144), (.bool true), (.bool r6_3)] 155, ow elU8 r3143 r4144 5 r5_3, ow elU8 r1161 r2162 5 r3_4, blk b150 (bytesV (List.ofFn (n := 20) r1_5.Publisher) ++ ([(v64 r1_5.Seq), (v64 r1_5.Born), (v32 r1_5.Life), (.bool r1_5.Gone), (v16 r1_5.Priority), (v16 r1_5.Weight), (v16 r1_5.Port), (.string (str r1_5.Target))] : List Value)) 47] := hb185 h183
              have hS186 : Cls (fun w' => View w' r1161 (elU8.row r3_4) ∧ View w' a2 (elU8.row behind) ∧ View w' (some ⟨b150, 0, none⟩) (bytesV (List.ofFn (n := 20) r1_5.Publisher) ++ ([(v64 r1_5.Seq), (v64 r1_5.Born), (v32 r1_5.Life), (.bool r1_5.Gone), (v16 r1_5.Priority), (v16 r1_5.Weight), (v16 r1_5.Port), (.string (str r1_5.Target))] : List Value))) [3, 4, 5, 7, 8, 9, 10, 13, 14, 15, 16, 17, 18, 19, 20, 23] [] #[yy, yy, yy, yy, yy, yy, yy, nn, yy, yy, nn, nn, nn, nn, nn, nn, nn, nn, nn, nn, nn, nn, nn, nn, nn, nn, nn, nn, nn, nn] w181 := Cls.keep (⟨(Sat.own_view (Sat.pick [2] h182)), (hv_behind.at_ h182), ((Sat.pick [3] h182).isBlk.view0)⟩) (by kernel_rfl)
              refine ⟨hS186, ?_⟩
              obtain ⟨hc187, hm⟩ := sp_chk hm
              refine GH.on (i := 7) (listed' := #[yy, yy, yy, yy, yy, yy, yy, yy, yy, yy, nn, nn, nn, nn, nn, nn, nn, nn, nn, nn, nn, nn, nn, nn, nn, nn, nn, nn, nn, nn]) rfl (by kernel_rfl) rfl rfl (NP.next (NP.next NP.body)) rfl rfl rfl rfl (dec_t hc174) (fun w' hw' => yl_addI rfl rfl hc187) hS186 (fun hS188 => ?_)
              refine GH.on (i := 10) (listed' := #[yy, yy, yy, yy, yy, yy, yy, yy, yy, yy, yy, nn, nn, nn, nn, nn, nn, nn, nn, nn, nn, nn, nn, nn, nn, nn, nn, nn, nn, nn]) rfl (by kernel_rfl) rfl rfl (NP.next (NP.next NP.body)) rfl rfl rfl rfl (dec_t hc174) (fun w' hw' => yl_eqI rfl rfl) hS188 (fun hS189 => ?_)
              refine GH.yl (i := 11) (listed' := #[yy, yy, yy, yy, yy, yy, yy, yy, yy, yy, yy, yy, nn, nn, nn, nn, nn, nn, nn, nn, nn, nn, nn, nn, nn, nn, nn, nn, nn, nn]) rfl (by kernel_rfl) rfl (NP.next (NP.next NP.body)) rfl rfl rfl (fun w' => yl_pick_t rfl (dec_t hc174) rfl) hS189 (fun hS190 => ?_)
              refine GH.yl (i := 12) (listed' := #[yy, yy, yy, yy, yy, yy, yy, yy, yy, yy, yy, yy, yy, nn, nn, nn, nn, nn, nn, nn, nn, nn, nn, nn, nn, nn, nn, nn, nn, nn]) rfl (by kernel_rfl) rfl (NP.next (NP.next NP.body)) rfl rfl rfl (fun w' => yl_move rfl) hS190 (fun hS191 => ?_)
              rcases sp_ite hm with ⟨hc192, hm⟩ | ⟨hc192, hm⟩
              · refine GH.on (i := 13) (listed' := #[yy, yy, yy, yy, yy, yy, yy, yy, yy, yy, yy, yy, yy, yy, nn, nn, nn, nn, nn, nn, nn, nn, nn, nn, nn, nn, nn, nn, nn, nn]) rfl (by kernel_rfl) rfl rfl (NP.next (NP.next NP.body)) rfl rfl rfl rfl (dec_t hc192) (fun w' hw' => yl_move rfl) hS191 (fun hS193 => ?_)
                refine GH.on (i := 14) (listed' := #[yy, yy, yy, yy, yy, yy, yy, yy, yy, yy, yy, yy, yy, yy, yy, nn, nn, nn, nn, nn, nn, nn, nn, nn, nn, nn, nn, nn, nn, nn]) rfl (by kernel_rfl) rfl rfl (NP.next (NP.next NP.body)) rfl rfl rfl rfl (dec_t hc192) (fun w' hw' => yl_strE Try.underlying49 Try.underlying5 Try.underlying9 rfl rfl (hw'.1)) hS193 (fun hS194 => ?_)
                refine GH.on (i := 15) (listed' := #[yy, yy, yy, yy, yy, yy, yy, yy, yy, yy, yy, yy, yy, yy, yy, yy, nn, nn, nn, nn, nn, nn, nn, nn, nn, nn, nn, nn, nn, nn]) rfl (by kernel_rfl) rfl rfl (NP.next (NP.next NP.body)) rfl rfl rfl rfl (dec_t hc192) (fun w' hw' => yl_move rfl) hS194 (fun hS195 => ?_)
                refine GH.on (i := 16) (listed' := #[yy, yy, yy, yy, yy, yy, yy, yy, yy, yy, yy, yy, yy, yy, yy, yy, yy, nn, nn, nn, nn, nn, nn, nn, nn, nn, nn, nn, nn, nn]) rfl (by kernel_rfl) rfl rfl (NP.next (NP.next NP.body)) rfl rfl rfl rfl (dec_t hc192) (fun w' hw' => yl_move rfl) hS195 (fun hS196 => ?_)
                refine GH.on (i := 17) (listed' := #[yy, yy, yy, yy, yy, yy, yy, yy, yy, yy, yy, yy, yy, yy, yy, yy, yy, yy, nn, nn, nn, nn, nn, nn, nn, nn, nn, nn, nn, nn]) rfl (by kernel_rfl) rfl rfl (NP.next (NP.next NP.body)) rfl rfl rfl rfl (dec_t hc192) (fun w' hw' => yl_lenE Try.underlying49 rfl) hS196 (fun hS197 => ?_)
                obtain ⟨hc198, hm⟩ := sp_chk hm
                refine GH.on (i := 18) (listed' := #[yy, yy, yy, yy, yy, yy, yy, yy, yy, yy, yy, yy, yy, yy, yy, yy, yy, yy, yy, nn, nn, nn, nn, nn, nn, nn, nn, nn, nn, nn]) rfl (by kernel_rfl) rfl rfl (NP.next (NP.next NP.body)) rfl rfl rfl rfl (dec_t hc192) (fun w' hw' => yl_slH (E := elU8) (l := behind) sl49 rfl rfl rfl hc198 hq_behind) hS197 (fun hS199 => ?_)
                refine GH.on (i := 19) (listed' := #[yy, yy, yy, yy, yy, yy, yy, yy, yy, yy, yy, yy, yy, yy, yy, yy, yy, yy, yy, yy, nn, nn, nn, nn, nn, nn, nn, nn, nn, nn]) rfl (by kernel_rfl) rfl rfl (NP.next (NP.next NP.body)) rfl rfl rfl rfl (dec_t hc192) (fun w' hw' => yl_strE Try.underlying49 Try.underlying5 Try.underlying9 rfl rfl (View.rtake (hw'.2.1) r3_4.length)) hS199 (fun hS200 => ?_)
                refine GH.on (i := 20) (listed' := #[yy, yy, yy, yy, yy, yy, yy, yy, yy, yy, yy, yy, yy, yy, yy, yy, yy, yy, yy, yy, yy, nn, nn, nn, nn, nn, nn, nn, nn, nn]) rfl (by kernel_rfl) rfl rfl (NP.next (NP.next NP.body)) rfl rfl rfl rfl (dec_t hc192) (fun w' hw' => yl_eqS rfl rfl) hS200 (fun hS201 => ?_)
                refine GH.yl (i := 21) (listed' := #[yy, yy, yy, yy, yy, yy, yy, yy, yy, yy, yy, yy, yy, yy, yy, yy, yy, yy, yy, yy, yy, yy, nn, nn, nn, nn, nn, nn, nn, nn]) rfl (by kernel_rfl) rfl (NP.next (NP.next NP.body)) rfl rfl rfl (fun w' => yl_pick_t rfl (dec_t hc192) rfl) hS201 (fun hS202 => ?_)
                refine GH.yl (i := 22) (listed' := #[yy, yy, yy, yy, yy, yy, yy, yy, yy, yy, yy, yy, yy, yy, yy, yy, yy, yy, yy, yy, yy, yy, yy, nn, nn, nn, nn, nn, nn, nn]) rfl (by kernel_rfl) rfl (NP.next (NP.next NP.body)) rfl rfl rfl (fun w' => yl_move rfl) hS202 (fun hS203 => ?_)
                rcases sp_ite hm with ⟨hc204, hm⟩ | ⟨hc204, hm⟩
                · refine GH.on (i := 23) (listed' := #[yy, yy, yy, yy, yy, yy, yy, yy, yy, yy, yy, yy, yy, yy, yy, yy, yy, yy, yy, yy, yy, yy, yy, yy, nn, nn, nn, nn, nn, nn]) rfl (by kernel_rfl) rfl rfl (NP.next (NP.next NP.body)) rfl rfl rfl rfl (dec_t hc204) (fun w' hw' => yl_loadN (vs := (bytesV (List.ofFn (n := 20) r1_5.Publisher) ++ ([(v64 r1_5.Seq), (v64 r1_5.Born), (v32 r1_5.Life), (.bool r1_5.Gone), (v16 r1_5.Priority), (v16 r1_5.Weight), (v16 r1_5.Port), (.string (str r1_5.Target))] : List Value))) ag47 sz47 (by simp [bytesV_length]) rfl (hw'.2.2)) hS203 (fun hS205 => ?_)
                  obtain ⟨r1_7, hy206, hm⟩ := sp_bind hm
                  refine GH.doesOn (i := 24) (listed' := #[yy, yy, yy, yy, yy, yy, yy, yy, yy, yy, yy, yy, yy, yy, yy, yy, yy, yy, yy, yy, yy, yy, yy, yy, yy, nn, nn, nn, nn, nn]) rfl (by kernel_rfl) rfl rfl rfl (dec_t hc204) rfl rfl (does_fn 0 rfl rfl rfl en32 h182 (fun U hU hp hr hs => M_inst_Good_w (i := r1_5) hp hy206)) ?_
                  rintro _ w207 ⟨U210, hb211, rfl, h209⟩
                  have h208 : Sat W w207 [blk r1134 [(.slice r3143 r5_3.length r4144), (.bool true), (.bool r6_3)] 155, ow elU8 r3143 r4144 5 r5_3, ow elU8 r1161 r2162 5 r3_4, blk b150 (bytesV (List.ofFn (n := 20) r1_5.Publisher) ++ ([(v64 r1_5.Seq), (v64 r1_5.Born), (v32 r1_5.Life), (.bool r1_5.Gone), (v16 r1_5.Priority), (v16 r1_5.Weight), (v16 r1_5.Port), (.string (str r1_5.Target))] : List Value)) 47] := hb211 h209
                  have hS212 : Cls (fun w' => View w' r1161 (elU8.row r3_4) ∧ View w' a2 (elU8.row behind) ∧ View w' (some ⟨b150, 0, none⟩) (bytesV (List.ofFn (n := 20) r1_5.Publisher) ++ ([(v64 r1_5.Seq), (v64 r1_5.Born), (v32 r1_5.Life), (.bool r1_5.Gone), (v16 r1_5.Priority), (v16 r1_5.Weight), (v16 r1_5.Port), (.string (str r1_5.Target))] : List Value))) [3, 4, 5, 7, 8, 9, 10, 13, 14, 15, 16, 17, 18, 19, 20, 23] [] #[yy, yy, yy, yy, yy, yy, yy, yy, yy, yy, yy, yy, yy, yy, yy, yy, yy, yy, yy, yy, yy, yy, yy, yy, yy, nn, nn, nn, nn, nn] w207 := Cls.keep (⟨(Sat.own_view (Sat.pick [2] h208)), (hv_behind.at_ h208), ((Sat.pick [3] h208).isBlk.view0)⟩) (by kernel_rfl)
                  refine ⟨hS212, ?_⟩
                  refine GH.yl (i := 25) (listed' := #[yy, yy, yy, yy, yy, yy, yy, yy, yy, yy, yy, yy, yy, yy, yy, yy, yy, yy, yy, yy, yy, yy, yy, yy, yy, yy, nn, nn, nn, nn]) rfl (by kernel_rfl) rfl (NP.next (NP.next NP.body)) rfl rfl rfl (fun w' => yl_pick_t rfl (dec_t hc204) rfl) hS212 (fun hS213 => ?_)
                  refine GH.yl (i := 26) (listed' := #[yy, yy, yy, yy, yy, yy, yy, yy, yy, yy, yy, yy, yy, yy, yy, yy, yy, yy, yy, yy, yy, yy, yy, yy, yy, yy, yy, nn, nn, nn]) rfl (by kernel_rfl) rfl (NP.next (NP.next NP.body)) rfl rfl rfl (fun w' => yl_move rfl) hS213 (fun hS214 => ?_)
                  rcases sp_b hm with ⟨hc215, hm⟩ | ⟨hc215, hm⟩
                  · obtain ⟨r1_8, hy216, hm⟩ := sp_bind hm
                    refine GH.doesOn (i := 27) (listed' := #[yy, yy, yy, yy, yy, yy, yy, yy, yy, yy, yy, yy, yy, yy, yy, yy, yy, yy, yy, yy, yy, yy, yy, yy, yy, yy, yy, yy, nn, nn]) rfl (by kernel_rfl) rfl rfl rfl hc215 rfl rfl (does_fn 0 rfl rfl rfl en29 h208 (fun U hU hp hr hs => M_signpostlaw11_lives_w hp hy216)) ?_
                    rintro _ w217 ⟨U220, hb221, rfl, h219⟩
                    have h218 : Sat W w217 [blk r1134 [(.slice r3143 r5_3.length r4144), (.bool true), (.bool r6_3)] 155, ow elU8 r3143 r4144 5 r5_3, ow elU8 r1161 r2162 5 r3_4, blk b150 (bytesV (List.ofFn (n := 20) r1_5.Publisher) ++ ([(v64 r1_5.Seq), (v64 r1_5.Born), (v32 r1_5.Life), (.bool r1_5.Gone), (v16 r1_5.Priority), (v16 r1_5.Weight), (v16 r1_5.Port), (.string (str r1_5.Target))] : List Value)) 47] := hb221 h219
                    have hS222 : Cls (fun w' => View w' r1161 (elU8.row r3_4) ∧ View w' a2 (elU8.row behind) ∧ View w' (some ⟨b150, 0, none⟩) (bytesV (List.ofFn (n := 20) r1_5.Publisher) ++ ([(v64 r1_5.Seq), (v64 r1_5.Born), (v32 r1_5.Life), (.bool r1_5.Gone), (v16 r1_5.Priority), (v16 r1_5.Weight), (v16 r1_5.Port), (.string (str r1_5.Target))] : List Value))) [3, 4, 5, 7, 8, 9, 10, 13, 14, 15, 16, 17, 18, 19, 20, 23] [] #[yy, yy, yy, yy, yy, yy, yy, yy, yy, yy, yy, yy, yy, yy, yy, yy, yy, yy, yy, yy, yy, yy, yy, yy, yy, yy, yy, yy, nn, nn] w217 := Cls.keep (⟨(Sat.own_view (Sat.pick [2] h218)), (hv_behind.at_ h218), ((Sat.pick [3] h218).isBlk.view0)⟩) (by kernel_rfl)
                    refine ⟨hS222, ?_⟩
                    refine GH.yl (i := 28) (listed' := #[yy, yy, yy, yy, yy, yy, yy, yy, yy, yy, yy, yy, yy, yy, yy, yy, yy, yy, yy, yy, yy, yy, yy, yy, yy, yy, yy, yy, yy, nn]) rfl (by kernel_rfl) rfl (NP.next (NP.next NP.body)) rfl rfl rfl (fun w' => yl_pick_t rfl hc215 rfl) hS222 (fun hS223 => ?_)
                    refine GH.yl (i := 29) (listed' := #[yy, yy, yy, yy, yy, yy, yy, yy, yy, yy, yy, yy, yy, yy, yy, yy, yy, yy, yy, yy, yy, yy, yy, yy, yy, yy, yy, yy, yy, yy]) rfl (by kernel_rfl) rfl (NP.next (NP.next NP.body)) rfl rfl rfl (fun w' => yl_assign rfl) hS223 (fun hS224 => ?_)
                    refine GH.done (by kernel_rfl) ?_
                    refine QA.then_normal ?_
                    refine C.ret ?_
                    refine QA.then_ret ?_
                    refine QA.ret1 rfl rfl ?_
                    obtain rfl := sp_ret1 hm
                    exact ⟨rfl, (Sat.pick [] h218)⟩
                  · refine GH.off (i := 27) (listed' := #[yy, yy, yy, yy, yy, yy, yy, yy, yy, yy, yy, yy, yy, yy, yy, yy, yy, yy, yy, yy, yy, yy, yy, yy, yy, yy, yy, yy, nn, nn]) rfl (by kernel_rfl) rfl (NP.next (NP.next NP.body)) rfl rfl rfl rfl hc215 hS214 (fun hS225 => ?_)
                    refine GH.yl (i := 28) (listed' := #[yy, yy, yy, yy, yy, yy, yy, yy, yy, yy, yy, yy, yy, yy, yy, yy, yy, yy, yy, yy, yy, yy, yy, yy, yy, yy, yy, yy, yy, nn]) rfl (by kernel_rfl) rfl (NP.next (NP.next NP.body)) rfl rfl rfl (fun w' => yl_pick_f rfl hc215 rfl) hS225 (fun hS226 => ?_)
                    refine GH.yl (i := 29) (listed' := #[yy, yy, yy, yy, yy, yy, yy, yy, yy, yy, yy, yy, yy, yy, yy, yy, yy, yy, yy, yy, yy, yy, yy, yy, yy, yy, yy, yy, yy, yy]) rfl (by kernel_rfl) rfl (NP.next (NP.next NP.body)) rfl rfl rfl (fun w' => yl_assign rfl) hS226 (fun hS227 => ?_)
                    refine GH.done (by kernel_rfl) ?_
                    refine QA.then_normal ?_
                    refine C.ret ?_
                    refine QA.then_ret ?_
                    refine QA.ret1 rfl rfl ?_
                    obtain rfl := sp_ret1 hm
                    exact ⟨rfl, (Sat.pick [] h208)⟩
                · refine GH.off (i := 23) (listed' := #[yy, yy, yy, yy, yy, yy, yy, yy, yy, yy, yy, yy, yy, yy, yy, yy, yy, yy, yy, yy, yy, yy, yy, yy, nn, nn, nn, nn, nn, nn]) rfl (by kernel_rfl) rfl (NP.next (NP.next NP.body)) rfl rfl rfl rfl (dec_f hc204) hS203 (fun hS228 => ?_)
                  refine GH.off (i := 24) (listed' := #[yy, yy, yy, yy, yy, yy, yy, yy, yy, yy, yy, yy, yy, yy, yy, yy, yy, yy, yy, yy, yy, yy, yy, yy, yy, nn, nn, nn, nn, nn]) rfl (by kernel_rfl) rfl (NP.next (NP.next NP.body)) rfl rfl rfl rfl (dec_f hc204) hS228 (fun hS229 => ?_)
                  refine GH.yl (i := 25) (listed' := #[yy, yy, yy, yy, yy, yy, yy, yy, yy, yy, yy, yy, yy, yy, yy, yy, yy, yy, yy, yy, yy, yy, yy, yy, yy, yy, nn, nn, nn, nn]) rfl (by kernel_rfl) rfl (NP.next (NP.next NP.body)) rfl rfl rfl (fun w' => yl_pick_f rfl (dec_f hc204) rfl) hS229 (fun hS230 => ?_)
                  refine GH.yl (i := 26) (listed' := #[yy, yy, yy, yy, yy, yy, yy, yy, yy, yy, yy, yy, yy, yy, yy, yy, yy, yy, yy, yy, yy, yy, yy, yy, yy, yy, yy, nn, nn, nn]) rfl (by kernel_rfl) rfl (NP.next (NP.next NP.body)) rfl rfl rfl (fun w' => yl_move rfl) hS230 (fun hS231 => ?_)
                  refine GH.off (i := 27) (listed' := #[yy, yy, yy, yy, yy, yy, yy, yy, yy, yy, yy, yy, yy, yy, yy, yy, yy, yy, yy, yy, yy, yy, yy, yy, yy, yy, yy, yy, nn, nn]) rfl (by kernel_rfl) rfl (NP.next (NP.next NP.body)) rfl rfl rfl rfl rfl hS231 (fun hS232 => ?_)
                  refine GH.yl (i := 28) (listed' := #[yy, yy, yy, yy, yy, yy, yy, yy, yy, yy, yy, yy, yy, yy, yy, yy, yy, yy, yy, yy, yy, yy, yy, yy, yy, yy, yy, yy, yy, nn]) rfl (by kernel_rfl) rfl (NP.next (NP.next NP.body)) rfl rfl rfl (fun w' => yl_pick_f rfl rfl rfl) hS232 (fun hS233 => ?_)
                  refine GH.yl (i := 29) (listed' := #[yy, yy, yy, yy, yy, yy, yy, yy, yy, yy, yy, yy, yy, yy, yy, yy, yy, yy, yy, yy, yy, yy, yy, yy, yy, yy, yy, yy, yy, yy]) rfl (by kernel_rfl) rfl (NP.next (NP.next NP.body)) rfl rfl rfl (fun w' => yl_assign rfl) hS233 (fun hS234 => ?_)
                  refine GH.done (by kernel_rfl) ?_
                  refine QA.then_normal ?_
                  refine C.ret ?_
                  refine QA.then_ret ?_
                  refine QA.ret1 rfl rfl ?_
                  obtain rfl := sp_ret1 hm
                  exact ⟨rfl, (Sat.pick [] h182)⟩
              · refine GH.off (i := 13) (listed' := #[yy, yy, yy, yy, yy, yy, yy, yy, yy, yy, yy, yy, yy, yy, nn, nn, nn, nn, nn, nn, nn, nn, nn, nn, nn, nn, nn, nn, nn, nn]) rfl (by kernel_rfl) rfl (NP.next (NP.next NP.body)) rfl rfl rfl rfl (dec_f hc192) hS191 (fun hS235 => ?_)
                refine GH.off (i := 14) (listed' := #[yy, yy, yy, yy, yy, yy, yy, yy, yy, yy, yy, yy, yy, yy, yy, nn, nn, nn, nn, nn, nn, nn, nn, nn, nn, nn, nn, nn, nn, nn]) rfl (by kernel_rfl) rfl (NP.next (NP.next NP.body)) rfl rfl rfl rfl (dec_f hc192) hS235 (fun hS236 => ?_)
                refine GH.off (i := 15) (listed' := #[yy, yy, yy, yy, yy, yy, yy, yy, yy, yy, yy, yy, yy, yy, yy, yy, nn, nn, nn, nn, nn, nn, nn, nn, nn, nn, nn, nn, nn, nn]) rfl (by kernel_rfl) rfl (NP.next (NP.next NP.body)) rfl rfl rfl rfl (dec_f hc192) hS236 (fun hS237 => ?_)
                refine GH.off (i := 16) (listed' := #[yy, yy, yy, yy, yy, yy, yy, yy, yy, yy, yy, yy, yy, yy, yy, yy, yy, nn, nn, nn, nn, nn, nn, nn, nn, nn, nn, nn, nn, nn]) rfl (by kernel_rfl) rfl (NP.next (NP.next NP.body)) rfl rfl rfl rfl (dec_f hc192) hS237 (fun hS238 => ?_)
                refine GH.off (i := 17) (listed' := #[yy, yy, yy, yy, yy, yy, yy, yy, yy, yy, yy, yy, yy, yy, yy, yy, yy, yy, nn, nn, nn, nn, nn, nn, nn, nn, nn, nn, nn, nn]) rfl (by kernel_rfl) rfl (NP.next (NP.next NP.body)) rfl rfl rfl rfl (dec_f hc192) hS238 (fun hS239 => ?_)
                refine GH.off (i := 18) (listed' := #[yy, yy, yy, yy, yy, yy, yy, yy, yy, yy, yy, yy, yy, yy, yy, yy, yy, yy, yy, nn, nn, nn, nn, nn, nn, nn, nn, nn, nn, nn]) rfl (by kernel_rfl) rfl (NP.next (NP.next NP.body)) rfl rfl rfl rfl (dec_f hc192) hS239 (fun hS240 => ?_)
                refine GH.off (i := 19) (listed' := #[yy, yy, yy, yy, yy, yy, yy, yy, yy, yy, yy, yy, yy, yy, yy, yy, yy, yy, yy, yy, nn, nn, nn, nn, nn, nn, nn, nn, nn, nn]) rfl (by kernel_rfl) rfl (NP.next (NP.next NP.body)) rfl rfl rfl rfl (dec_f hc192) hS240 (fun hS241 => ?_)
                refine GH.off (i := 20) (listed' := #[yy, yy, yy, yy, yy, yy, yy, yy, yy, yy, yy, yy, yy, yy, yy, yy, yy, yy, yy, yy, yy, nn, nn, nn, nn, nn, nn, nn, nn, nn]) rfl (by kernel_rfl) rfl (NP.next (NP.next NP.body)) rfl rfl rfl rfl (dec_f hc192) hS241 (fun hS242 => ?_)
                refine GH.yl (i := 21) (listed' := #[yy, yy, yy, yy, yy, yy, yy, yy, yy, yy, yy, yy, yy, yy, yy, yy, yy, yy, yy, yy, yy, yy, nn, nn, nn, nn, nn, nn, nn, nn]) rfl (by kernel_rfl) rfl (NP.next (NP.next NP.body)) rfl rfl rfl (fun w' => yl_pick_f rfl (dec_f hc192) rfl) hS242 (fun hS243 => ?_)
                refine GH.yl (i := 22) (listed' := #[yy, yy, yy, yy, yy, yy, yy, yy, yy, yy, yy, yy, yy, yy, yy, yy, yy, yy, yy, yy, yy, yy, yy, nn, nn, nn, nn, nn, nn, nn]) rfl (by kernel_rfl) rfl (NP.next (NP.next NP.body)) rfl rfl rfl (fun w' => yl_move rfl) hS243 (fun hS244 => ?_)
                refine GH.off (i := 23) (listed' := #[yy, yy, yy, yy, yy, yy, yy, yy, yy, yy, yy, yy, yy, yy, yy, yy, yy, yy, yy, yy, yy, yy, yy, yy, nn, nn, nn, nn, nn, nn]) rfl (by kernel_rfl) rfl (NP.next (NP.next NP.body)) rfl rfl rfl rfl rfl hS244 (fun hS245 => ?_)
                refine GH.off (i := 24) (listed' := #[yy, yy, yy, yy, yy, yy, yy, yy, yy, yy, yy, yy, yy, yy, yy, yy, yy, yy, yy, yy, yy, yy, yy, yy, yy, nn, nn, nn, nn, nn]) rfl (by kernel_rfl) rfl (NP.next (NP.next NP.body)) rfl rfl rfl rfl rfl hS245 (fun hS246 => ?_)
                refine GH.yl (i := 25) (listed' := #[yy, yy, yy, yy, yy, yy, yy, yy, yy, yy, yy, yy, yy, yy, yy, yy, yy, yy, yy, yy, yy, yy, yy, yy, yy, yy, nn, nn, nn, nn]) rfl (by kernel_rfl) rfl (NP.next (NP.next NP.body)) rfl rfl rfl (fun w' => yl_pick_f rfl rfl rfl) hS246 (fun hS247 => ?_)
                refine GH.yl (i := 26) (listed' := #[yy, yy, yy, yy, yy, yy, yy, yy, yy, yy, yy, yy, yy, yy, yy, yy, yy, yy, yy, yy, yy, yy, yy, yy, yy, yy, yy, nn, nn, nn]) rfl (by kernel_rfl) rfl (NP.next (NP.next NP.body)) rfl rfl rfl (fun w' => yl_move rfl) hS247 (fun hS248 => ?_)
                refine GH.off (i := 27) (listed' := #[yy, yy, yy, yy, yy, yy, yy, yy, yy, yy, yy, yy, yy, yy, yy, yy, yy, yy, yy, yy, yy, yy, yy, yy, yy, yy, yy, yy, nn, nn]) rfl (by kernel_rfl) rfl (NP.next (NP.next NP.body)) rfl rfl rfl rfl rfl hS248 (fun hS249 => ?_)
                refine GH.yl (i := 28) (listed' := #[yy, yy, yy, yy, yy, yy, yy, yy, yy, yy, yy, yy, yy, yy, yy, yy, yy, yy, yy, yy, yy, yy, yy, yy, yy, yy, yy, yy, yy, nn]) rfl (by kernel_rfl) rfl (NP.next (NP.next NP.body)) rfl rfl rfl (fun w' => yl_pick_f rfl rfl rfl) hS249 (fun hS250 => ?_)
                refine GH.yl (i := 29) (listed' := #[yy, yy, yy, yy, yy, yy, yy, yy, yy, yy, yy, yy, yy, yy, yy, yy, yy, yy, yy, yy, yy, yy, yy, yy, yy, yy, yy, yy, yy, yy]) rfl (by kernel_rfl) rfl (NP.next (NP.next NP.body)) rfl rfl rfl (fun w' => yl_assign rfl) hS250 (fun hS251 => ?_)
                refine GH.done (by kernel_rfl) ?_
                refine QA.then_normal ?_
                refine C.ret ?_
                refine QA.then_ret ?_
                refine QA.ret1 rfl rfl ?_
                obtain rfl := sp_ret1 hm
                exact ⟨rfl, (Sat.pick [] h182)⟩
            · refine GH.off (i := 3) (listed' := #[yy, yy, yy, yy, nn, nn, nn, nn, nn, nn, nn, nn, nn, nn, nn, nn, nn, nn, nn, nn, nn, nn, nn, nn, nn, nn, nn, nn, nn, nn]) rfl (by kernel_rfl) rfl (NP.next (NP.next NP.body)) rfl rfl rfl rfl (dec_f hc174) hS173 (fun hS252 => ?_)
              refine GH.off (i := 4) (listed' := #[yy, yy, yy, yy, yy, nn, nn, nn, nn, nn, nn, nn, nn, nn, nn, nn, nn, nn, nn, nn, nn, nn, nn, nn, nn, nn, nn, nn, nn, nn]) rfl (by kernel_rfl) rfl (NP.next (NP.next NP.body)) rfl rfl rfl rfl (dec_f hc174) hS252 (fun hS253 => ?_)
              refine GH.off (i := 5) (listed' := #[yy, yy, yy, yy, yy, yy, nn, nn, nn, nn, nn, nn, nn, nn, nn, nn, nn, nn, nn, nn, nn, nn, nn, nn, nn, nn, nn, nn, nn, nn]) rfl (by kernel_rfl) rfl (NP.next (NP.next NP.body)) rfl rfl rfl rfl (dec_f hc174) hS253 (fun hS254 => ?_)
              refine GH.off (i := 6) (listed' := #[yy, yy, yy, yy, yy, yy, yy, nn, nn, nn, nn, nn, nn, nn, nn, nn, nn, nn, nn, nn, nn, nn, nn, nn, nn, nn, nn, nn, nn, nn]) rfl (by kernel_rfl) rfl (NP.next (NP.next NP.body)) rfl rfl rfl rfl (dec_f hc174) hS254 (fun hS255 => ?_)
              refine GH.off (i := 7) (listed' := #[yy, yy, yy, yy, yy, yy, yy, yy, nn, nn, nn, nn, nn, nn, nn, nn, nn, nn, nn, nn, nn, nn, nn, nn, nn, nn, nn, nn, nn, nn]) rfl (by kernel_rfl) rfl (NP.next (NP.next NP.body)) rfl rfl rfl rfl (dec_f hc174) hS255 (fun hS256 => ?_)
              refine GH.off (i := 8) (listed' := #[yy, yy, yy, yy, yy, yy, yy, yy, yy, nn, nn, nn, nn, nn, nn, nn, nn, nn, nn, nn, nn, nn, nn, nn, nn, nn, nn, nn, nn, nn]) rfl (by kernel_rfl) rfl (NP.next (NP.next NP.body)) rfl rfl rfl rfl (dec_f hc174) hS256 (fun hS257 => ?_)
              refine GH.off (i := 9) (listed' := #[yy, yy, yy, yy, yy, yy, yy, yy, yy, yy, nn, nn, nn, nn, nn, nn, nn, nn, nn, nn, nn, nn, nn, nn, nn, nn, nn, nn, nn, nn]) rfl (by kernel_rfl) rfl (NP.next (NP.next NP.body)) rfl rfl rfl rfl (dec_f hc174) hS257 (fun hS258 => ?_)
              refine GH.off (i := 10) (listed' := #[yy, yy, yy, yy, yy, yy, yy, yy, yy, yy, yy, nn, nn, nn, nn, nn, nn, nn, nn, nn, nn, nn, nn, nn, nn, nn, nn, nn, nn, nn]) rfl (by kernel_rfl) rfl (NP.next (NP.next NP.body)) rfl rfl rfl rfl (dec_f hc174) hS258 (fun hS259 => ?_)
              refine GH.yl (i := 11) (listed' := #[yy, yy, yy, yy, yy, yy, yy, yy, yy, yy, yy, yy, nn, nn, nn, nn, nn, nn, nn, nn, nn, nn, nn, nn, nn, nn, nn, nn, nn, nn]) rfl (by kernel_rfl) rfl (NP.next (NP.next NP.body)) rfl rfl rfl (fun w' => yl_pick_f rfl (dec_f hc174) rfl) hS259 (fun hS260 => ?_)
              refine GH.yl (i := 12) (listed' := #[yy, yy, yy, yy, yy, yy, yy, yy, yy, yy, yy, yy, yy, nn, nn, nn, nn, nn, nn, nn, nn, nn, nn, nn, nn, nn, nn, nn, nn, nn]) rfl (by kernel_rfl) rfl (NP.next (NP.next NP.body)) rfl rfl rfl (fun w' => yl_move rfl) hS260 (fun hS261 => ?_)
              refine GH.off (i := 13) (listed' := #[yy, yy, yy, yy, yy, yy, yy, yy, yy, yy, yy, yy, yy, yy, nn, nn, nn, nn, nn, nn, nn, nn, nn, nn, nn, nn, nn, nn, nn, nn]) rfl (by kernel_rfl) rfl (NP.next (NP.next NP.body)) rfl rfl rfl rfl rfl hS261 (fun hS262 => ?_)
              refine GH.off (i := 14) (listed' := #[yy, yy, yy, yy, yy, yy, yy, yy, yy, yy, yy, yy, yy, yy, yy, nn, nn, nn, nn, nn, nn, nn, nn, nn, nn, nn, nn, nn, nn, nn]) rfl (by kernel_rfl) rfl (NP.next (NP.next NP.body)) rfl rfl rfl rfl rfl hS262 (fun hS263 => ?_)
              refine GH.off (i := 15) (listed' := #[yy, yy, yy, yy, yy, yy, yy, yy, yy, yy, yy, yy, yy, yy, yy, yy, nn, nn, nn, nn, nn, nn, nn, nn, nn, nn, nn, nn, nn, nn]) rfl (by kernel_rfl) rfl (NP.next (NP.next NP.body)) rfl rfl rfl rfl rfl hS263 (fun hS264 => ?_)
              refine GH.off (i := 16) (listed' := #[yy, yy, yy, yy, yy, yy, yy, yy, yy, yy, yy, yy, yy, yy, yy, yy, yy, nn, nn, nn, nn, nn, nn, nn, nn, nn, nn, nn, nn, nn]) rfl (by kernel_rfl) rfl (NP.next (NP.next NP.body)) rfl rfl rfl rfl rfl hS264 (fun hS265 => ?_)
              refine GH.off (i := 17) (listed' := #[yy, yy, yy, yy, yy, yy, yy, yy, yy, yy, yy, yy, yy, yy, yy, yy, yy, yy, nn, nn, nn, nn, nn, nn, nn, nn, nn, nn, nn, nn]) rfl (by kernel_rfl) rfl (NP.next (NP.next NP.body)) rfl rfl rfl rfl rfl hS265 (fun hS266 => ?_)
              refine GH.off (i := 18) (listed' := #[yy, yy, yy, yy, yy, yy, yy, yy, yy, yy, yy, yy, yy, yy, yy, yy, yy, yy, yy, nn, nn, nn, nn, nn, nn, nn, nn, nn, nn, nn]) rfl (by kernel_rfl) rfl (NP.next (NP.next NP.body)) rfl rfl rfl rfl rfl hS266 (fun hS267 => ?_)
              refine GH.off (i := 19) (listed' := #[yy, yy, yy, yy, yy, yy, yy, yy, yy, yy, yy, yy, yy, yy, yy, yy, yy, yy, yy, yy, nn, nn, nn, nn, nn, nn, nn, nn, nn, nn]) rfl (by kernel_rfl) rfl (NP.next (NP.next NP.body)) rfl rfl rfl rfl rfl hS267 (fun hS268 => ?_)
              refine GH.off (i := 20) (listed' := #[yy, yy, yy, yy, yy, yy, yy, yy, yy, yy, yy, yy, yy, yy, yy, yy, yy, yy, yy, yy, yy, nn, nn, nn, nn, nn, nn, nn, nn, nn]) rfl (by kernel_rfl) rfl (NP.next (NP.next NP.body)) rfl rfl rfl rfl rfl hS268 (fun hS269 => ?_)
              refine GH.yl (i := 21) (listed' := #[yy, yy, yy, yy, yy, yy, yy, yy, yy, yy, yy, yy, yy, yy, yy, yy, yy, yy, yy, yy, yy, yy, nn, nn, nn, nn, nn, nn, nn, nn]) rfl (by kernel_rfl) rfl (NP.next (NP.next NP.body)) rfl rfl rfl (fun w' => yl_pick_f rfl rfl rfl) hS269 (fun hS270 => ?_)
              refine GH.yl (i := 22) (listed' := #[yy, yy, yy, yy, yy, yy, yy, yy, yy, yy, yy, yy, yy, yy, yy, yy, yy, yy, yy, yy, yy, yy, yy, nn, nn, nn, nn, nn, nn, nn]) rfl (by kernel_rfl) rfl (NP.next (NP.next NP.body)) rfl rfl rfl (fun w' => yl_move rfl) hS270 (fun hS271 => ?_)
              refine GH.off (i := 23) (listed' := #[yy, yy, yy, yy, yy, yy, yy, yy, yy, yy, yy, yy, yy, yy, yy, yy, yy, yy, yy, yy, yy, yy, yy, yy, nn, nn, nn, nn, nn, nn]) rfl (by kernel_rfl) rfl (NP.next (NP.next NP.body)) rfl rfl rfl rfl rfl hS271 (fun hS272 => ?_)
              refine GH.off (i := 24) (listed' := #[yy, yy, yy, yy, yy, yy, yy, yy, yy, yy, yy, yy, yy, yy, yy, yy, yy, yy, yy, yy, yy, yy, yy, yy, yy, nn, nn, nn, nn, nn]) rfl (by kernel_rfl) rfl (NP.next (NP.next NP.body)) rfl rfl rfl rfl rfl hS272 (fun hS273 => ?_)
              refine GH.yl (i := 25) (listed' := #[yy, yy, yy, yy, yy, yy, yy, yy, yy, yy, yy, yy, yy, yy, yy, yy, yy, yy, yy, yy, yy, yy, yy, yy, yy, yy, nn, nn, nn, nn]) rfl (by kernel_rfl) rfl (NP.next (NP.next NP.body)) rfl rfl rfl (fun w' => yl_pick_f rfl rfl rfl) hS273 (fun hS274 => ?_)
              refine GH.yl (i := 26) (listed' := #[yy, yy, yy, yy, yy, yy, yy, yy, yy, yy, yy, yy, yy, yy, yy, yy, yy, yy, yy, yy, yy, yy, yy, yy, yy, yy, yy, nn, nn, nn]) rfl (by kernel_rfl) rfl (NP.next (NP.next NP.body)) rfl rfl rfl (fun w' => yl_move rfl) hS274 (fun hS275 => ?_)
              refine GH.off (i := 27) (listed' := #[yy, yy, yy, yy, yy, yy, yy, yy, yy, yy, yy, yy, yy, yy, yy, yy, yy, yy, yy, yy, yy, yy, yy, yy, yy, yy, yy, yy, nn, nn]) rfl (by kernel_rfl) rfl (NP.next (NP.next NP.body)) rfl rfl rfl rfl rfl hS275 (fun hS276 => ?_)
              refine GH.yl (i := 28) (listed' := #[yy, yy, yy, yy, yy, yy, yy, yy, yy, yy, yy, yy, yy, yy, yy, yy, yy, yy, yy, yy, yy, yy, yy, yy, yy, yy, yy, yy, yy, nn]) rfl (by kernel_rfl) rfl (NP.next (NP.next NP.body)) rfl rfl rfl (fun w' => yl_pick_f rfl rfl rfl) hS276 (fun hS277 => ?_)
              refine GH.yl (i := 29) (listed' := #[yy, yy, yy, yy, yy, yy, yy, yy, yy, yy, yy, yy, yy, yy, yy, yy, yy, yy, yy, yy, yy, yy, yy, yy, yy, yy, yy, yy, yy, yy]) rfl (by kernel_rfl) rfl (NP.next (NP.next NP.body)) rfl rfl rfl (fun w' => yl_assign rfl) hS277 (fun hS278 => ?_)
              refine GH.done (by kernel_rfl) ?_
              refine QA.then_normal ?_
              refine C.ret ?_
              refine QA.then_ret ?_
              refine QA.ret1 rfl rfl ?_
              obtain rfl := sp_ret1 hm
              exact ⟨rfl, (Sat.pick [] h169)⟩
          · refine C.cond_f rfl hc159 ?_
            refine C.skip ?_
            refine QA.then_normal ?_
            refine C.seq ?_
            refine C.region ?_
            obtain ⟨r1_9, hy279, hm⟩ := sp_bind hm
            refine G.does (does_fn 0 rfl rfl rfl en29 h158 (fun U hU hp hr hs => M_signpostlaw11_lives_w hp hy279)) rfl rfl rfl ?_
            rintro _ w280 ⟨U283, hb284, rfl, h282⟩
            have h281 : Sat W w280 [blk r1134 [(.slice r3143 r5_3.length r4144), (.bool true), (.bool r6_3)] 155, ow elU8 r3143 r4144 5 r5_3, blk b150 (bytesV (List.ofFn (n := 20) r1_5.Publisher) ++ ([(v64 r1_5.Seq), (v64 r1_5.Born), (v32 r1_5.Life), (.bool r1_5.Gone), (v16 r1_5.Priority), (v16 r1_5.Weight), (v16 r1_5.Port), (.string (str r1_5.Target))] : List Value)) 47] := hb284 h282
            refine G.yl (yl_assign rfl) rfl rfl rfl ?_
            refine G.nil ?_
            refine QA.then_normal ?_
            refine C.ret ?_
            refine QA.ret1 rfl rfl ?_
            obtain rfl := sp_ret1 hm
            exact ⟨rfl, (Sat.pick [] h281)⟩
end Go.Proofs.Ytgabplankmljfaa
