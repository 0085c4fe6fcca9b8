/-
  That the functions of the program compute what their Lean functions say, part 4. No condition.
-/
import Derived.Test.YtmjcemhojhbijaaRosterBackW3
namespace Go.Proofs.Ytmjcemhojhbijaa
open Go Go.RowKit
set_option linter.unusedVariables false
set_option linter.unusedSimpArgs false
set_option linter.unnecessarySimpa false
set_option maxRecDepth 20000 in
set_option maxHeartbeats 1000000 in
theorem M_signpostlaw12_RosterBack_vv_w {W : Base} {w : World} {a : Option Addr} {c : Nat} {a2 : List G_api_Instance} {a3 : Option Addr} {c2 : Nat} {behind : List UInt8} (hv_a2 : V W a (el_G_api_Instance.row a2)) (hq_a2 : a2.length ≤ c) (hv_behind : V W a3 (elU8.row behind)) (hq_behind : behind.length ≤ c2) (h : Sat W w []) {r1 : Bool} (hm : M_signpostlaw12_RosterBack_vv a2 behind = some r1) :
    Calls Try.prog 4 #[(.slice a a2.length c), (.slice a3 behind.length c2)] w (Ret fun v w' => v = (.bool r1) ∧ Sat W w' []) := by
  unfold M_signpostlaw12_RosterBack_vv at hm
  refine C.enter (N := 100) Try.func4 rfl Try.ntmps4 rfl ?_
  show C _ _ _ [(0, (.slice a a2.length c)), (1, (.slice a3 behind.length c2))] _ _
  refine C.seq ?_
  refine C.region ?_
  refine G.yl (yl_assign rfl) rfl rfl rfl ?_
  refine G.nil ?_
  refine QA.then_normal ?_
  refine C.seq ?_
  refine C.join (γ := Bool) (fun g => match g with | t19 => [(0, (.slice a a2.length c)), (1, (.slice a3 behind.length c2)), (4, (.bool false)), (19, (.bool t19))]) (fun g ww => match g with | t19 => (M_signpostlaw12_RosterBack_vv_k1 a2 behind t19 = some r1) ∧ Sat W ww []) ?_ ?_
  · refine C.region ?_
    refine G.yl (yl_move rfl) rfl rfl rfl ?_
    obtain ⟨r1_2, hy1, hm⟩ := sp_bind hm
    refine G.does (does_fn 0 rfl rfl rfl en6 h (fun U hU hp hr hs => M_signpostlaw12_Light_v_w (l := a2) (hs.v hv_a2) hq_a2 hp hy1)) rfl rfl rfl ?_
    rintro _ w2 ⟨U5, hb6, rfl, h4⟩
    have h3 : Sat W w2 [] := hb6 h4
    refine G.yl (yl_not rfl) rfl rfl rfl ?_
    refine G.yl (yl_move rfl) rfl rfl rfl ?_
    rcases sp_b hm with ⟨hc7, hm⟩ | ⟨hc7, hm⟩
    · refine G.on rfl rfl (not_f hc7) ?_
      refine G.yl (yl_move rfl) rfl rfl rfl ?_
      refine G.on rfl rfl (not_f hc7) ?_
      refine G.yl (yl_lenE Try.underlying39 rfl) rfl rfl rfl ?_
      refine G.on rfl rfl (not_f hc7) ?_
      refine G.yl (yl_gtI rfl rfl) rfl rfl rfl ?_
      refine G.yl (yl_pick_f rfl (not_f hc7) rfl) rfl rfl rfl ?_
      refine G.nil ?_
      exact QA.join (decide ((6000 : Int) < (behind.length : Int))) (Sub.of ⟨rfl, rfl, rfl, rfl, trivial⟩) ⟨hm, (Sat.pick [] h3)⟩
    · refine G.offU rfl rfl (not_t hc7) rfl ?_
      refine G.offU rfl rfl (not_t hc7) rfl ?_
      refine G.offU rfl rfl (not_t hc7) rfl ?_
      refine G.yl (yl_pick_t rfl (not_t hc7) rfl) rfl rfl rfl ?_
      refine G.nil ?_
      exact QA.join true (Sub.of ⟨rfl, rfl, rfl, rfl, trivial⟩) ⟨hm, (Sat.pick [] h3)⟩
  · rintro t19 w8 ⟨hm, h9⟩
    show C _ _ _ [(0, (.slice a a2.length c)), (1, (.slice a3 behind.length c2)), (4, (.bool false)), (19, (.bool t19))] _ _
    unfold M_signpostlaw12_RosterBack_vv_k1 at hm
    rcases sp_b hm with ⟨hc10, hm⟩ | ⟨hc10, hm⟩
    · refine C.cond_t rfl hc10 ?_
      refine C.seq ?_
      refine C.region ?_
      obtain ⟨r1_3, hy11, hm⟩ := sp_bind hm
      refine G.does (does_fn 0 rfl rfl rfl en7 h9 (fun U hU hp hr hs => M_signpostlaw12_lives_w hp hy11)) rfl rfl rfl ?_
      rintro _ w12 ⟨U15, hb16, rfl, h14⟩
      have h13 : Sat W w12 [] := hb16 h14
      refine G.yl (yl_assign rfl) rfl rfl rfl ?_
      refine G.nil ?_
      refine QA.then_normal ?_
      refine C.ret ?_
      refine QA.then_ret ?_
      refine QA.ret1 rfl rfl ?_
      obtain rfl := sp_ret1 hm
      exact ⟨rfl, (Sat.pick [] h13)⟩
    · refine C.cond_f rfl hc10 ?_
      refine C.skip ?_
      refine QA.then_normal ?_
      refine C.join (γ := Unit) (fun g => match g with | () => [(1, (.slice a3 behind.length c2)), (4, (.bool false))]) (fun g ww => match g with | () => (M_signpostlaw12_RosterBack_vv_k2 behind = some r1) ∧ Sat W ww []) ?_ ?_
      · refine C.seq ?_
        refine C.region ?_
        refine G.yl (yl_move rfl) rfl rfl rfl ?_
        obtain ⟨⟨r3_2, r4_2⟩, hy17, hm⟩ := sp_bind hm
        refine G.does (does_fn 0 rfl rfl rfl en14 h9 (fun U hU hp hr hs => M_roster_Bytes_v_w (l := a2) (hs.v hv_a2) hq_a2 hp hy17)) rfl rfl rfl ?_
        rintro _ w20 ⟨U23, hb24, r118, r219, rfl, h22⟩
        have h21 : Sat W w20 [ow elU8 r118 r219 5 r3_2] := hb24 h22
        refine G.yl (yl_move rfl) rfl rfl rfl ?_
        refine G.yl (yl_extract rfl rfl) rfl rfl rfl ?_
        refine G.yl (yl_extract rfl rfl) rfl rfl rfl ?_
        refine G.yl (yl_assign rfl) rfl rfl rfl ?_
        refine G.yl (yl_assign rfl) rfl rfl rfl ?_
        refine G.nil ?_
        refine QA.then_normal ?_
        refine C.seq ?_
        refine C.region ?_
        refine G.yl (yl_move rfl) rfl rfl rfl ?_
        refine G.yl (yl_eqI rfl rfl) rfl rfl rfl ?_
        refine G.nil ?_
        refine QA.then_normal ?_
        rcases sp_ite hm with ⟨hc25, hm⟩ | ⟨hc25, hm⟩
        · refine C.cond_t rfl (dec_t hc25) ?_
          refine C.seq ?_
          refine C.region ?_
          refine G.does (does_lit (E := elU8) (l := ([] : List UInt8)) (vs := []) (cs := []) (e := 5) h21 rfl (by kernel_rfl) rfl rfl (by decide)) rfl rfl rfl ?_
          rintro _ w27 ⟨a26, rfl, h28⟩
          refine G.yl (yl_move rfl) rfl rfl rfl ?_
          obtain ⟨hc29, hm⟩ := sp_chk hm
          refine G.does (does_app (E := elU8) (l := ([] : List UInt8)) (l2 := r3_2) Try.underlying39 el5 (Sat.own_zero h28 elU8 a26 5) rfl rfl rfl rfl (by decide) (Sat.own_view (Sat.pick [1] h28)) hc29 (by decide)) rfl rfl rfl ?_
          rintro _ w32 ⟨a30, c31, rfl, h33⟩
          refine G.yl (yl_move rfl) rfl rfl rfl ?_
          obtain ⟨hc34, hm⟩ := sp_chk hm
          refine G.does (does_app (E := elU8) (l := ([] : List UInt8) ++ r3_2) (l2 := behind) Try.underlying39 el5 h33 rfl rfl rfl rfl (by decide) (hv_behind.at_ h33) hc34 (by decide)) rfl rfl rfl ?_
          rintro _ w37 ⟨a35, c36, rfl, h38⟩
          obtain ⟨_, hy39, hm⟩ := sp_bind hm
          refine G.does (does_fn 0 rfl rfl rfl en15 h38 (fun U hU hp hr hs => M_octet_Open_v_w (b := (([] : List UInt8) ++ r3_2) ++ behind) (Rest.view hr) (Sat.own_cap h38).1 hp hy39)) rfl rfl rfl ?_
          rintro _ w43 ⟨U46, hb47, r140, r241, r342, rfl, h45⟩
          have h44 : Sat W w43 [blk r140 [(.slice r241 ((([] : List UInt8) ++ ((([] : List UInt8) ++ r3_2) ++ behind)).length) r342), (.bool true), (.bool false)] 72, ow elU8 r241 r342 5 (([] : List UInt8) ++ ((([] : List UInt8) ++ r3_2) ++ behind)), ow elU8 a35 c36 5 ((([] : List UInt8) ++ r3_2) ++ behind), ow elU8 a26 0 5 ([] : List UInt8), ow elU8 r118 r219 5 r3_2] := hb47 h45
          refine G.yl (yl_assign rfl) rfl rfl rfl ?_
          refine G.nil ?_
          refine QA.then_normal ?_
          refine C.seq ?_
          refine C.region ?_
          refine G.yl (yl_move rfl) rfl rfl rfl ?_
          refine G.yl (yl_eq_nil np43 rfl rfl) rfl rfl rfl ?_
          refine G.yl (yl_move rfl) rfl rfl rfl ?_
          refine G.on rfl rfl rfl ?_
          refine G.yl (yl_move rfl) rfl rfl rfl ?_
          refine G.on rfl rfl rfl ?_
          obtain ⟨⟨r3_3, r6_2, r7_2⟩, hy48, hm⟩ := sp_bind hm
          refine G.does (does_fn 2 rfl rfl rfl en17 (Sat.pick [0, 0, 0, 0, 0] h44) (fun U hU hp hr hs => M_roster_Read_po_w (b2 := ([] : List UInt8) ++ ((([] : List UInt8) ++ r3_2) ++ behind)) (open_ := true) (bad := false) hp hy48)) rfl rfl rfl ?_
          rintro _ w53 ⟨U56, hb57, r149, r250, r451, r552, rfl, h55⟩
          have h54 : Sat W w53 [ow el_G_api_Instance r149 r250 31 r3_3, blk r140 [(.slice r451 r6_2.length r552), (.bool true), (.bool r7_2)] 72, ow elU8 r451 r552 5 r6_2, ow elU8 a35 c36 5 ((([] : List UInt8) ++ r3_2) ++ behind), ow elU8 a26 0 5 ([] : List UInt8), ow elU8 r118 r219 5 r3_2] := hb57 h55
          refine G.on rfl rfl rfl ?_
          refine G.yl (yl_move rfl) rfl rfl rfl ?_
          refine G.on rfl rfl rfl ?_
          obtain ⟨r1_4, hy58, hm⟩ := sp_bind hm
          refine G.does (does_fn 0 rfl rfl rfl en16 h54 (fun U hU hp hr hs => M_signpostref12_Same_vv_w (a2 := r3_3) (b := a2) (Rest.view hr) (Sat.own_cap h54).1 (hs.v hv_a2) hq_a2 hp hy58)) rfl rfl rfl ?_
          rintro _ w59 ⟨U62, hb63, rfl, h61⟩
          have h60 : Sat W w59 [ow el_G_api_Instance r149 r250 31 r3_3, blk r140 [(.slice r451 r6_2.length r552), (.bool true), (.bool r7_2)] 72, ow elU8 r451 r552 5 r6_2, ow elU8 a35 c36 5 ((([] : List UInt8) ++ r3_2) ++ behind), ow elU8 a26 0 5 ([] : List UInt8), ow elU8 r118 r219 5 r3_2] := hb63 h61
          refine G.on rfl rfl rfl ?_
          refine G.yl (yl_not rfl) rfl rfl rfl ?_
          refine G.yl (yl_pick_f rfl rfl rfl) rfl rfl rfl ?_
          refine G.yl (yl_move rfl) rfl rfl rfl ?_
          rcases sp_b hm with ⟨hc64, hm⟩ | ⟨hc64, hm⟩
          · refine G.on rfl rfl (not_f hc64) ?_
            refine G.yl (yl_move rfl) rfl rfl rfl ?_
            refine G.on rfl rfl (not_f hc64) ?_
            obtain ⟨r1_5, hy65, hm⟩ := sp_bind hm
            refine G.does (does_fn 2 rfl rfl rfl en18 (Sat.pick [1, 1, 0, 0, 0, 0] h60) (fun U hU hp hr hs => M_octet_Reader_Left_po_w (b2 := r6_2) (open_ := true) (bad := r7_2) hp hy65)) rfl rfl rfl ?_
            rintro _ w66 ⟨U69, hb70, rfl, h68⟩
            have h67 : Sat W w66 [blk r140 [(.slice r451 r6_2.length r552), (.bool true), (.bool r7_2)] 72, ow elU8 r451 r552 5 r6_2, ow el_G_api_Instance r149 r250 31 r3_3, ow elU8 a35 c36 5 ((([] : List UInt8) ++ r3_2) ++ behind), ow elU8 a26 0 5 ([] : List UInt8), ow elU8 r118 r219 5 r3_2] := hb70 h68
            refine G.on rfl rfl (not_f hc64) ?_
            refine G.yl (yl_move rfl) rfl rfl rfl ?_
            refine G.on rfl rfl (not_f hc64) ?_
            refine G.yl (yl_lenE Try.underlying39 rfl) rfl rfl rfl ?_
            refine G.on rfl rfl (not_f hc64) ?_
            refine G.yl (yl_neI rfl rfl) rfl rfl rfl ?_
            refine G.yl (yl_pick_f rfl (not_f hc64) rfl) rfl rfl rfl ?_
            refine G.nil ?_
            refine QA.then_normal ?_
            rcases sp_ite hm with ⟨hc71, hm⟩ | ⟨hc71, hm⟩
            · refine C.cond_f rfl (not_f (dec_t hc71)) ?_
              refine C.skip ?_
              exact QA.join () (Sub.of ⟨rfl, rfl, trivial⟩) ⟨hm, (Sat.pick [] h67)⟩
            · refine C.cond_t rfl (not_t (dec_f hc71)) ?_
              refine C.seq ?_
              refine C.region ?_
              refine G.yl (yl_assign rfl) rfl rfl rfl ?_
              refine G.nil ?_
              refine QA.then_normal ?_
              refine C.ret ?_
              refine QA.then_ret ?_
              refine QA.ret1 rfl rfl ?_
              obtain rfl := sp_ret1 hm
              exact ⟨rfl, (Sat.pick [] h67)⟩
          · refine G.offU rfl rfl (not_t hc64) rfl ?_
            refine G.offU rfl rfl (not_t hc64) rfl ?_
            refine G.offU rfl rfl (not_t hc64) rfl ?_
            refine G.offU rfl rfl (not_t hc64) rfl ?_
            refine G.offU rfl rfl (not_t hc64) rfl ?_
            refine G.yl (yl_pick_t rfl (not_t hc64) rfl) rfl rfl rfl ?_
            refine G.nil ?_
            refine QA.then_normal ?_
            refine C.cond_t rfl rfl ?_
            refine C.seq ?_
            refine C.region ?_
            refine G.yl (yl_assign rfl) rfl rfl rfl ?_
            refine G.nil ?_
            refine QA.then_normal ?_
            refine C.ret ?_
            refine QA.then_ret ?_
            refine QA.ret1 rfl rfl ?_
            obtain rfl := sp_ret1 hm
            exact ⟨rfl, (Sat.pick [] h60)⟩
        · refine C.cond_f rfl (dec_f hc25) ?_
          refine C.skip ?_
          exact QA.join () (Sub.of ⟨rfl, rfl, trivial⟩) ⟨hm, (Sat.pick [] h21)⟩
      · rintro _ w72 ⟨hm, h73⟩
        show C _ _ _ [(1, (.slice a3 behind.length c2)), (4, (.bool false))] _ _
        unfold M_signpostlaw12_RosterBack_vv_k2 at hm
        refine C.seq ?_
        refine C.region ?_
        refine G.yl (yl_move rfl) rfl rfl rfl ?_
        obtain ⟨_, hy74, hm⟩ := sp_bind hm
        refine G.does (does_fn 0 rfl rfl rfl en15 h73 (fun U hU hp hr hs => M_octet_Open_v_w (b := behind) (hs.v hv_behind) hq_behind hp hy74)) rfl rfl rfl ?_
        rintro _ w78 ⟨U81, hb82, r175, r276, r377, rfl, h80⟩
        have h79 : Sat W w78 [blk r175 [(.slice r276 ((([] : List UInt8) ++ behind).length) r377), (.bool true), (.bool false)] 72, ow elU8 r276 r377 5 (([] : List UInt8) ++ behind)] := hb82 h80
        refine G.yl (yl_assign rfl) rfl rfl rfl ?_
        refine G.nil ?_
        refine QA.then_normal ?_
        refine C.seq ?_
        refine C.region ?_
        refine G.yl (yl_move rfl) rfl rfl rfl ?_
        obtain ⟨⟨r3_4, r6_3, r7_3⟩, hy83, hm⟩ := sp_bind hm
        refine G.does (does_fn 2 rfl rfl rfl en17 (Sat.pick [0, 0] h79) (fun U hU hp hr hs => M_roster_Read_po_w (b2 := ([] : List UInt8) ++ behind) (open_ := true) (bad := false) hp hy83)) rfl rfl rfl ?_
        rintro _ w88 ⟨U91, hb92, r184, r285, r486, r587, rfl, h90⟩
        have h89 : Sat W w88 [ow el_G_api_Instance r184 r285 31 r3_4, blk r175 [(.slice r486 r6_3.length r587), (.bool true), (.bool r7_3)] 72, ow elU8 r486 r587 5 r6_3] := hb92 h90
        refine G.yl (yl_assign rfl) rfl rfl rfl ?_
        refine G.nil ?_
        refine QA.then_normal ?_
        refine C.seq ?_
        refine C.seq ?_
        refine C.region ?_
        refine G.yl (yl_move rfl) rfl rfl rfl ?_
        refine G.yl (yl_eq_nil np43 rfl rfl) rfl rfl rfl ?_
        refine G.yl (yl_move rfl) rfl rfl rfl ?_
        refine G.on rfl rfl rfl ?_
        refine G.yl (yl_move rfl) rfl rfl rfl ?_
        refine G.on rfl rfl rfl ?_
        obtain ⟨r1_6, hy93, hm⟩ := sp_bind hm
        refine G.does (does_fn 2 rfl rfl rfl en19 (Sat.pick [1, 1, 0] h89) (fun U hU hp hr hs => M_octet_Reader_Bad_po_w (b2 := r6_3) (open_ := true) (bad := r7_3) hp hy93)) rfl rfl rfl ?_
        rintro _ w94 ⟨U97, hb98, rfl, h96⟩
        have h95 : Sat W w94 [blk r175 [(.slice r486 r6_3.length r587), (.bool true), (.bool r7_3)] 72, ow elU8 r486 r587 5 r6_3, ow el_G_api_Instance r184 r285 31 r3_4] := hb98 h96
        refine G.yl (yl_pick_f rfl rfl rfl) rfl rfl rfl ?_
        refine G.nil ?_
        refine QA.then_normal ?_
        rcases sp_b hm with ⟨hc99, hm⟩ | ⟨hc99, hm⟩
        · refine C.cond_t rfl hc99 ?_
          refine C.join (γ := Bool) (fun g => match g with | t4 => [(4, (.bool t4))]) (fun g ww => match g with | t4 => (M_signpostlaw12_RosterBack_vv_k3 t4 = some r1) ∧ Sat W ww []) ?_ ?_
          · refine C.region ?_
            refine G.yl (yl_move rfl) rfl rfl rfl ?_
            refine G.yl (yl_ne_nil np43 rfl rfl) rfl rfl rfl ?_
            refine G.yl (yl_move rfl) rfl rfl rfl ?_
            refine G.on rfl rfl rfl ?_
            refine G.yl (yl_move rfl) rfl rfl rfl ?_
            refine G.on rfl rfl rfl ?_
            refine G.yl (yl_lenE Try.underlying22 rfl) rfl rfl rfl ?_
            refine G.on rfl rfl rfl ?_
            refine G.yl (yl_eqI rfl rfl) rfl rfl rfl ?_
            refine G.yl (yl_pick_t rfl rfl rfl) rfl rfl rfl ?_
            refine G.yl (yl_move rfl) rfl rfl rfl ?_
            rcases sp_ite hm with ⟨hc100, hm⟩ | ⟨hc100, hm⟩
            · refine G.on rfl rfl (dec_t hc100) ?_
              obtain ⟨r1_7, hy101, hm⟩ := sp_bind hm
              refine G.does (does_fn 0 rfl rfl rfl en7 h95 (fun U hU hp hr hs => M_signpostlaw12_lives_w hp hy101)) rfl rfl rfl ?_
              rintro _ w102 ⟨U105, hb106, rfl, h104⟩
              have h103 : Sat W w102 [blk r175 [(.slice r486 r6_3.length r587), (.bool true), (.bool r7_3)] 72, ow elU8 r486 r587 5 r6_3, ow el_G_api_Instance r184 r285 31 r3_4] := hb106 h104
              refine G.yl (yl_pick_t rfl (dec_t hc100) rfl) rfl rfl rfl ?_
              refine G.yl (yl_assign rfl) rfl rfl rfl ?_
              refine G.nil ?_
              exact QA.join r1_7 (Sub.of ⟨rfl, trivial⟩) ⟨hm, (Sat.pick [] h103)⟩
            · refine G.offU rfl rfl (dec_f hc100) rfl ?_
              refine G.yl (yl_pick_f rfl (dec_f hc100) rfl) rfl rfl rfl ?_
              refine G.yl (yl_assign rfl) rfl rfl rfl ?_
              refine G.nil ?_
              exact QA.join false (Sub.of ⟨rfl, trivial⟩) ⟨hm, (Sat.pick [] h95)⟩
          · rintro t4 w107 ⟨hm, h108⟩
            show C _ _ _ [(4, (.bool t4))] _ _
            unfold M_signpostlaw12_RosterBack_vv_k3 at hm
            refine C.ret ?_
            refine QA.then_ret ?_
            refine QA.ret1 rfl rfl ?_
            obtain rfl := sp_ret1 hm
            exact ⟨rfl, (Sat.pick [] h108)⟩
        · refine C.cond_f rfl hc99 ?_
          refine C.skip ?_
          refine QA.then_normal ?_
          refine C.seq ?_
          refine C.region ?_
          refine G.yl (yl_move rfl) rfl rfl rfl ?_
          obtain ⟨⟨r3_5, r4_3⟩, hy109, hm⟩ := sp_bind hm
          refine G.does (does_fn 0 rfl rfl rfl en14 h95 (fun U hU hp hr hs => M_roster_Bytes_v_w (l := r3_4) (Rest.view (Rest.front 2 hr)) (Sat.own_cap (Sat.pick [2] h95)).1 hp hy109)) rfl rfl rfl ?_
          rintro _ w112 ⟨U115, hb116, r1110, r2111, rfl, h114⟩
          have h113 : Sat W w112 [ow elU8 r1110 r2111 5 r3_5, blk r175 [(.slice r486 r6_3.length r587), (.bool true), (.bool r7_3)] 72, ow elU8 r486 r587 5 r6_3, ow el_G_api_Instance r184 r285 31 r3_4] := hb116 h114
          refine G.yl (yl_move rfl) rfl rfl rfl ?_
          refine G.yl (yl_extract rfl rfl) rfl rfl rfl ?_
          refine G.yl (yl_extract rfl rfl) rfl rfl rfl ?_
          refine G.yl (yl_assign rfl) rfl rfl rfl ?_
          refine G.yl (yl_assign rfl) rfl rfl rfl ?_
          refine G.nil ?_
          refine QA.then_normal ?_
          refine C.seq ?_
          refine C.draw (V := fun w' => View w' r1110 (elU8.row r3_5) ∧ View w' a3 (elU8.row behind)) (nd := [3, 4, 5, 7, 8, 9, 10, 13, 14, 15, 16, 17, 18, 19, 20]) (sp := []) (n := 26) rfl h113 rfl rfl ?_
          intro w117 h118
          have hS119 : Cls (fun w' => View w' r1110 (elU8.row r3_5) ∧ View w' a3 (elU8.row behind)) [3, 4, 5, 7, 8, 9, 10, 13, 14, 15, 16, 17, 18, 19, 20] [] #[nn, nn, nn, nn, nn, nn, nn, nn, nn, nn, nn, nn, nn, nn, nn, nn, nn, nn, nn, nn, nn, nn, nn, nn, nn, nn] w117 := Cls.keep (⟨(Sat.own_view h118), (hv_behind.at_ h118)⟩) (by kernel_rfl)
          refine GH.yl (i := 0) (listed' := #[yy, nn, nn, nn, nn, nn, nn, nn, nn, nn, nn, nn, nn, nn, nn, nn, nn, nn, nn, nn, nn, nn, nn, nn, nn, nn]) rfl (by kernel_rfl) rfl (NP.next NP.body) rfl rfl rfl (fun w' => yl_move rfl) hS119 (fun hS120 => ?_)
          refine GH.yl (i := 1) (listed' := #[yy, yy, nn, nn, nn, nn, nn, nn, nn, nn, nn, nn, nn, nn, nn, nn, nn, nn, nn, nn, nn, nn, nn, nn, nn, nn]) rfl (by kernel_rfl) rfl (NP.next NP.body) rfl rfl rfl (fun w' => yl_eqI rfl rfl) hS120 (fun hS121 => ?_)
          refine GH.yl (i := 2) (listed' := #[yy, yy, yy, nn, nn, nn, nn, nn, nn, nn, nn, nn, nn, nn, nn, nn, nn, nn, nn, nn, nn, nn, nn, nn, nn, nn]) rfl (by kernel_rfl) rfl (NP.next NP.body) rfl rfl rfl (fun w' => yl_move rfl) hS121 (fun hS122 => ?_)
          rcases sp_ite hm with ⟨hc123, hm⟩ | ⟨hc123, hm⟩
          · refine GH.on (i := 3) (listed' := #[yy, yy, yy, yy, nn, nn, nn, nn, nn, nn, nn, nn, nn, nn, nn, nn, nn, nn, nn, nn, nn, nn, nn, nn, nn, nn]) rfl (by kernel_rfl) rfl rfl (NP.next NP.body) rfl rfl rfl rfl (dec_t hc123) (fun w' hw' => yl_move rfl) hS122 (fun hS124 => ?_)
            refine GH.on (i := 4) (listed' := #[yy, yy, yy, yy, yy, nn, nn, nn, nn, nn, nn, nn, nn, nn, nn, nn, nn, nn, nn, nn, nn, nn, nn, nn, nn, nn]) rfl (by kernel_rfl) rfl rfl (NP.next NP.body) rfl rfl rfl rfl (dec_t hc123) (fun w' hw' => yl_lenE Try.underlying39 rfl) hS124 (fun hS125 => ?_)
            refine GH.on (i := 5) (listed' := #[yy, yy, yy, yy, yy, yy, nn, nn, nn, nn, nn, nn, nn, nn, nn, nn, nn, nn, nn, nn, nn, nn, nn, nn, nn, nn]) rfl (by kernel_rfl) rfl rfl (NP.next NP.body) rfl rfl rfl rfl (dec_t hc123) (fun w' hw' => yl_move rfl) hS125 (fun hS126 => ?_)
            refine GH.on (i := 8) (listed' := #[yy, yy, yy, yy, yy, yy, nn, nn, yy, nn, nn, nn, nn, nn, nn, nn, nn, nn, nn, nn, nn, nn, nn, nn, nn, nn]) rfl (by kernel_rfl) rfl rfl (NP.next NP.body) rfl rfl rfl rfl (dec_t hc123) (fun w' hw' => yl_move rfl) hS126 (fun hS127 => ?_)
            refine GH.on (i := 9) (listed' := #[yy, yy, yy, yy, yy, yy, nn, nn, yy, yy, nn, nn, nn, nn, nn, nn, nn, nn, nn, nn, nn, nn, nn, nn, nn, nn]) rfl (by kernel_rfl) rfl rfl (NP.next NP.body) rfl rfl rfl rfl (dec_t hc123) (fun w' hw' => yl_lenE Try.underlying39 rfl) hS127 (fun hS128 => ?_)
            obtain ⟨r1_8, hy129, hm⟩ := sp_bind hm
            refine GH.doesOn (i := 6) (listed' := #[yy, yy, yy, yy, yy, yy, yy, nn, yy, yy, nn, nn, nn, nn, nn, nn, nn, nn, nn, nn, nn, nn, nn, nn, nn, nn]) rfl (by kernel_rfl) rfl rfl rfl (dec_t hc123) rfl rfl (does_fn 2 rfl rfl rfl en18 (Sat.pick [1, 1, 0, 0] h118) (fun U hU hp hr hs => M_octet_Reader_Left_po_w (b2 := r6_3) (open_ := true) (bad := r7_3) hp hy129)) ?_
            rintro _ w130 ⟨U133, hb134, rfl, h132⟩
            have h131 : Sat W w130 [blk r175 [(.slice r486 r6_3.length r587), (.bool true), (.bool r7_3)] 72, ow elU8 r486 r587 5 r6_3, ow elU8 r1110 r2111 5 r3_5, ow el_G_api_Instance r184 r285 31 r3_4] := hb134 h132
            have hS135 : Cls (fun w' => View w' r1110 (elU8.row r3_5) ∧ View w' a3 (elU8.row behind)) [3, 4, 5, 7, 8, 9, 10, 13, 14, 15, 16, 17, 18, 19, 20] [] #[yy, yy, yy, yy, yy, yy, yy, nn, yy, yy, nn, nn, nn, nn, nn, nn, nn, nn, nn, nn, nn, nn, nn, nn, nn, nn] w130 := Cls.keep (⟨(Sat.own_view (Sat.pick [2] h131)), (hv_behind.at_ h131)⟩) (by kernel_rfl)
            refine ⟨hS135, ?_⟩
            obtain ⟨hc136, hm⟩ := sp_chk hm
            refine GH.on (i := 7) (listed' := #[yy, yy, yy, yy, yy, yy, yy, yy, yy, yy, nn, nn, nn, nn, nn, nn, nn, nn, nn, nn, nn, nn, nn, nn, nn, nn]) rfl (by kernel_rfl) rfl rfl (NP.next NP.body) rfl rfl rfl rfl (dec_t hc123) (fun w' hw' => yl_addI rfl rfl hc136) hS135 (fun hS137 => ?_)
            refine GH.on (i := 10) (listed' := #[yy, yy, yy, yy, yy, yy, yy, yy, yy, yy, yy, nn, nn, nn, nn, nn, nn, nn, nn, nn, nn, nn, nn, nn, nn, nn]) rfl (by kernel_rfl) rfl rfl (NP.next NP.body) rfl rfl rfl rfl (dec_t hc123) (fun w' hw' => yl_eqI rfl rfl) hS137 (fun hS138 => ?_)
            refine GH.yl (i := 11) (listed' := #[yy, yy, yy, yy, yy, yy, yy, yy, yy, yy, yy, yy, nn, nn, nn, nn, nn, nn, nn, nn, nn, nn, nn, nn, nn, nn]) rfl (by kernel_rfl) rfl (NP.next NP.body) rfl rfl rfl (fun w' => yl_pick_t rfl (dec_t hc123) rfl) hS138 (fun hS139 => ?_)
            refine GH.yl (i := 12) (listed' := #[yy, yy, yy, yy, yy, yy, yy, yy, yy, yy, yy, yy, yy, nn, nn, nn, nn, nn, nn, nn, nn, nn, nn, nn, nn, nn]) rfl (by kernel_rfl) rfl (NP.next NP.body) rfl rfl rfl (fun w' => yl_move rfl) hS139 (fun hS140 => ?_)
            rcases sp_ite hm with ⟨hc141, hm⟩ | ⟨hc141, hm⟩
            · refine GH.on (i := 13) (listed' := #[yy, yy, yy, yy, yy, yy, yy, yy, yy, yy, yy, yy, yy, yy, nn, nn, nn, nn, nn, nn, nn, nn, nn, nn, nn, nn]) rfl (by kernel_rfl) rfl rfl (NP.next NP.body) rfl rfl rfl rfl (dec_t hc141) (fun w' hw' => yl_move rfl) hS140 (fun hS142 => ?_)
              refine GH.on (i := 14) (listed' := #[yy, yy, yy, yy, yy, yy, yy, yy, yy, yy, yy, yy, yy, yy, yy, nn, nn, nn, nn, nn, nn, nn, nn, nn, nn, nn]) rfl (by kernel_rfl) rfl rfl (NP.next NP.body) rfl rfl rfl rfl (dec_t hc141) (fun w' hw' => yl_strE Try.underlying39 Try.underlying5 Try.underlying9 rfl rfl (hw'.1)) hS142 (fun hS143 => ?_)
              refine GH.on (i := 15) (listed' := #[yy, yy, yy, yy, yy, yy, yy, yy, yy, yy, yy, yy, yy, yy, yy, yy, nn, nn, nn, nn, nn, nn, nn, nn, nn, nn]) rfl (by kernel_rfl) rfl rfl (NP.next NP.body) rfl rfl rfl rfl (dec_t hc141) (fun w' hw' => yl_move rfl) hS143 (fun hS144 => ?_)
              refine GH.on (i := 16) (listed' := #[yy, yy, yy, yy, yy, yy, yy, yy, yy, yy, yy, yy, yy, yy, yy, yy, yy, nn, nn, nn, nn, nn, nn, nn, nn, nn]) rfl (by kernel_rfl) rfl rfl (NP.next NP.body) rfl rfl rfl rfl (dec_t hc141) (fun w' hw' => yl_move rfl) hS144 (fun hS145 => ?_)
              refine GH.on (i := 17) (listed' := #[yy, yy, yy, yy, yy, yy, yy, yy, yy, yy, yy, yy, yy, yy, yy, yy, yy, yy, nn, nn, nn, nn, nn, nn, nn, nn]) rfl (by kernel_rfl) rfl rfl (NP.next NP.body) rfl rfl rfl rfl (dec_t hc141) (fun w' hw' => yl_lenE Try.underlying39 rfl) hS145 (fun hS146 => ?_)
              obtain ⟨hc147, hm⟩ := sp_chk hm
              refine GH.on (i := 18) (listed' := #[yy, yy, yy, yy, yy, yy, yy, yy, yy, yy, yy, yy, yy, yy, yy, yy, yy, yy, yy, nn, nn, nn, nn, nn, nn, nn]) rfl (by kernel_rfl) rfl rfl (NP.next NP.body) rfl rfl rfl rfl (dec_t hc141) (fun w' hw' => yl_slH (E := elU8) (l := behind) sl39 rfl rfl rfl hc147 hq_behind) hS146 (fun hS148 => ?_)
              refine GH.on (i := 19) (listed' := #[yy, yy, yy, yy, yy, yy, yy, yy, yy, yy, yy, yy, yy, yy, yy, yy, yy, yy, yy, yy, nn, nn, nn, nn, nn, nn]) rfl (by kernel_rfl) rfl rfl (NP.next NP.body) rfl rfl rfl rfl (dec_t hc141) (fun w' hw' => yl_strE Try.underlying39 Try.underlying5 Try.underlying9 rfl rfl (View.rtake (hw'.2) r3_5.length)) hS148 (fun hS149 => ?_)
              refine GH.on (i := 20) (listed' := #[yy, yy, yy, yy, yy, yy, yy, yy, yy, yy, yy, yy, yy, yy, yy, yy, yy, yy, yy, yy, yy, nn, nn, nn, nn, nn]) rfl (by kernel_rfl) rfl rfl (NP.next NP.body) rfl rfl rfl rfl (dec_t hc141) (fun w' hw' => yl_eqS rfl rfl) hS149 (fun hS150 => ?_)
              refine GH.yl (i := 21) (listed' := #[yy, yy, yy, yy, yy, yy, yy, yy, yy, yy, yy, yy, yy, yy, yy, yy, yy, yy, yy, yy, yy, yy, nn, nn, nn, nn]) rfl (by kernel_rfl) rfl (NP.next NP.body) rfl rfl rfl (fun w' => yl_pick_t rfl (dec_t hc141) rfl) hS150 (fun hS151 => ?_)
              refine GH.yl (i := 22) (listed' := #[yy, yy, yy, yy, yy, yy, yy, yy, yy, yy, yy, yy, yy, yy, yy, yy, yy, yy, yy, yy, yy, yy, yy, nn, nn, nn]) rfl (by kernel_rfl) rfl (NP.next NP.body) rfl rfl rfl (fun w' => yl_move rfl) hS151 (fun hS152 => ?_)
              rcases sp_ite hm with ⟨hc153, hm⟩ | ⟨hc153, hm⟩
              · obtain ⟨r1_9, hy154, hm⟩ := sp_bind hm
                refine GH.doesOn (i := 23) (listed' := #[yy, yy, yy, yy, yy, yy, yy, yy, yy, yy, yy, yy, yy, yy, yy, yy, yy, yy, yy, yy, yy, yy, yy, yy, nn, nn]) rfl (by kernel_rfl) rfl rfl rfl (dec_t hc153) rfl rfl (does_fn 0 rfl rfl rfl en7 h131 (fun U hU hp hr hs => M_signpostlaw12_lives_w hp hy154)) ?_
                rintro _ w155 ⟨U158, hb159, rfl, h157⟩
                have h156 : Sat W w155 [blk r175 [(.slice r486 r6_3.length r587), (.bool true), (.bool r7_3)] 72, ow elU8 r486 r587 5 r6_3, ow elU8 r1110 r2111 5 r3_5, ow el_G_api_Instance r184 r285 31 r3_4] := hb159 h157
                have hS160 : Cls (fun w' => View w' r1110 (elU8.row r3_5) ∧ View w' a3 (elU8.row behind)) [3, 4, 5, 7, 8, 9, 10, 13, 14, 15, 16, 17, 18, 19, 20] [] #[yy, yy, yy, yy, yy, yy, yy, yy, yy, yy, yy, yy, yy, yy, yy, yy, yy, yy, yy, yy, yy, yy, yy, yy, nn, nn] w155 := Cls.keep (⟨(Sat.own_view (Sat.pick [2] h156)), (hv_behind.at_ h156)⟩) (by kernel_rfl)
                refine ⟨hS160, ?_⟩
                refine GH.yl (i := 24) (listed' := #[yy, yy, yy, yy, yy, yy, yy, yy, yy, yy, yy, yy, yy, yy, yy, yy, yy, yy, yy, yy, yy, yy, yy, yy, yy, nn]) rfl (by kernel_rfl) rfl (NP.next NP.body) rfl rfl rfl (fun w' => yl_pick_t rfl (dec_t hc153) rfl) hS160 (fun hS161 => ?_)
                refine GH.yl (i := 25) (listed' := #[yy, yy, yy, yy, yy, yy, yy, yy, yy, yy, yy, yy, yy, yy, yy, yy, yy, yy, yy, yy, yy, yy, yy, yy, yy, yy]) rfl (by kernel_rfl) rfl (NP.next NP.body) rfl rfl rfl (fun w' => yl_assign rfl) hS161 (fun hS162 => ?_)
                refine GH.done (by kernel_rfl) ?_
                refine QA.then_normal ?_
                refine C.ret ?_
                refine QA.ret1 rfl rfl ?_
                obtain rfl := sp_ret1 hm
                exact ⟨rfl, (Sat.pick [] h156)⟩
              · refine GH.off (i := 23) (listed' := #[yy, yy, yy, yy, yy, yy, yy, yy, yy, yy, yy, yy, yy, yy, yy, yy, yy, yy, yy, yy, yy, yy, yy, yy, nn, nn]) rfl (by kernel_rfl) rfl (NP.next NP.body) rfl rfl rfl rfl (dec_f hc153) hS152 (fun hS163 => ?_)
                refine GH.yl (i := 24) (listed' := #[yy, yy, yy, yy, yy, yy, yy, yy, yy, yy, yy, yy, yy, yy, yy, yy, yy, yy, yy, yy, yy, yy, yy, yy, yy, nn]) rfl (by kernel_rfl) rfl (NP.next NP.body) rfl rfl rfl (fun w' => yl_pick_f rfl (dec_f hc153) rfl) hS163 (fun hS164 => ?_)
                refine GH.yl (i := 25) (listed' := #[yy, yy, yy, yy, yy, yy, yy, yy, yy, yy, yy, yy, yy, yy, yy, yy, yy, yy, yy, yy, yy, yy, yy, yy, yy, yy]) rfl (by kernel_rfl) rfl (NP.next NP.body) rfl rfl rfl (fun w' => yl_assign rfl) hS164 (fun hS165 => ?_)
                refine GH.done (by kernel_rfl) ?_
                refine QA.then_normal ?_
                refine C.ret ?_
                refine QA.ret1 rfl rfl ?_
                obtain rfl := sp_ret1 hm
                exact ⟨rfl, (Sat.pick [] h131)⟩
            · refine GH.off (i := 13) (listed' := #[yy, yy, yy, yy, yy, yy, yy, yy, yy, yy, yy, yy, yy, yy, nn, nn, nn, nn, nn, nn, nn, nn, nn, nn, nn, nn]) rfl (by kernel_rfl) rfl (NP.next NP.body) rfl rfl rfl rfl (dec_f hc141) hS140 (fun hS166 => ?_)
              refine GH.off (i := 14) (listed' := #[yy, yy, yy, yy, yy, yy, yy, yy, yy, yy, yy, yy, yy, yy, yy, nn, nn, nn, nn, nn, nn, nn, nn, nn, nn, nn]) rfl (by kernel_rfl) rfl (NP.next NP.body) rfl rfl rfl rfl (dec_f hc141) hS166 (fun hS167 => ?_)
              refine GH.off (i := 15) (listed' := #[yy, yy, yy, yy, yy, yy, yy, yy, yy, yy, yy, yy, yy, yy, yy, yy, nn, nn, nn, nn, nn, nn, nn, nn, nn, nn]) rfl (by kernel_rfl) rfl (NP.next NP.body) rfl rfl rfl rfl (dec_f hc141) hS167 (fun hS168 => ?_)
              refine GH.off (i := 16) (listed' := #[yy, yy, yy, yy, yy, yy, yy, yy, yy, yy, yy, yy, yy, yy, yy, yy, yy, nn, nn, nn, nn, nn, nn, nn, nn, nn]) rfl (by kernel_rfl) rfl (NP.next NP.body) rfl rfl rfl rfl (dec_f hc141) hS168 (fun hS169 => ?_)
              refine GH.off (i := 17) (listed' := #[yy, yy, yy, yy, yy, yy, yy, yy, yy, yy, yy, yy, yy, yy, yy, yy, yy, yy, nn, nn, nn, nn, nn, nn, nn, nn]) rfl (by kernel_rfl) rfl (NP.next NP.body) rfl rfl rfl rfl (dec_f hc141) hS169 (fun hS170 => ?_)
              refine GH.off (i := 18) (listed' := #[yy, yy, yy, yy, yy, yy, yy, yy, yy, yy, yy, yy, yy, yy, yy, yy, yy, yy, yy, nn, nn, nn, nn, nn, nn, nn]) rfl (by kernel_rfl) rfl (NP.next NP.body) rfl rfl rfl rfl (dec_f hc141) hS170 (fun hS171 => ?_)
              refine GH.off (i := 19) (listed' := #[yy, yy, yy, yy, yy, yy, yy, yy, yy, yy, yy, yy, yy, yy, yy, yy, yy, yy, yy, yy, nn, nn, nn, nn, nn, nn]) rfl (by kernel_rfl) rfl (NP.next NP.body) rfl rfl rfl rfl (dec_f hc141) hS171 (fun hS172 => ?_)
              refine GH.off (i := 20) (listed' := #[yy, yy, yy, yy, yy, yy, yy, yy, yy, yy, yy, yy, yy, yy, yy, yy, yy, yy, yy, yy, yy, nn, nn, nn, nn, nn]) rfl (by kernel_rfl) rfl (NP.next NP.body) rfl rfl rfl rfl (dec_f hc141) hS172 (fun hS173 => ?_)
              refine GH.yl (i := 21) (listed' := #[yy, yy, yy, yy, yy, yy, yy, yy, yy, yy, yy, yy, yy, yy, yy, yy, yy, yy, yy, yy, yy, yy, nn, nn, nn, nn]) rfl (by kernel_rfl) rfl (NP.next NP.body) rfl rfl rfl (fun w' => yl_pick_f rfl (dec_f hc141) rfl) hS173 (fun hS174 => ?_)
              refine GH.yl (i := 22) (listed' := #[yy, yy, yy, yy, yy, yy, yy, yy, yy, yy, yy, yy, yy, yy, yy, yy, yy, yy, yy, yy, yy, yy, yy, nn, nn, nn]) rfl (by kernel_rfl) rfl (NP.next NP.body) rfl rfl rfl (fun w' => yl_move rfl) hS174 (fun hS175 => ?_)
              refine GH.off (i := 23) (listed' := #[yy, yy, yy, yy, yy, yy, yy, yy, yy, yy, yy, yy, yy, yy, yy, yy, yy, yy, yy, yy, yy, yy, yy, yy, nn, nn]) rfl (by kernel_rfl) rfl (NP.next NP.body) rfl rfl rfl rfl rfl hS175 (fun hS176 => ?_)
              refine GH.yl (i := 24) (listed' := #[yy, yy, yy, yy, yy, yy, yy, yy, yy, yy, yy, yy, yy, yy, yy, yy, yy, yy, yy, yy, yy, yy, yy, yy, yy, nn]) rfl (by kernel_rfl) rfl (NP.next NP.body) rfl rfl rfl (fun w' => yl_pick_f rfl rfl rfl) hS176 (fun hS177 => ?_)
              refine GH.yl (i := 25) (listed' := #[yy, yy, yy, yy, yy, yy, yy, yy, yy, yy, yy, yy, yy, yy, yy, yy, yy, yy, yy, yy, yy, yy, yy, yy, yy, yy]) rfl (by kernel_rfl) rfl (NP.next NP.body) rfl rfl rfl (fun w' => yl_assign rfl) hS177 (fun hS178 => ?_)
              refine GH.done (by kernel_rfl) ?_
              refine QA.then_normal ?_
              refine C.ret ?_
              refine QA.ret1 rfl rfl ?_
              obtain rfl := sp_ret1 hm
              exact ⟨rfl, (Sat.pick [] h131)⟩
          · refine GH.off (i := 3) (listed' := #[yy, yy, yy, yy, nn, nn, nn, nn, nn, nn, nn, nn, nn, nn, nn, nn, nn, nn, nn, nn, nn, nn, nn, nn, nn, nn]) rfl (by kernel_rfl) rfl (NP.next NP.body) rfl rfl rfl rfl (dec_f hc123) hS122 (fun hS179 => ?_)
            refine GH.off (i := 4) (listed' := #[yy, yy, yy, yy, yy, nn, nn, nn, nn, nn, nn, nn, nn, nn, nn, nn, nn, nn, nn, nn, nn, nn, nn, nn, nn, nn]) rfl (by kernel_rfl) rfl (NP.next NP.body) rfl rfl rfl rfl (dec_f hc123) hS179 (fun hS180 => ?_)
            refine GH.off (i := 5) (listed' := #[yy, yy, yy, yy, yy, yy, nn, nn, nn, nn, nn, nn, nn, nn, nn, nn, nn, nn, nn, nn, nn, nn, nn, nn, nn, nn]) rfl (by kernel_rfl) rfl (NP.next NP.body) rfl rfl rfl rfl (dec_f hc123) hS180 (fun hS181 => ?_)
            refine GH.off (i := 6) (listed' := #[yy, yy, yy, yy, yy, yy, yy, nn, nn, nn, nn, nn, nn, nn, nn, nn, nn, nn, nn, nn, nn, nn, nn, nn, nn, nn]) rfl (by kernel_rfl) rfl (NP.next NP.body) rfl rfl rfl rfl (dec_f hc123) hS181 (fun hS182 => ?_)
            refine GH.off (i := 7) (listed' := #[yy, yy, yy, yy, yy, yy, yy, yy, nn, nn, nn, nn, nn, nn, nn, nn, nn, nn, nn, nn, nn, nn, nn, nn, nn, nn]) rfl (by kernel_rfl) rfl (NP.next NP.body) rfl rfl rfl rfl (dec_f hc123) hS182 (fun hS183 => ?_)
            refine GH.off (i := 8) (listed' := #[yy, yy, yy, yy, yy, yy, yy, yy, yy, nn, nn, nn, nn, nn, nn, nn, nn, nn, nn, nn, nn, nn, nn, nn, nn, nn]) rfl (by kernel_rfl) rfl (NP.next NP.body) rfl rfl rfl rfl (dec_f hc123) hS183 (fun hS184 => ?_)
            refine GH.off (i := 9) (listed' := #[yy, yy, yy, yy, yy, yy, yy, yy, yy, yy, nn, nn, nn, nn, nn, nn, nn, nn, nn, nn, nn, nn, nn, nn, nn, nn]) rfl (by kernel_rfl) rfl (NP.next NP.body) rfl rfl rfl rfl (dec_f hc123) hS184 (fun hS185 => ?_)
            refine GH.off (i := 10) (listed' := #[yy, yy, yy, yy, yy, yy, yy, yy, yy, yy, yy, nn, nn, nn, nn, nn, nn, nn, nn, nn, nn, nn, nn, nn, nn, nn]) rfl (by kernel_rfl) rfl (NP.next NP.body) rfl rfl rfl rfl (dec_f hc123) hS185 (fun hS186 => ?_)
            refine GH.yl (i := 11) (listed' := #[yy, yy, yy, yy, yy, yy, yy, yy, yy, yy, yy, yy, nn, nn, nn, nn, nn, nn, nn, nn, nn, nn, nn, nn, nn, nn]) rfl (by kernel_rfl) rfl (NP.next NP.body) rfl rfl rfl (fun w' => yl_pick_f rfl (dec_f hc123) rfl) hS186 (fun hS187 => ?_)
            refine GH.yl (i := 12) (listed' := #[yy, yy, yy, yy, yy, yy, yy, yy, yy, yy, yy, yy, yy, nn, nn, nn, nn, nn, nn, nn, nn, nn, nn, nn, nn, nn]) rfl (by kernel_rfl) rfl (NP.next NP.body) rfl rfl rfl (fun w' => yl_move rfl) hS187 (fun hS188 => ?_)
            refine GH.off (i := 13) (listed' := #[yy, yy, yy, yy, yy, yy, yy, yy, yy, yy, yy, yy, yy, yy, nn, nn, nn, nn, nn, nn, nn, nn, nn, nn, nn, nn]) rfl (by kernel_rfl) rfl (NP.next NP.body) rfl rfl rfl rfl rfl hS188 (fun hS189 => ?_)
            refine GH.off (i := 14) (listed' := #[yy, yy, yy, yy, yy, yy, yy, yy, yy, yy, yy, yy, yy, yy, yy, nn, nn, nn, nn, nn, nn, nn, nn, nn, nn, nn]) rfl (by kernel_rfl) rfl (NP.next NP.body) rfl rfl rfl rfl rfl hS189 (fun hS190 => ?_)
            refine GH.off (i := 15) (listed' := #[yy, yy, yy, yy, yy, yy, yy, yy, yy, yy, yy, yy, yy, yy, yy, yy, nn, nn, nn, nn, nn, nn, nn, nn, nn, nn]) rfl (by kernel_rfl) rfl (NP.next NP.body) rfl rfl rfl rfl rfl hS190 (fun hS191 => ?_)
            refine GH.off (i := 16) (listed' := #[yy, yy, yy, yy, yy, yy, yy, yy, yy, yy, yy, yy, yy, yy, yy, yy, yy, nn, nn, nn, nn, nn, nn, nn, nn, nn]) rfl (by kernel_rfl) rfl (NP.next NP.body) rfl rfl rfl rfl rfl hS191 (fun hS192 => ?_)
            refine GH.off (i := 17) (listed' := #[yy, yy, yy, yy, yy, yy, yy, yy, yy, yy, yy, yy, yy, yy, yy, yy, yy, yy, nn, nn, nn, nn, nn, nn, nn, nn]) rfl (by kernel_rfl) rfl (NP.next NP.body) rfl rfl rfl rfl rfl hS192 (fun hS193 => ?_)
            refine GH.off (i := 18) (listed' := #[yy, yy, yy, yy, yy, yy, yy, yy, yy, yy, yy, yy, yy, yy, yy, yy, yy, yy, yy, nn, nn, nn, nn, nn, nn, nn]) rfl (by kernel_rfl) rfl (NP.next NP.body) rfl rfl rfl rfl rfl hS193 (fun hS194 => ?_)
            refine GH.off (i := 19) (listed' := #[yy, yy, yy, yy, yy, yy, yy, yy, yy, yy, yy, yy, yy, yy, yy, yy, yy, yy, yy, yy, nn, nn, nn, nn, nn, nn]) rfl (by kernel_rfl) rfl (NP.next NP.body) rfl rfl rfl rfl rfl hS194 (fun hS195 => ?_)
            refine GH.off (i := 20) (listed' := #[yy, yy, yy, yy, yy, yy, yy, yy, yy, yy, yy, yy, yy, yy, yy, yy, yy, yy, yy, yy, yy, nn, nn, nn, nn, nn]) rfl (by kernel_rfl) rfl (NP.next NP.body) rfl rfl rfl rfl rfl hS195 (fun hS196 => ?_)
            refine GH.yl (i := 21) (listed' := #[yy, yy, yy, yy, yy, yy, yy, yy, yy, yy, yy, yy, yy, yy, yy, yy, yy, yy, yy, yy, yy, yy, nn, nn, nn, nn]) rfl (by kernel_rfl) rfl (NP.next NP.body) rfl rfl rfl (fun w' => yl_pick_f rfl rfl rfl) hS196 (fun hS197 => ?_)
            refine GH.yl (i := 22) (listed' := #[yy, yy, yy, yy, yy, yy, yy, yy, yy, yy, yy, yy, yy, yy, yy, yy, yy, yy, yy, yy, yy, yy, yy, nn, nn, nn]) rfl (by kernel_rfl) rfl (NP.next NP.body) rfl rfl rfl (fun w' => yl_move rfl) hS197 (fun hS198 => ?_)
            refine GH.off (i := 23) (listed' := #[yy, yy, yy, yy, yy, yy, yy, yy, yy, yy, yy, yy, yy, yy, yy, yy, yy, yy, yy, yy, yy, yy, yy, yy, nn, nn]) rfl (by kernel_rfl) rfl (NP.next NP.body) rfl rfl rfl rfl rfl hS198 (fun hS199 => ?_)
            refine GH.yl (i := 24) (listed' := #[yy, yy, yy, yy, yy, yy, yy, yy, yy, yy, yy, yy, yy, yy, yy, yy, yy, yy, yy, yy, yy, yy, yy, yy, yy, nn]) rfl (by kernel_rfl) rfl (NP.next NP.body) rfl rfl rfl (fun w' => yl_pick_f rfl rfl rfl) hS199 (fun hS200 => ?_)
            refine GH.yl (i := 25) (listed' := #[yy, yy, yy, yy, yy, yy, yy, yy, yy, yy, yy, yy, yy, yy, yy, yy, yy, yy, yy, yy, yy, yy, yy, yy, yy, yy]) rfl (by kernel_rfl) rfl (NP.next NP.body) rfl rfl rfl (fun w' => yl_assign rfl) hS200 (fun hS201 => ?_)
            refine GH.done (by kernel_rfl) ?_
            refine QA.then_normal ?_
            refine C.ret ?_
            refine QA.ret1 rfl rfl ?_
            obtain rfl := sp_ret1 hm
            exact ⟨rfl, (Sat.pick [] h118)⟩
end Go.Proofs.Ytmjcemhojhbijaa
