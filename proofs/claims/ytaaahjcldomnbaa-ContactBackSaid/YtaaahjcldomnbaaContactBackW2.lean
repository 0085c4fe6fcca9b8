/-
  That the functions of the program compute what their Lean functions say, part 2. No condition.
-/
import Derived.Test.YtaaahjcldomnbaaContactBackW1
namespace Go.Proofs.Ytaaahjcldomnbaa
open Go Go.RowKit
set_option linter.unusedVariables false
set_option linter.unusedSimpArgs false
set_option linter.unnecessarySimpa false
set_option maxRecDepth 20000 in
theorem M_signpostlaw08_ContactBack_vvv_w {W : Base} {w : World} {a : Option Addr} {c : Nat} {l : List G_api_Contact} {a2 : Option Addr} {c2 : Nat} {ahead : List UInt8} {a3 : Option Addr} {c3 : Nat} {behind : List UInt8} (hv_l : V W a (el_G_api_Contact.row l)) (hq_l : l.length ≤ c) (hv_ahead : V W a2 (elU8.row ahead)) (hq_ahead : ahead.length ≤ c2) (hv_behind : V W a3 (elU8.row behind)) (hq_behind : behind.length ≤ c3) (h : Sat W w []) {r1 : Bool} (hm : M_signpostlaw08_ContactBack_vvv l ahead behind = some r1) :
    Calls Try.prog 8 #[(.slice a l.length c), (.slice a2 ahead.length c2), (.slice a3 behind.length c3)] w (Ret fun v w' => v = (.bool r1) ∧ Sat W w' []) := by
  unfold M_signpostlaw08_ContactBack_vvv at hm
  refine C.enter (N := 122) Try.func8 rfl Try.ntmps8 rfl ?_
  show C _ _ _ [(0, (.slice a l.length c)), (1, (.slice a2 ahead.length c2)), (2, (.slice a3 behind.length c3))] _ _
  refine C.seq ?_
  refine C.region ?_
  refine G.yl (yl_assign rfl) rfl rfl rfl ?_
  refine G.nil ?_
  refine QA.then_normal ?_
  refine C.seq ?_
  refine C.join (γ := Bool) (fun g => match g with | t24 => [(0, (.slice a l.length c)), (1, (.slice a2 ahead.length c2)), (2, (.slice a3 behind.length c3)), (6, (.bool false)), (24, (.bool t24))]) (fun g ww => match g with | t24 => (M_signpostlaw08_ContactBack_vvv_k1 ahead behind l t24 = some r1) ∧ Sat W ww []) ?_ ?_
  · refine C.region ?_
    refine G.yl (yl_move rfl) rfl rfl rfl ?_
    refine G.yl (yl_lenE Try.underlying74 rfl) rfl rfl rfl ?_
    refine G.yl (yl_gtI rfl rfl) rfl rfl rfl ?_
    refine G.yl (yl_move rfl) rfl rfl rfl ?_
    rcases sp_ite hm with ⟨hc1, hm⟩ | ⟨hc1, hm⟩
    · refine G.offU rfl rfl (dec_t hc1) rfl ?_
      refine G.offU rfl rfl (dec_t hc1) rfl ?_
      refine G.offU rfl rfl (dec_t hc1) rfl ?_
      refine G.offU rfl rfl (dec_t hc1) rfl ?_
      refine G.offU rfl rfl (dec_t hc1) rfl ?_
      refine G.offU rfl rfl (dec_t hc1) rfl ?_
      refine G.yl (yl_pick_t rfl (dec_t hc1) rfl) rfl rfl rfl ?_
      refine G.nil ?_
      exact QA.join true (Sub.of ⟨rfl, rfl, rfl, rfl, rfl, trivial⟩) ⟨hm, (Sat.pick [] h)⟩
    · refine G.on rfl rfl (dec_f hc1) ?_
      refine G.yl (yl_move rfl) rfl rfl rfl ?_
      refine G.on rfl rfl (dec_f hc1) ?_
      refine G.yl (yl_lenE Try.underlying22 rfl) rfl rfl rfl ?_
      refine G.on rfl rfl (dec_f hc1) ?_
      refine G.yl (yl_move rfl) rfl rfl rfl ?_
      refine G.on rfl rfl (dec_f hc1) ?_
      refine G.yl (yl_lenE Try.underlying22 rfl) rfl rfl rfl ?_
      refine G.on rfl rfl (dec_f hc1) ?_
      obtain ⟨hc2, hm⟩ := sp_chk hm
      refine G.yl (yl_addI rfl rfl hc2) rfl rfl rfl ?_
      refine G.on rfl rfl (dec_f hc1) ?_
      refine G.yl (yl_gtI rfl rfl) rfl rfl rfl ?_
      refine G.yl (yl_pick_f rfl (dec_f hc1) rfl) rfl rfl rfl ?_
      refine G.nil ?_
      exact QA.join (decide ((3000 : Int) < ((ahead.length : Int) + (behind.length : Int)))) (Sub.of ⟨rfl, rfl, rfl, rfl, rfl, trivial⟩) ⟨hm, (Sat.pick [] h)⟩
  · rintro t24 w3 ⟨hm, h4⟩
    show C _ _ _ [(0, (.slice a l.length c)), (1, (.slice a2 ahead.length c2)), (2, (.slice a3 behind.length c3)), (6, (.bool false)), (24, (.bool t24))] _ _
    unfold M_signpostlaw08_ContactBack_vvv_k1 at hm
    rcases sp_b hm with ⟨hc5, hm⟩ | ⟨hc5, hm⟩
    · refine C.cond_t rfl hc5 ?_
      refine C.seq ?_
      refine C.region ?_
      obtain ⟨r1_2, hy6, hm⟩ := sp_bind hm
      refine G.does (does_fn 0 rfl rfl rfl en31 h4 (fun U hU hp hr hs => M_signpostlaw08_lives_w hp hy6)) rfl rfl rfl ?_
      rintro _ w7 ⟨U10, hb11, rfl, h9⟩
      have h8 : Sat W w7 [] := hb11 h9
      refine G.yl (yl_assign rfl) rfl rfl rfl ?_
      refine G.nil ?_
      refine QA.then_normal ?_
      refine C.ret ?_
      refine QA.then_ret ?_
      refine QA.ret1 rfl rfl ?_
      obtain rfl := sp_ret1 hm
      exact ⟨rfl, (Sat.pick [] h8)⟩
    · refine C.cond_f rfl hc5 ?_
      refine C.skip ?_
      refine QA.then_normal ?_
      refine C.seq ?_
      refine C.region ?_
      refine G.yl (yl_move rfl) rfl rfl rfl ?_
      obtain ⟨⟨r3_2, r4_2⟩, hy12, hm⟩ := sp_bind hm
      refine G.does (does_fn 0 rfl rfl rfl en44 h4 (fun U hU hp hr hs => M_contact_List_v_w (hs.v hv_l) hq_l hp hy12)) rfl rfl rfl ?_
      rintro _ w15 ⟨U18, hb19, r113, r214, rfl, h17⟩
      have h16 : Sat W w15 [ow elU8 r113 r214 5 r3_2] := hb19 h17
      refine G.yl (yl_move rfl) rfl rfl rfl ?_
      refine G.yl (yl_extract rfl rfl) rfl rfl rfl ?_
      refine G.yl (yl_extract rfl rfl) rfl rfl rfl ?_
      refine G.yl (yl_assign rfl) rfl rfl rfl ?_
      refine G.yl (yl_assign rfl) rfl rfl rfl ?_
      refine G.nil ?_
      refine QA.then_normal ?_
      refine C.seq ?_
      refine C.seq ?_
      refine C.region ?_
      refine G.yl (yl_move rfl) rfl rfl rfl ?_
      refine G.yl (yl_neI rfl rfl) rfl rfl rfl ?_
      refine G.nil ?_
      refine QA.then_normal ?_
      rcases sp_ite hm with ⟨hc20, hm⟩ | ⟨hc20, hm⟩
      · refine C.cond_f rfl (not_f (dec_t hc20)) ?_
        refine C.skip ?_
        refine QA.then_normal ?_
        refine C.seq ?_
        refine C.region ?_
        refine G.does (does_lit (E := elU8) (l := ([] : List UInt8)) (vs := []) (cs := []) (e := 5) h16 rfl (by kernel_rfl) rfl rfl (by decide)) rfl rfl rfl ?_
        rintro _ w22 ⟨a21, rfl, h23⟩
        refine G.yl (yl_move rfl) rfl rfl rfl ?_
        obtain ⟨hc24, hm⟩ := sp_chk hm
        refine G.does (does_app (E := elU8) (l := ([] : List UInt8)) (l2 := ahead) Try.underlying22 el5 (Sat.own_zero h23 elU8 a21 5) rfl rfl rfl rfl (by decide) (hv_ahead.at_ h23) hc24 (by decide)) rfl rfl rfl ?_
        rintro _ w27 ⟨a25, c26, rfl, h28⟩
        refine G.yl (yl_move rfl) rfl rfl rfl ?_
        obtain ⟨hc29, hm⟩ := sp_chk hm
        refine G.does (does_app (E := elU8) (l := ([] : List UInt8) ++ ahead) (l2 := r3_2) Try.underlying22 el5 h28 rfl rfl rfl rfl (by decide) (Sat.own_view (Sat.pick [2] h28)) hc29 (by decide)) rfl rfl rfl ?_
        rintro _ w32 ⟨a30, c31, rfl, h33⟩
        refine G.yl (yl_move rfl) rfl rfl rfl ?_
        obtain ⟨hc34, hm⟩ := sp_chk hm
        refine G.does (does_app (E := elU8) (l := (([] : List UInt8) ++ ahead) ++ r3_2) (l2 := behind) Try.underlying22 el5 h33 rfl rfl rfl rfl (by decide) (hv_behind.at_ h33) hc34 (by decide)) rfl rfl rfl ?_
        rintro _ w37 ⟨a35, c36, rfl, h38⟩
        obtain ⟨_, hy39, hm⟩ := sp_bind hm
        refine G.does (does_fn 0 rfl rfl rfl en34 h38 (fun U hU hp hr hs => M_octet_Open_v_w (Rest.view hr) (Sat.own_cap h38).1 hp hy39)) rfl rfl rfl ?_
        rintro _ w43 ⟨U46, hb47, r140, r241, r342, rfl, h45⟩
        have h44 : Sat W w43 [blk r140 [(.slice r241 ((([] : List UInt8) ++ (((([] : List UInt8) ++ ahead) ++ r3_2) ++ behind)).length) r342), (.bool true), (.bool false)] 122, ow elU8 r241 r342 5 (([] : List UInt8) ++ (((([] : List UInt8) ++ ahead) ++ r3_2) ++ behind)), ow elU8 a35 c36 5 (((([] : List UInt8) ++ ahead) ++ r3_2) ++ behind), ow elU8 a21 0 5 ([] : List UInt8), ow elU8 r113 r214 5 r3_2] := hb47 h45
        refine G.yl (yl_assign rfl) rfl rfl rfl ?_
        refine G.nil ?_
        refine QA.then_normal ?_
        refine C.seq ?_
        refine C.seq ?_
        refine C.region ?_
        refine G.yl (yl_move rfl) rfl rfl rfl ?_
        refine G.yl (yl_eq_nil np69 rfl rfl) rfl rfl rfl ?_
        refine G.nil ?_
        refine QA.then_normal ?_
        refine C.cond_f rfl rfl ?_
        refine C.skip ?_
        refine QA.then_normal ?_
        refine C.seq ?_
        refine C.region ?_
        refine G.yl (yl_move rfl) rfl rfl rfl ?_
        refine G.yl (yl_move rfl) rfl rfl rfl ?_
        refine G.yl (yl_lenE Try.underlying22 rfl) rfl rfl rfl ?_
        obtain ⟨⟨r3_3, r6_2, r7_2⟩, hy48, hm⟩ := sp_bind hm
        refine G.does (does_fn 2 rfl rfl rfl en35 (Sat.pick [0, 0, 0, 0, 0] h44) (fun U hU hp hr hs => M_octet_Reader_Take_po_w (b2 := ([] : List UInt8) ++ (((([] : List UInt8) ++ ahead) ++ r3_2) ++ behind)) hp hy48)) rfl rfl rfl ?_
        rintro _ w53 ⟨U56, hb57, r149, r250, r451, r552, rfl, h55⟩
        have h54 : Sat W w53 [ow elU8 r149 r250 5 r3_3, blk r140 [(.slice r451 r6_2.length r552), (.bool true), (.bool r7_2)] 122, ow elU8 r451 r552 5 r6_2, ow elU8 a35 c36 5 (((([] : List UInt8) ++ ahead) ++ r3_2) ++ behind), ow elU8 a21 0 5 ([] : List UInt8), ow elU8 r113 r214 5 r3_2] := hb57 h55
        refine G.nil ?_
        refine QA.then_normal ?_
        refine C.seq ?_
        refine C.join (γ := Bool) (fun g => match g with | t71 => [(2, (.slice a3 behind.length c3)), (6, (.bool false)), (71, (.bool t71))]) (fun g ww => match g with | t71 => (M_signpostlaw08_ContactBack_vvv_k2 behind t71 = some r1) ∧ Sat W ww []) ?_ ?_
        · refine C.region ?_
          refine G.yl (yl_move rfl) rfl rfl rfl ?_
          obtain ⟨⟨r3_4, r6_3, r7_3⟩, hy58, hm⟩ := sp_bind hm
          refine G.does (does_fn 2 rfl rfl rfl en37 (Sat.pick [1, 1, 0, 0, 0, 0] h54) (fun U hU hp hr hs => M_contact_ReadList_po_w hp hy58)) rfl rfl rfl ?_
          rintro _ w63 ⟨U66, hb67, r159, r260, r461, r562, rfl, h65⟩
          have h64 : Sat W w63 [ow el_G_api_Contact r159 r260 60 r3_4, blk r140 [(.slice r461 r6_3.length r562), (.bool true), (.bool r7_3)] 122, ow elU8 r461 r562 5 r6_3, ow elU8 r149 r250 5 r3_3, ow elU8 a35 c36 5 (((([] : List UInt8) ++ ahead) ++ r3_2) ++ behind), ow elU8 a21 0 5 ([] : List UInt8), ow elU8 r113 r214 5 r3_2] := hb67 h65
          refine G.yl (yl_move rfl) rfl rfl rfl ?_
          obtain ⟨r3_5, hy68, hm⟩ := sp_bind hm
          refine G.does (does_fn 0 rfl rfl rfl en46 h64 (fun U hU hp hr hs => M_signpostlaw08_Plain_v_w (hs.v hv_l) hq_l hp hy68)) rfl rfl rfl ?_
          rintro _ w71 ⟨U74, hb75, r169, r270, rfl, h73⟩
          have h72 : Sat W w71 [ow el_G_signpostref08_Contact r169 r270 66 r3_5, ow el_G_api_Contact r159 r260 60 r3_4, blk r140 [(.slice r461 r6_3.length r562), (.bool true), (.bool r7_3)] 122, ow elU8 r461 r562 5 r6_3, ow elU8 r149 r250 5 r3_3, ow elU8 a35 c36 5 (((([] : List UInt8) ++ ahead) ++ r3_2) ++ behind), ow elU8 a21 0 5 ([] : List UInt8), ow elU8 r113 r214 5 r3_2] := hb75 h73
          obtain ⟨r1_3, hy76, hm⟩ := sp_bind hm
          refine G.does (does_fn 0 rfl rfl rfl en40 h72 (fun U hU hp hr hs => M_signpostlaw08_Same_vv_w (Rest.view (Rest.front 1 hr)) (Sat.own_cap (Sat.pick [1] h72)).1 (Rest.view hr) (Sat.own_cap h72).1 hp hy76)) rfl rfl rfl ?_
          rintro _ w77 ⟨U80, hb81, rfl, h79⟩
          have h78 : Sat W w77 [ow el_G_signpostref08_Contact r169 r270 66 r3_5, ow el_G_api_Contact r159 r260 60 r3_4, blk r140 [(.slice r461 r6_3.length r562), (.bool true), (.bool r7_3)] 122, ow elU8 r461 r562 5 r6_3, ow elU8 r149 r250 5 r3_3, ow elU8 a35 c36 5 (((([] : List UInt8) ++ ahead) ++ r3_2) ++ behind), ow elU8 a21 0 5 ([] : List UInt8), ow elU8 r113 r214 5 r3_2] := hb81 h79
          refine G.yl (yl_not rfl) rfl rfl rfl ?_
          refine G.yl (yl_move rfl) rfl rfl rfl ?_
          rcases sp_b hm with ⟨hc82, hm⟩ | ⟨hc82, hm⟩
          · refine G.on rfl rfl (not_f hc82) ?_
            refine G.yl (yl_move rfl) rfl rfl rfl ?_
            refine G.on rfl rfl (not_f hc82) ?_
            obtain ⟨r1_4, hy83, hm⟩ := sp_bind hm
            refine G.does (does_fn 2 rfl rfl rfl en41 (Sat.pick [2, 2, 0, 0, 0, 0, 0, 0] h78) (fun U hU hp hr hs => M_octet_Reader_Left_po_w hp hy83)) rfl rfl rfl ?_
            rintro _ w84 ⟨U87, hb88, rfl, h86⟩
            have h85 : Sat W w84 [blk r140 [(.slice r461 r6_3.length r562), (.bool true), (.bool r7_3)] 122, ow elU8 r461 r562 5 r6_3, ow el_G_signpostref08_Contact r169 r270 66 r3_5, ow el_G_api_Contact r159 r260 60 r3_4, ow elU8 r149 r250 5 r3_3, ow elU8 a35 c36 5 (((([] : List UInt8) ++ ahead) ++ r3_2) ++ behind), ow elU8 a21 0 5 ([] : List UInt8), ow elU8 r113 r214 5 r3_2] := hb88 h86
            refine G.on rfl rfl (not_f hc82) ?_
            refine G.yl (yl_move rfl) rfl rfl rfl ?_
            refine G.on rfl rfl (not_f hc82) ?_
            refine G.yl (yl_lenE Try.underlying22 rfl) rfl rfl rfl ?_
            refine G.on rfl rfl (not_f hc82) ?_
            refine G.yl (yl_neI rfl rfl) rfl rfl rfl ?_
            refine G.yl (yl_pick_f rfl (not_f hc82) rfl) rfl rfl rfl ?_
            refine G.nil ?_
            exact QA.join (!(decide (r1_4 = (behind.length : Int)))) (Sub.of ⟨rfl, rfl, rfl, trivial⟩) ⟨hm, (Sat.pick [] h85)⟩
          · refine G.offU rfl rfl (not_t hc82) rfl ?_
            refine G.offU rfl rfl (not_t hc82) rfl ?_
            refine G.offU rfl rfl (not_t hc82) rfl ?_
            refine G.offU rfl rfl (not_t hc82) rfl ?_
            refine G.offU rfl rfl (not_t hc82) rfl ?_
            refine G.yl (yl_pick_t rfl (not_t hc82) rfl) rfl rfl rfl ?_
            refine G.nil ?_
            exact QA.join true (Sub.of ⟨rfl, rfl, rfl, trivial⟩) ⟨hm, (Sat.pick [] h78)⟩
        · rintro t71 w89 ⟨hm, h90⟩
          show C _ _ _ [(2, (.slice a3 behind.length c3)), (6, (.bool false)), (71, (.bool t71))] _ _
          unfold M_signpostlaw08_ContactBack_vvv_k2 at hm
          rcases sp_b hm with ⟨hc91, hm⟩ | ⟨hc91, hm⟩
          · refine C.cond_t rfl hc91 ?_
            refine C.seq ?_
            refine C.region ?_
            refine G.yl (yl_assign rfl) rfl rfl rfl ?_
            refine G.nil ?_
            refine QA.then_normal ?_
            refine C.ret ?_
            refine QA.then_ret ?_
            refine QA.ret1 rfl rfl ?_
            obtain rfl := sp_ret1 hm
            exact ⟨rfl, (Sat.pick [] h90)⟩
          · refine C.cond_f rfl hc91 ?_
            refine C.skip ?_
            refine QA.then_normal ?_
            refine C.seq ?_
            refine C.region ?_
            refine G.yl (yl_move rfl) rfl rfl rfl ?_
            obtain ⟨_, hy92, hm⟩ := sp_bind hm
            refine G.does (does_fn 0 rfl rfl rfl en34 h90 (fun U hU hp hr hs => M_octet_Open_v_w (hs.v hv_behind) hq_behind hp hy92)) rfl rfl rfl ?_
            rintro _ w96 ⟨U99, hb100, r193, r294, r395, rfl, h98⟩
            have h97 : Sat W w96 [blk r193 [(.slice r294 ((([] : List UInt8) ++ behind).length) r395), (.bool true), (.bool false)] 122, ow elU8 r294 r395 5 (([] : List UInt8) ++ behind)] := hb100 h98
            refine G.yl (yl_assign rfl) rfl rfl rfl ?_
            refine G.nil ?_
            refine QA.then_normal ?_
            refine C.seq ?_
            refine C.region ?_
            refine G.yl (yl_move rfl) rfl rfl rfl ?_
            obtain ⟨⟨r3_6, r6_4, r7_4⟩, hy101, hm⟩ := sp_bind hm
            refine G.does (does_fn 2 rfl rfl rfl en37 (Sat.pick [0, 0] h97) (fun U hU hp hr hs => M_contact_ReadList_po_w (b2 := ([] : List UInt8) ++ behind) hp hy101)) rfl rfl rfl ?_
            rintro _ w106 ⟨U109, hb110, r1102, r2103, r4104, r5105, rfl, h108⟩
            have h107 : Sat W w106 [ow el_G_api_Contact r1102 r2103 60 r3_6, blk r193 [(.slice r4104 r6_4.length r5105), (.bool true), (.bool r7_4)] 122, ow elU8 r4104 r5105 5 r6_4] := hb110 h108
            refine G.yl (yl_assign rfl) rfl rfl rfl ?_
            refine G.nil ?_
            refine QA.then_normal ?_
            refine C.seq ?_
            refine C.seq ?_
            refine C.region ?_
            refine G.yl (yl_move rfl) rfl rfl rfl ?_
            refine G.yl (yl_eq_nil np69 rfl rfl) rfl rfl rfl ?_
            refine G.yl (yl_move rfl) rfl rfl rfl ?_
            refine G.on rfl rfl rfl ?_
            refine G.yl (yl_move rfl) rfl rfl rfl ?_
            refine G.on rfl rfl rfl ?_
            obtain ⟨r1_5, hy111, hm⟩ := sp_bind hm
            refine G.does (does_fn 2 rfl rfl rfl en43 (Sat.pick [1, 1, 0] h107) (fun U hU hp hr hs => M_octet_Reader_Bad_po_w hp hy111)) rfl rfl rfl ?_
            rintro _ w112 ⟨U115, hb116, rfl, h114⟩
            have h113 : Sat W w112 [blk r193 [(.slice r4104 r6_4.length r5105), (.bool true), (.bool r7_4)] 122, ow elU8 r4104 r5105 5 r6_4, ow el_G_api_Contact r1102 r2103 60 r3_6] := hb116 h114
            refine G.yl (yl_pick_f rfl rfl rfl) rfl rfl rfl ?_
            refine G.nil ?_
            refine QA.then_normal ?_
            rcases sp_b hm with ⟨hc117, hm⟩ | ⟨hc117, hm⟩
            · refine C.cond_t rfl hc117 ?_
              refine C.join (γ := Bool) (fun g => match g with | t6 => [(6, (.bool t6))]) (fun g ww => match g with | t6 => (M_signpostlaw08_ContactBack_vvv_k3 t6 = some r1) ∧ Sat W ww []) ?_ ?_
              · refine C.region ?_
                refine G.yl (yl_move rfl) rfl rfl rfl ?_
                refine G.yl (yl_ne_nil np69 rfl rfl) rfl rfl rfl ?_
                refine G.yl (yl_move rfl) rfl rfl rfl ?_
                refine G.on rfl rfl rfl ?_
                refine G.yl (yl_move rfl) rfl rfl rfl ?_
                refine G.on rfl rfl rfl ?_
                refine G.yl (yl_lenE Try.underlying74 rfl) rfl rfl rfl ?_
                refine G.on rfl rfl rfl ?_
                refine G.yl (yl_eqI rfl rfl) rfl rfl rfl ?_
                refine G.yl (yl_pick_t rfl rfl rfl) rfl rfl rfl ?_
                refine G.yl (yl_move rfl) rfl rfl rfl ?_
                rcases sp_ite hm with ⟨hc118, hm⟩ | ⟨hc118, hm⟩
                · refine G.on rfl rfl (dec_t hc118) ?_
                  obtain ⟨r1_6, hy119, hm⟩ := sp_bind hm
                  refine G.does (does_fn 0 rfl rfl rfl en31 h113 (fun U hU hp hr hs => M_signpostlaw08_lives_w hp hy119)) rfl rfl rfl ?_
                  rintro _ w120 ⟨U123, hb124, rfl, h122⟩
                  have h121 : Sat W w120 [blk r193 [(.slice r4104 r6_4.length r5105), (.bool true), (.bool r7_4)] 122, ow elU8 r4104 r5105 5 r6_4, ow el_G_api_Contact r1102 r2103 60 r3_6] := hb124 h122
                  refine G.yl (yl_pick_t rfl (dec_t hc118) rfl) rfl rfl rfl ?_
                  refine G.yl (yl_assign rfl) rfl rfl rfl ?_
                  refine G.nil ?_
                  exact QA.join r1_6 (Sub.of ⟨rfl, trivial⟩) ⟨hm, (Sat.pick [] h121)⟩
                · refine G.offU rfl rfl (dec_f hc118) rfl ?_
                  refine G.yl (yl_pick_f rfl (dec_f hc118) rfl) rfl rfl rfl ?_
                  refine G.yl (yl_assign rfl) rfl rfl rfl ?_
                  refine G.nil ?_
                  exact QA.join false (Sub.of ⟨rfl, trivial⟩) ⟨hm, (Sat.pick [] h113)⟩
              · rintro t6 w125 ⟨hm, h126⟩
                show C _ _ _ [(6, (.bool t6))] _ _
                unfold M_signpostlaw08_ContactBack_vvv_k3 at hm
                refine C.ret ?_
                refine QA.then_ret ?_
                refine QA.ret1 rfl rfl ?_
                obtain rfl := sp_ret1 hm
                exact ⟨rfl, (Sat.pick [] h126)⟩
            · refine C.cond_f rfl hc117 ?_
              refine C.skip ?_
              refine QA.then_normal ?_
              refine C.seq ?_
              refine C.region ?_
              refine G.yl (yl_move rfl) rfl rfl rfl ?_
              obtain ⟨⟨r3_7, r4_3⟩, hy127, hm⟩ := sp_bind hm
              refine G.does (does_fn 0 rfl rfl rfl en44 h113 (fun U hU hp hr hs => M_contact_List_v_w (Rest.view (Rest.front 2 hr)) (Sat.own_cap (Sat.pick [2] h113)).1 hp hy127)) rfl rfl rfl ?_
              rintro _ w130 ⟨U133, hb134, r1128, r2129, rfl, h132⟩
              have h131 : Sat W w130 [ow elU8 r1128 r2129 5 r3_7, blk r193 [(.slice r4104 r6_4.length r5105), (.bool true), (.bool r7_4)] 122, ow elU8 r4104 r5105 5 r6_4, ow el_G_api_Contact r1102 r2103 60 r3_6] := hb134 h132
              refine G.yl (yl_move rfl) rfl rfl rfl ?_
              refine G.yl (yl_extract rfl rfl) rfl rfl rfl ?_
              refine G.yl (yl_extract rfl rfl) rfl rfl rfl ?_
              refine G.yl (yl_assign rfl) rfl rfl rfl ?_
              refine G.yl (yl_assign rfl) rfl rfl rfl ?_
              refine G.nil ?_
              refine QA.then_normal ?_
              refine C.seq ?_
              refine C.draw (V := fun w' => View w' r1128 (elU8.row r3_7) ∧ View w' a3 (elU8.row behind)) (nd := [3, 4, 5, 7, 8, 9, 10, 13, 14, 15, 16, 17, 18, 19, 20]) (sp := []) (n := 26) rfl h131 rfl rfl ?_
              intro w135 h136
              have hS137 : Cls (fun w' => View w' r1128 (elU8.row r3_7) ∧ View w' a3 (elU8.row behind)) [3, 4, 5, 7, 8, 9, 10, 13, 14, 15, 16, 17, 18, 19, 20] [] #[false, false, false, false, false, false, false, false, false, false, false, false, false, false, false, false, false, false, false, false, false, false, false, false, false, false] w135 := Cls.keep (⟨(Sat.own_view h136), (hv_behind.at_ h136)⟩) (by kernel_rfl)
              refine GH.yl (i := 0) (listed' := #[true, false, false, false, false, false, false, false, false, false, false, false, false, false, false, false, false, false, false, false, false, false, false, false, false, false]) rfl (by kernel_rfl) rfl (NP.next NP.body) rfl rfl rfl (fun w' => yl_move rfl) hS137 (fun hS138 => ?_)
              refine GH.yl (i := 1) (listed' := #[true, true, false, false, false, false, false, false, false, false, false, false, false, false, false, false, false, false, false, false, false, false, false, false, false, false]) rfl (by kernel_rfl) rfl (NP.next NP.body) rfl rfl rfl (fun w' => yl_eqI rfl rfl) hS138 (fun hS139 => ?_)
              refine GH.yl (i := 2) (listed' := #[true, true, true, false, false, false, false, false, false, false, false, false, false, false, false, false, false, false, false, false, false, false, false, false, false, false]) rfl (by kernel_rfl) rfl (NP.next NP.body) rfl rfl rfl (fun w' => yl_move rfl) hS139 (fun hS140 => ?_)
              rcases sp_ite hm with ⟨hc141, hm⟩ | ⟨hc141, hm⟩
              · refine GH.on (i := 3) (listed' := #[true, true, true, true, false, false, false, false, false, false, false, false, false, false, false, false, false, false, false, false, false, false, false, false, false, false]) rfl (by kernel_rfl) rfl rfl (NP.next NP.body) rfl rfl rfl rfl (dec_t hc141) (fun w' hw' => yl_move rfl) hS140 (fun hS142 => ?_)
                refine GH.on (i := 4) (listed' := #[true, true, true, true, true, false, false, false, false, false, false, false, false, false, false, false, false, false, false, false, false, false, false, false, false, false]) rfl (by kernel_rfl) rfl rfl (NP.next NP.body) rfl rfl rfl rfl (dec_t hc141) (fun w' hw' => yl_lenE Try.underlying22 rfl) hS142 (fun hS143 => ?_)
                refine GH.on (i := 5) (listed' := #[true, true, true, true, true, true, false, false, false, false, false, false, false, false, false, false, false, false, false, false, false, false, false, false, false, false]) rfl (by kernel_rfl) rfl rfl (NP.next NP.body) rfl rfl rfl rfl (dec_t hc141) (fun w' hw' => yl_move rfl) hS143 (fun hS144 => ?_)
                refine GH.on (i := 8) (listed' := #[true, true, true, true, true, true, false, false, true, false, false, false, false, false, false, false, false, false, false, false, false, false, false, false, false, false]) rfl (by kernel_rfl) rfl rfl (NP.next NP.body) rfl rfl rfl rfl (dec_t hc141) (fun w' hw' => yl_move rfl) hS144 (fun hS145 => ?_)
                refine GH.on (i := 9) (listed' := #[true, true, true, true, true, true, false, false, true, true, false, false, false, false, false, false, false, false, false, false, false, false, false, false, false, false]) rfl (by kernel_rfl) rfl rfl (NP.next NP.body) rfl rfl rfl rfl (dec_t hc141) (fun w' hw' => yl_lenE Try.underlying22 rfl) hS145 (fun hS146 => ?_)
                obtain ⟨r1_7, hy147, hm⟩ := sp_bind hm
                refine GH.doesOn (i := 6) (listed' := #[true, true, true, true, true, true, true, false, true, true, false, false, false, false, false, false, false, false, false, false, false, false, false, false, false, false]) rfl (by kernel_rfl) rfl rfl rfl (dec_t hc141) rfl rfl (does_fn 2 rfl rfl rfl en41 (Sat.pick [1, 1, 0, 0] h136) (fun U hU hp hr hs => M_octet_Reader_Left_po_w hp hy147)) ?_
                rintro _ w148 ⟨U151, hb152, rfl, h150⟩
                have h149 : Sat W w148 [blk r193 [(.slice r4104 r6_4.length r5105), (.bool true), (.bool r7_4)] 122, ow elU8 r4104 r5105 5 r6_4, ow elU8 r1128 r2129 5 r3_7, ow el_G_api_Contact r1102 r2103 60 r3_6] := hb152 h150
                have hS153 : Cls (fun w' => View w' r1128 (elU8.row r3_7) ∧ View w' a3 (elU8.row behind)) [3, 4, 5, 7, 8, 9, 10, 13, 14, 15, 16, 17, 18, 19, 20] [] #[true, true, true, true, true, true, true, false, true, true, false, false, false, false, false, false, false, false, false, false, false, false, false, false, false, false] w148 := Cls.keep (⟨(Sat.own_view (Sat.pick [2] h149)), (hv_behind.at_ h149)⟩) (by kernel_rfl)
                refine ⟨hS153, ?_⟩
                obtain ⟨hc154, hm⟩ := sp_chk hm
                refine GH.on (i := 7) (listed' := #[true, true, true, true, true, true, true, true, true, true, false, false, false, false, false, false, false, false, false, false, false, false, false, false, false, false]) rfl (by kernel_rfl) rfl rfl (NP.next NP.body) rfl rfl rfl rfl (dec_t hc141) (fun w' hw' => yl_addI rfl rfl hc154) hS153 (fun hS155 => ?_)
                refine GH.on (i := 10) (listed' := #[true, true, true, true, true, true, true, true, true, true, true, false, false, false, false, false, false, false, false, false, false, false, false, false, false, false]) rfl (by kernel_rfl) rfl rfl (NP.next NP.body) rfl rfl rfl rfl (dec_t hc141) (fun w' hw' => yl_eqI rfl rfl) hS155 (fun hS156 => ?_)
                refine GH.yl (i := 11) (listed' := #[true, true, true, true, true, true, true, true, true, true, true, true, false, false, false, false, false, false, false, false, false, false, false, false, false, false]) rfl (by kernel_rfl) rfl (NP.next NP.body) rfl rfl rfl (fun w' => yl_pick_t rfl (dec_t hc141) rfl) hS156 (fun hS157 => ?_)
                refine GH.yl (i := 12) (listed' := #[true, true, true, true, true, true, true, true, true, true, true, true, true, false, false, false, false, false, false, false, false, false, false, false, false, false]) rfl (by kernel_rfl) rfl (NP.next NP.body) rfl rfl rfl (fun w' => yl_move rfl) hS157 (fun hS158 => ?_)
                rcases sp_ite hm with ⟨hc159, hm⟩ | ⟨hc159, hm⟩
                · refine GH.on (i := 13) (listed' := #[true, true, true, true, true, true, true, true, true, true, true, true, true, true, false, false, false, false, false, false, false, false, false, false, false, false]) rfl (by kernel_rfl) rfl rfl (NP.next NP.body) rfl rfl rfl rfl (dec_t hc159) (fun w' hw' => yl_move rfl) hS158 (fun hS160 => ?_)
                  refine GH.on (i := 14) (listed' := #[true, true, true, true, true, true, true, true, true, true, true, true, true, true, true, false, false, false, false, false, false, false, false, false, false, false]) rfl (by kernel_rfl) rfl rfl (NP.next NP.body) rfl rfl rfl rfl (dec_t hc159) (fun w' hw' => yl_strE Try.underlying22 Try.underlying5 Try.underlying9 rfl rfl (hw'.1)) hS160 (fun hS161 => ?_)
                  refine GH.on (i := 15) (listed' := #[true, true, true, true, true, true, true, true, true, true, true, true, true, true, true, true, false, false, false, false, false, false, false, false, false, false]) rfl (by kernel_rfl) rfl rfl (NP.next NP.body) rfl rfl rfl rfl (dec_t hc159) (fun w' hw' => yl_move rfl) hS161 (fun hS162 => ?_)
                  refine GH.on (i := 16) (listed' := #[true, true, true, true, true, true, true, true, true, true, true, true, true, true, true, true, true, false, false, false, false, false, false, false, false, false]) rfl (by kernel_rfl) rfl rfl (NP.next NP.body) rfl rfl rfl rfl (dec_t hc159) (fun w' hw' => yl_move rfl) hS162 (fun hS163 => ?_)
                  refine GH.on (i := 17) (listed' := #[true, true, true, true, true, true, true, true, true, true, true, true, true, true, true, true, true, true, false, false, false, false, false, false, false, false]) rfl (by kernel_rfl) rfl rfl (NP.next NP.body) rfl rfl rfl rfl (dec_t hc159) (fun w' hw' => yl_lenE Try.underlying22 rfl) hS163 (fun hS164 => ?_)
                  obtain ⟨hc165, hm⟩ := sp_chk hm
                  refine GH.on (i := 18) (listed' := #[true, true, true, true, true, true, true, true, true, true, true, true, true, true, true, true, true, true, true, false, false, false, false, false, false, false]) rfl (by kernel_rfl) rfl rfl (NP.next NP.body) rfl rfl rfl rfl (dec_t hc159) (fun w' hw' => yl_slH (E := elU8) (l := behind) sl22 rfl rfl rfl hc165 hq_behind) hS164 (fun hS166 => ?_)
                  refine GH.on (i := 19) (listed' := #[true, true, true, true, true, true, true, true, true, true, true, true, true, true, true, true, true, true, true, true, false, false, false, false, false, false]) rfl (by kernel_rfl) rfl rfl (NP.next NP.body) rfl rfl rfl rfl (dec_t hc159) (fun w' hw' => yl_strE Try.underlying22 Try.underlying5 Try.underlying9 rfl rfl (View.rtake (hw'.2) r3_7.length)) hS166 (fun hS167 => ?_)
                  refine GH.on (i := 20) (listed' := #[true, true, true, true, true, true, true, true, true, true, true, true, true, true, true, true, true, true, true, true, true, false, false, false, false, false]) rfl (by kernel_rfl) rfl rfl (NP.next NP.body) rfl rfl rfl rfl (dec_t hc159) (fun w' hw' => yl_eqS rfl rfl) hS167 (fun hS168 => ?_)
                  refine GH.yl (i := 21) (listed' := #[true, true, true, true, true, true, true, true, true, true, true, true, true, true, true, true, true, true, true, true, true, true, false, false, false, false]) rfl (by kernel_rfl) rfl (NP.next NP.body) rfl rfl rfl (fun w' => yl_pick_t rfl (dec_t hc159) rfl) hS168 (fun hS169 => ?_)
                  refine GH.yl (i := 22) (listed' := #[true, true, true, true, true, true, true, true, true, true, true, true, true, true, true, true, true, true, true, true, true, true, true, false, false, false]) rfl (by kernel_rfl) rfl (NP.next NP.body) rfl rfl rfl (fun w' => yl_move rfl) hS169 (fun hS170 => ?_)
                  rcases sp_ite hm with ⟨hc171, hm⟩ | ⟨hc171, hm⟩
                  · obtain ⟨r1_8, hy172, hm⟩ := sp_bind hm
                    refine GH.doesOn (i := 23) (listed' := #[true, true, true, true, true, true, true, true, true, true, true, true, true, true, true, true, true, true, true, true, true, true, true, true, false, false]) rfl (by kernel_rfl) rfl rfl rfl (dec_t hc171) rfl rfl (does_fn 0 rfl rfl rfl en31 h149 (fun U hU hp hr hs => M_signpostlaw08_lives_w hp hy172)) ?_
                    rintro _ w173 ⟨U176, hb177, rfl, h175⟩
                    have h174 : Sat W w173 [blk r193 [(.slice r4104 r6_4.length r5105), (.bool true), (.bool r7_4)] 122, ow elU8 r4104 r5105 5 r6_4, ow elU8 r1128 r2129 5 r3_7, ow el_G_api_Contact r1102 r2103 60 r3_6] := hb177 h175
                    have hS178 : Cls (fun w' => View w' r1128 (elU8.row r3_7) ∧ View w' a3 (elU8.row behind)) [3, 4, 5, 7, 8, 9, 10, 13, 14, 15, 16, 17, 18, 19, 20] [] #[true, true, true, true, true, true, true, true, true, true, true, true, true, true, true, true, true, true, true, true, true, true, true, true, false, false] w173 := Cls.keep (⟨(Sat.own_view (Sat.pick [2] h174)), (hv_behind.at_ h174)⟩) (by kernel_rfl)
                    refine ⟨hS178, ?_⟩
                    refine GH.yl (i := 24) (listed' := #[true, true, true, true, true, true, true, true, true, true, true, true, true, true, true, true, true, true, true, true, true, true, true, true, true, false]) rfl (by kernel_rfl) rfl (NP.next NP.body) rfl rfl rfl (fun w' => yl_pick_t rfl (dec_t hc171) rfl) hS178 (fun hS179 => ?_)
                    refine GH.yl (i := 25) (listed' := #[true, true, true, true, true, true, true, true, true, true, true, true, true, true, true, true, true, true, true, true, true, true, true, true, true, true]) rfl (by kernel_rfl) rfl (NP.next NP.body) rfl rfl rfl (fun w' => yl_assign rfl) hS179 (fun hS180 => ?_)
                    refine GH.done (by kernel_rfl) ?_
                    refine QA.then_normal ?_
                    refine C.ret ?_
                    refine QA.ret1 rfl rfl ?_
                    obtain rfl := sp_ret1 hm
                    exact ⟨rfl, (Sat.pick [] h174)⟩
                  · refine GH.off (i := 23) (listed' := #[true, true, true, true, true, true, true, true, true, true, true, true, true, true, true, true, true, true, true, true, true, true, true, true, false, false]) rfl (by kernel_rfl) rfl (NP.next NP.body) rfl rfl rfl rfl (dec_f hc171) hS170 (fun hS181 => ?_)
                    refine GH.yl (i := 24) (listed' := #[true, true, true, true, true, true, true, true, true, true, true, true, true, true, true, true, true, true, true, true, true, true, true, true, true, false]) rfl (by kernel_rfl) rfl (NP.next NP.body) rfl rfl rfl (fun w' => yl_pick_f rfl (dec_f hc171) rfl) hS181 (fun hS182 => ?_)
                    refine GH.yl (i := 25) (listed' := #[true, true, true, true, true, true, true, true, true, true, true, true, true, true, true, true, true, true, true, true, true, true, true, true, true, true]) rfl (by kernel_rfl) rfl (NP.next NP.body) rfl rfl rfl (fun w' => yl_assign rfl) hS182 (fun hS183 => ?_)
                    refine GH.done (by kernel_rfl) ?_
                    refine QA.then_normal ?_
                    refine C.ret ?_
                    refine QA.ret1 rfl rfl ?_
                    obtain rfl := sp_ret1 hm
                    exact ⟨rfl, (Sat.pick [] h149)⟩
                · refine GH.off (i := 13) (listed' := #[true, true, true, true, true, true, true, true, true, true, true, true, true, true, false, false, false, false, false, false, false, false, false, false, false, false]) rfl (by kernel_rfl) rfl (NP.next NP.body) rfl rfl rfl rfl (dec_f hc159) hS158 (fun hS184 => ?_)
                  refine GH.off (i := 14) (listed' := #[true, true, true, true, true, true, true, true, true, true, true, true, true, true, true, false, false, false, false, false, false, false, false, false, false, false]) rfl (by kernel_rfl) rfl (NP.next NP.body) rfl rfl rfl rfl (dec_f hc159) hS184 (fun hS185 => ?_)
                  refine GH.off (i := 15) (listed' := #[true, true, true, true, true, true, true, true, true, true, true, true, true, true, true, true, false, false, false, false, false, false, false, false, false, false]) rfl (by kernel_rfl) rfl (NP.next NP.body) rfl rfl rfl rfl (dec_f hc159) hS185 (fun hS186 => ?_)
                  refine GH.off (i := 16) (listed' := #[true, true, true, true, true, true, true, true, true, true, true, true, true, true, true, true, true, false, false, false, false, false, false, false, false, false]) rfl (by kernel_rfl) rfl (NP.next NP.body) rfl rfl rfl rfl (dec_f hc159) hS186 (fun hS187 => ?_)
                  refine GH.off (i := 17) (listed' := #[true, true, true, true, true, true, true, true, true, true, true, true, true, true, true, true, true, true, false, false, false, false, false, false, false, false]) rfl (by kernel_rfl) rfl (NP.next NP.body) rfl rfl rfl rfl (dec_f hc159) hS187 (fun hS188 => ?_)
                  refine GH.off (i := 18) (listed' := #[true, true, true, true, true, true, true, true, true, true, true, true, true, true, true, true, true, true, true, false, false, false, false, false, false, false]) rfl (by kernel_rfl) rfl (NP.next NP.body) rfl rfl rfl rfl (dec_f hc159) hS188 (fun hS189 => ?_)
                  refine GH.off (i := 19) (listed' := #[true, true, true, true, true, true, true, true, true, true, true, true, true, true, true, true, true, true, true, true, false, false, false, false, false, false]) rfl (by kernel_rfl) rfl (NP.next NP.body) rfl rfl rfl rfl (dec_f hc159) hS189 (fun hS190 => ?_)
                  refine GH.off (i := 20) (listed' := #[true, true, true, true, true, true, true, true, true, true, true, true, true, true, true, true, true, true, true, true, true, false, false, false, false, false]) rfl (by kernel_rfl) rfl (NP.next NP.body) rfl rfl rfl rfl (dec_f hc159) hS190 (fun hS191 => ?_)
                  refine GH.yl (i := 21) (listed' := #[true, true, true, true, true, true, true, true, true, true, true, true, true, true, true, true, true, true, true, true, true, true, false, false, false, false]) rfl (by kernel_rfl) rfl (NP.next NP.body) rfl rfl rfl (fun w' => yl_pick_f rfl (dec_f hc159) rfl) hS191 (fun hS192 => ?_)
                  refine GH.yl (i := 22) (listed' := #[true, true, true, true, true, true, true, true, true, true, true, true, true, true, true, true, true, true, true, true, true, true, true, false, false, false]) rfl (by kernel_rfl) rfl (NP.next NP.body) rfl rfl rfl (fun w' => yl_move rfl) hS192 (fun hS193 => ?_)
                  refine GH.off (i := 23) (listed' := #[true, true, true, true, true, true, true, true, true, true, true, true, true, true, true, true, true, true, true, true, true, true, true, true, false, false]) rfl (by kernel_rfl) rfl (NP.next NP.body) rfl rfl rfl rfl rfl hS193 (fun hS194 => ?_)
                  refine GH.yl (i := 24) (listed' := #[true, true, true, true, true, true, true, true, true, true, true, true, true, true, true, true, true, true, true, true, true, true, true, true, true, false]) rfl (by kernel_rfl) rfl (NP.next NP.body) rfl rfl rfl (fun w' => yl_pick_f rfl rfl rfl) hS194 (fun hS195 => ?_)
                  refine GH.yl (i := 25) (listed' := #[true, true, true, true, true, true, true, true, true, true, true, true, true, true, true, true, true, true, true, true, true, true, true, true, true, true]) rfl (by kernel_rfl) rfl (NP.next NP.body) rfl rfl rfl (fun w' => yl_assign rfl) hS195 (fun hS196 => ?_)
                  refine GH.done (by kernel_rfl) ?_
                  refine QA.then_normal ?_
                  refine C.ret ?_
                  refine QA.ret1 rfl rfl ?_
                  obtain rfl := sp_ret1 hm
                  exact ⟨rfl, (Sat.pick [] h149)⟩
              · refine GH.off (i := 3) (listed' := #[true, true, true, true, false, false, false, false, false, false, false, false, false, false, false, false, false, false, false, false, false, false, false, false, false, false]) rfl (by kernel_rfl) rfl (NP.next NP.body) rfl rfl rfl rfl (dec_f hc141) hS140 (fun hS197 => ?_)
                refine GH.off (i := 4) (listed' := #[true, true, true, true, true, false, false, false, false, false, false, false, false, false, false, false, false, false, false, false, false, false, false, false, false, false]) rfl (by kernel_rfl) rfl (NP.next NP.body) rfl rfl rfl rfl (dec_f hc141) hS197 (fun hS198 => ?_)
                refine GH.off (i := 5) (listed' := #[true, true, true, true, true, true, false, false, false, false, false, false, false, false, false, false, false, false, false, false, false, false, false, false, false, false]) rfl (by kernel_rfl) rfl (NP.next NP.body) rfl rfl rfl rfl (dec_f hc141) hS198 (fun hS199 => ?_)
                refine GH.off (i := 6) (listed' := #[true, true, true, true, true, true, true, false, false, false, false, false, false, false, false, false, false, false, false, false, false, false, false, false, false, false]) rfl (by kernel_rfl) rfl (NP.next NP.body) rfl rfl rfl rfl (dec_f hc141) hS199 (fun hS200 => ?_)
                refine GH.off (i := 7) (listed' := #[true, true, true, true, true, true, true, true, false, false, false, false, false, false, false, false, false, false, false, false, false, false, false, false, false, false]) rfl (by kernel_rfl) rfl (NP.next NP.body) rfl rfl rfl rfl (dec_f hc141) hS200 (fun hS201 => ?_)
                refine GH.off (i := 8) (listed' := #[true, true, true, true, true, true, true, true, true, false, false, false, false, false, false, false, false, false, false, false, false, false, false, false, false, false]) rfl (by kernel_rfl) rfl (NP.next NP.body) rfl rfl rfl rfl (dec_f hc141) hS201 (fun hS202 => ?_)
                refine GH.off (i := 9) (listed' := #[true, true, true, true, true, true, true, true, true, true, false, false, false, false, false, false, false, false, false, false, false, false, false, false, false, false]) rfl (by kernel_rfl) rfl (NP.next NP.body) rfl rfl rfl rfl (dec_f hc141) hS202 (fun hS203 => ?_)
                refine GH.off (i := 10) (listed' := #[true, true, true, true, true, true, true, true, true, true, true, false, false, false, false, false, false, false, false, false, false, false, false, false, false, false]) rfl (by kernel_rfl) rfl (NP.next NP.body) rfl rfl rfl rfl (dec_f hc141) hS203 (fun hS204 => ?_)
                refine GH.yl (i := 11) (listed' := #[true, true, true, true, true, true, true, true, true, true, true, true, false, false, false, false, false, false, false, false, false, false, false, false, false, false]) rfl (by kernel_rfl) rfl (NP.next NP.body) rfl rfl rfl (fun w' => yl_pick_f rfl (dec_f hc141) rfl) hS204 (fun hS205 => ?_)
                refine GH.yl (i := 12) (listed' := #[true, true, true, true, true, true, true, true, true, true, true, true, true, false, false, false, false, false, false, false, false, false, false, false, false, false]) rfl (by kernel_rfl) rfl (NP.next NP.body) rfl rfl rfl (fun w' => yl_move rfl) hS205 (fun hS206 => ?_)
                refine GH.off (i := 13) (listed' := #[true, true, true, true, true, true, true, true, true, true, true, true, true, true, false, false, false, false, false, false, false, false, false, false, false, false]) rfl (by kernel_rfl) rfl (NP.next NP.body) rfl rfl rfl rfl rfl hS206 (fun hS207 => ?_)
                refine GH.off (i := 14) (listed' := #[true, true, true, true, true, true, true, true, true, true, true, true, true, true, true, false, false, false, false, false, false, false, false, false, false, false]) rfl (by kernel_rfl) rfl (NP.next NP.body) rfl rfl rfl rfl rfl hS207 (fun hS208 => ?_)
                refine GH.off (i := 15) (listed' := #[true, true, true, true, true, true, true, true, true, true, true, true, true, true, true, true, false, false, false, false, false, false, false, false, false, false]) rfl (by kernel_rfl) rfl (NP.next NP.body) rfl rfl rfl rfl rfl hS208 (fun hS209 => ?_)
                refine GH.off (i := 16) (listed' := #[true, true, true, true, true, true, true, true, true, true, true, true, true, true, true, true, true, false, false, false, false, false, false, false, false, false]) rfl (by kernel_rfl) rfl (NP.next NP.body) rfl rfl rfl rfl rfl hS209 (fun hS210 => ?_)
                refine GH.off (i := 17) (listed' := #[true, true, true, true, true, true, true, true, true, true, true, true, true, true, true, true, true, true, false, false, false, false, false, false, false, false]) rfl (by kernel_rfl) rfl (NP.next NP.body) rfl rfl rfl rfl rfl hS210 (fun hS211 => ?_)
                refine GH.off (i := 18) (listed' := #[true, true, true, true, true, true, true, true, true, true, true, true, true, true, true, true, true, true, true, false, false, false, false, false, false, false]) rfl (by kernel_rfl) rfl (NP.next NP.body) rfl rfl rfl rfl rfl hS211 (fun hS212 => ?_)
                refine GH.off (i := 19) (listed' := #[true, true, true, true, true, true, true, true, true, true, true, true, true, true, true, true, true, true, true, true, false, false, false, false, false, false]) rfl (by kernel_rfl) rfl (NP.next NP.body) rfl rfl rfl rfl rfl hS212 (fun hS213 => ?_)
                refine GH.off (i := 20) (listed' := #[true, true, true, true, true, true, true, true, true, true, true, true, true, true, true, true, true, true, true, true, true, false, false, false, false, false]) rfl (by kernel_rfl) rfl (NP.next NP.body) rfl rfl rfl rfl rfl hS213 (fun hS214 => ?_)
                refine GH.yl (i := 21) (listed' := #[true, true, true, true, true, true, true, true, true, true, true, true, true, true, true, true, true, true, true, true, true, true, false, false, false, false]) rfl (by kernel_rfl) rfl (NP.next NP.body) rfl rfl rfl (fun w' => yl_pick_f rfl rfl rfl) hS214 (fun hS215 => ?_)
                refine GH.yl (i := 22) (listed' := #[true, true, true, true, true, true, true, true, true, true, true, true, true, true, true, true, true, true, true, true, true, true, true, false, false, false]) rfl (by kernel_rfl) rfl (NP.next NP.body) rfl rfl rfl (fun w' => yl_move rfl) hS215 (fun hS216 => ?_)
                refine GH.off (i := 23) (listed' := #[true, true, true, true, true, true, true, true, true, true, true, true, true, true, true, true, true, true, true, true, true, true, true, true, false, false]) rfl (by kernel_rfl) rfl (NP.next NP.body) rfl rfl rfl rfl rfl hS216 (fun hS217 => ?_)
                refine GH.yl (i := 24) (listed' := #[true, true, true, true, true, true, true, true, true, true, true, true, true, true, true, true, true, true, true, true, true, true, true, true, true, false]) rfl (by kernel_rfl) rfl (NP.next NP.body) rfl rfl rfl (fun w' => yl_pick_f rfl rfl rfl) hS217 (fun hS218 => ?_)
                refine GH.yl (i := 25) (listed' := #[true, true, true, true, true, true, true, true, true, true, true, true, true, true, true, true, true, true, true, true, true, true, true, true, true, true]) rfl (by kernel_rfl) rfl (NP.next NP.body) rfl rfl rfl (fun w' => yl_assign rfl) hS218 (fun hS219 => ?_)
                refine GH.done (by kernel_rfl) ?_
                refine QA.then_normal ?_
                refine C.ret ?_
                refine QA.ret1 rfl rfl ?_
                obtain rfl := sp_ret1 hm
                exact ⟨rfl, (Sat.pick [] h136)⟩
      · refine C.cond_t rfl (not_t (dec_f hc20)) ?_
        refine C.join (γ := Bool) (fun g => match g with | t6_2 => [(6, (.bool t6_2))]) (fun g ww => match g with | t6_2 => (M_signpostlaw08_ContactBack_vvv_k4 t6_2 = some r1) ∧ Sat W ww []) ?_ ?_
        · refine C.region ?_
          refine G.yl (yl_move rfl) rfl rfl rfl ?_
          obtain ⟨r3_8, hy220, hm⟩ := sp_bind hm
          refine G.does (does_fn 0 rfl rfl rfl en46 h16 (fun U hU hp hr hs => M_signpostlaw08_Plain_v_w (hs.v hv_l) hq_l hp hy220)) rfl rfl rfl ?_
          rintro _ w223 ⟨U226, hb227, r1221, r2222, rfl, h225⟩
          have h224 : Sat W w223 [ow el_G_signpostref08_Contact r1221 r2222 66 r3_8, ow elU8 r113 r214 5 r3_2] := hb227 h225
          obtain ⟨r1_9, hy228, hm⟩ := sp_bind hm
          refine G.does (does_fn 0 rfl rfl rfl en45 h224 (fun U hU hp hr hs => M_signpostref08_GoodList_v_w (Rest.view hr) (Sat.own_cap h224).1 hp hy228)) rfl rfl rfl ?_
          rintro _ w229 ⟨U232, hb233, rfl, h231⟩
          have h230 : Sat W w229 [ow el_G_signpostref08_Contact r1221 r2222 66 r3_8, ow elU8 r113 r214 5 r3_2] := hb233 h231
          refine G.yl (yl_not rfl) rfl rfl rfl ?_
          refine G.yl (yl_move rfl) rfl rfl rfl ?_
          rcases sp_b hm with ⟨hc234, hm⟩ | ⟨hc234, hm⟩
          · refine G.offU rfl rfl (not_f hc234) rfl ?_
            refine G.offU rfl rfl (not_f hc234) rfl ?_
            refine G.offU rfl rfl (not_f hc234) rfl ?_
            refine G.yl (yl_pick_f rfl (not_f hc234) rfl) rfl rfl rfl ?_
            refine G.yl (yl_move rfl) rfl rfl rfl ?_
            refine G.offU rfl rfl rfl rfl ?_
            refine G.yl (yl_pick_f rfl rfl rfl) rfl rfl rfl ?_
            refine G.yl (yl_assign rfl) rfl rfl rfl ?_
            refine G.nil ?_
            exact QA.join false (Sub.of ⟨rfl, trivial⟩) ⟨hm, (Sat.pick [] h230)⟩
          · refine G.on rfl rfl (not_t hc234) ?_
            refine G.yl (yl_move rfl) rfl rfl rfl ?_
            refine G.on rfl rfl (not_t hc234) ?_
            refine G.yl (yl_lenE Try.underlying22 rfl) rfl rfl rfl ?_
            refine G.on rfl rfl (not_t hc234) ?_
            refine G.yl (yl_eqI rfl rfl) rfl rfl rfl ?_
            refine G.yl (yl_pick_t rfl (not_t hc234) rfl) rfl rfl rfl ?_
            refine G.yl (yl_move rfl) rfl rfl rfl ?_
            rcases sp_ite hm with ⟨hc235, hm⟩ | ⟨hc235, hm⟩
            · refine G.on rfl rfl (dec_t hc235) ?_
              obtain ⟨r1_10, hy236, hm⟩ := sp_bind hm
              refine G.does (does_fn 0 rfl rfl rfl en31 h230 (fun U hU hp hr hs => M_signpostlaw08_lives_w hp hy236)) rfl rfl rfl ?_
              rintro _ w237 ⟨U240, hb241, rfl, h239⟩
              have h238 : Sat W w237 [ow el_G_signpostref08_Contact r1221 r2222 66 r3_8, ow elU8 r113 r214 5 r3_2] := hb241 h239
              refine G.yl (yl_pick_t rfl (dec_t hc235) rfl) rfl rfl rfl ?_
              refine G.yl (yl_assign rfl) rfl rfl rfl ?_
              refine G.nil ?_
              exact QA.join r1_10 (Sub.of ⟨rfl, trivial⟩) ⟨hm, (Sat.pick [] h238)⟩
            · refine G.offU rfl rfl (dec_f hc235) rfl ?_
              refine G.yl (yl_pick_f rfl (dec_f hc235) rfl) rfl rfl rfl ?_
              refine G.yl (yl_assign rfl) rfl rfl rfl ?_
              refine G.nil ?_
              exact QA.join false (Sub.of ⟨rfl, trivial⟩) ⟨hm, (Sat.pick [] h230)⟩
        · rintro t6_2 w242 ⟨hm, h243⟩
          show C _ _ _ [(6, (.bool t6_2))] _ _
          unfold M_signpostlaw08_ContactBack_vvv_k4 at hm
          refine C.ret ?_
          refine QA.then_ret ?_
          refine QA.ret1 rfl rfl ?_
          obtain rfl := sp_ret1 hm
          exact ⟨rfl, (Sat.pick [] h243)⟩
end Go.Proofs.Ytaaahjcldomnbaa
