/-
  That the functions of the program compute what their Lean functions say, part 1. No condition.
-/
import Derived.Test.YtaaahjcldomnbaaLabelBackW0
namespace Go.Proofs.Ytaaahjcldomnbaa
open Go Go.RowKit
set_option linter.unusedVariables false
set_option linter.unusedSimpArgs false
set_option linter.unnecessarySimpa false
set_option maxRecDepth 20000 in
theorem M_signpostlaw09_LabelBack_vv_w {W : Base} {w : World} {s : List UInt8} {a : Option Addr} {c : Nat} {ahead : List UInt8} {a2 : Option Addr} {c2 : Nat} {behind : List UInt8} (hv_ahead : V W a (elU8.row ahead)) (hq_ahead : ahead.length ≤ c) (hv_behind : V W a2 (elU8.row behind)) (hq_behind : behind.length ≤ c2) (h : Sat W w []) {r1 : Bool} (hm : M_signpostlaw09_LabelBack_vv s ahead behind = some r1) :
    Calls Try.prog 11 #[(.string (str s)), (.slice a ahead.length c), (.slice a2 behind.length c2)] w (Ret fun v w' => v = (.bool r1) ∧ Sat W w' []) := by
  unfold M_signpostlaw09_LabelBack_vv at hm
  refine C.enter (N := 119) Try.func11 rfl Try.ntmps11 rfl ?_
  show C _ _ _ [(0, (.string (str s))), (1, (.slice a ahead.length c)), (2, (.slice a2 behind.length c2))] _ _
  refine C.seq ?_
  refine C.region ?_
  refine G.yl (yl_assign rfl) rfl rfl rfl ?_
  refine G.nil ?_
  refine QA.then_normal ?_
  refine C.seq ?_
  refine C.join (γ := Bool) (fun g => match g with | t27 => [(0, (.string (str s))), (1, (.slice a ahead.length c)), (2, (.slice a2 behind.length c2)), (6, (.bool false)), (27, (.bool t27))]) (fun g ww => match g with | t27 => (M_signpostlaw09_LabelBack_vv_k1 ahead behind s t27 = some r1) ∧ Sat W ww []) ?_ ?_
  · refine C.region ?_
    refine G.yl (yl_move rfl) rfl rfl rfl ?_
    refine G.yl (yl_slenE Try.underlying9 rfl) rfl rfl rfl ?_
    refine G.yl (yl_gtI rfl rfl) rfl rfl rfl ?_
    refine G.yl (yl_move rfl) rfl rfl rfl ?_
    rcases sp_ite hm with ⟨hc1, hm⟩ | ⟨hc1, hm⟩
    · refine G.offU rfl rfl (dec_t hc1) rfl ?_
      refine G.offU rfl rfl (dec_t hc1) rfl ?_
      refine G.offU rfl rfl (dec_t hc1) rfl ?_
      refine G.offU rfl rfl (dec_t hc1) rfl ?_
      refine G.offU rfl rfl (dec_t hc1) rfl ?_
      refine G.offU rfl rfl (dec_t hc1) rfl ?_
      refine G.yl (yl_pick_t rfl (dec_t hc1) rfl) rfl rfl rfl ?_
      refine G.nil ?_
      exact QA.join true (Sub.of ⟨rfl, rfl, rfl, rfl, rfl, trivial⟩) ⟨hm, (Sat.pick [] h)⟩
    · refine G.on rfl rfl (dec_f hc1) ?_
      refine G.yl (yl_move rfl) rfl rfl rfl ?_
      refine G.on rfl rfl (dec_f hc1) ?_
      refine G.yl (yl_lenE Try.underlying22 rfl) rfl rfl rfl ?_
      refine G.on rfl rfl (dec_f hc1) ?_
      refine G.yl (yl_move rfl) rfl rfl rfl ?_
      refine G.on rfl rfl (dec_f hc1) ?_
      refine G.yl (yl_lenE Try.underlying22 rfl) rfl rfl rfl ?_
      refine G.on rfl rfl (dec_f hc1) ?_
      obtain ⟨hc2, hm⟩ := sp_chk hm
      refine G.yl (yl_addI rfl rfl hc2) rfl rfl rfl ?_
      refine G.on rfl rfl (dec_f hc1) ?_
      refine G.yl (yl_gtI rfl rfl) rfl rfl rfl ?_
      refine G.yl (yl_pick_f rfl (dec_f hc1) rfl) rfl rfl rfl ?_
      refine G.nil ?_
      exact QA.join (decide ((2000 : Int) < ((ahead.length : Int) + (behind.length : Int)))) (Sub.of ⟨rfl, rfl, rfl, rfl, rfl, trivial⟩) ⟨hm, (Sat.pick [] h)⟩
  · rintro t27 w3 ⟨hm, h4⟩
    show C _ _ _ [(0, (.string (str s))), (1, (.slice a ahead.length c)), (2, (.slice a2 behind.length c2)), (6, (.bool false)), (27, (.bool t27))] _ _
    unfold M_signpostlaw09_LabelBack_vv_k1 at hm
    rcases sp_b hm with ⟨hc5, hm⟩ | ⟨hc5, hm⟩
    · refine C.cond_t rfl hc5 ?_
      refine C.seq ?_
      refine C.region ?_
      obtain ⟨r1_2, hy6, hm⟩ := sp_bind hm
      refine G.does (does_fn 0 rfl rfl rfl en47 h4 (fun U hU hp hr hs => M_signpostlaw09_lives_w hp hy6)) rfl rfl rfl ?_
      rintro _ w7 ⟨U10, hb11, rfl, h9⟩
      have h8 : Sat W w7 [] := hb11 h9
      refine G.yl (yl_assign rfl) rfl rfl rfl ?_
      refine G.nil ?_
      refine QA.then_normal ?_
      refine C.ret ?_
      refine QA.then_ret ?_
      refine QA.ret1 rfl rfl ?_
      obtain rfl := sp_ret1 hm
      exact ⟨rfl, (Sat.pick [] h8)⟩
    · refine C.cond_f rfl hc5 ?_
      refine C.skip ?_
      refine QA.then_normal ?_
      refine C.join (γ := Unit) (fun g => match g with | () => [(2, (.slice a2 behind.length c2)), (6, (.bool false))]) (fun g ww => match g with | () => (M_signpostlaw09_LabelBack_vv_k2 behind = some r1) ∧ Sat W ww []) ?_ ?_
      · refine C.seq ?_
        refine C.region ?_
        refine G.yl (yl_move rfl) rfl rfl rfl ?_
        obtain ⟨⟨r3_2, r4_2⟩, hy12, hm⟩ := sp_bind hm
        refine G.does (does_fn 0 rfl rfl rfl en51 h4 (fun U hU hp hr hs => M_label_Wire_w hp hy12)) rfl rfl rfl ?_
        rintro _ w15 ⟨U18, hb19, r113, r214, rfl, h17⟩
        have h16 : Sat W w15 [ow elU8 r113 r214 5 r3_2] := hb19 h17
        refine G.yl (yl_move rfl) rfl rfl rfl ?_
        refine G.yl (yl_extract rfl rfl) rfl rfl rfl ?_
        refine G.yl (yl_extract rfl rfl) rfl rfl rfl ?_
        refine G.yl (yl_assign rfl) rfl rfl rfl ?_
        refine G.yl (yl_assign rfl) rfl rfl rfl ?_
        refine G.nil ?_
        refine QA.then_normal ?_
        refine C.seq ?_
        refine C.region ?_
        refine G.yl (yl_move rfl) rfl rfl rfl ?_
        refine G.yl (yl_eqI rfl rfl) rfl rfl rfl ?_
        refine G.nil ?_
        refine QA.then_normal ?_
        rcases sp_ite hm with ⟨hc20, hm⟩ | ⟨hc20, hm⟩
        · refine C.cond_t rfl (dec_t hc20) ?_
          refine C.seq ?_
          refine C.region ?_
          refine G.does (does_lit (E := elU8) (l := ([] : List UInt8)) (vs := []) (cs := []) (e := 5) h16 rfl (by kernel_rfl) rfl rfl (by decide)) rfl rfl rfl ?_
          rintro _ w22 ⟨a21, rfl, h23⟩
          refine G.yl (yl_move rfl) rfl rfl rfl ?_
          obtain ⟨hc24, hm⟩ := sp_chk hm
          refine G.does (does_app (E := elU8) (l := ([] : List UInt8)) (l2 := ahead) Try.underlying22 el5 (Sat.own_zero h23 elU8 a21 5) rfl rfl rfl rfl (by decide) (hv_ahead.at_ h23) hc24 (by decide)) rfl rfl rfl ?_
          rintro _ w27 ⟨a25, c26, rfl, h28⟩
          refine G.yl (yl_move rfl) rfl rfl rfl ?_
          obtain ⟨hc29, hm⟩ := sp_chk hm
          refine G.does (does_app (E := elU8) (l := ([] : List UInt8) ++ ahead) (l2 := r3_2) Try.underlying22 el5 h28 rfl rfl rfl rfl (by decide) (Sat.own_view (Sat.pick [2] h28)) hc29 (by decide)) rfl rfl rfl ?_
          rintro _ w32 ⟨a30, c31, rfl, h33⟩
          refine G.yl (yl_move rfl) rfl rfl rfl ?_
          obtain ⟨hc34, hm⟩ := sp_chk hm
          refine G.does (does_app (E := elU8) (l := (([] : List UInt8) ++ ahead) ++ r3_2) (l2 := behind) Try.underlying22 el5 h33 rfl rfl rfl rfl (by decide) (hv_behind.at_ h33) hc34 (by decide)) rfl rfl rfl ?_
          rintro _ w37 ⟨a35, c36, rfl, h38⟩
          refine G.yl (yl_move rfl) rfl rfl rfl ?_
          refine G.yl (yl_lenE Try.underlying22 rfl) rfl rfl rfl ?_
          obtain ⟨⟨r1_3, r2_2, r3_3⟩, hy39, hm⟩ := sp_bind hm
          refine G.does (does_fn 0 rfl rfl rfl en53 h38 (fun U hU hp hr hs => M_label_Unwire_v_w (Rest.view hr) (Sat.own_cap h38).1 hp hy39)) rfl rfl rfl ?_
          rintro _ w40 ⟨U43, hb44, rfl, h42⟩
          have h41 : Sat W w40 [ow elU8 a35 c36 5 (((([] : List UInt8) ++ ahead) ++ r3_2) ++ behind), ow elU8 a21 0 5 ([] : List UInt8), ow elU8 r113 r214 5 r3_2] := hb44 h42
          refine G.yl (yl_move rfl) rfl rfl rfl ?_
          refine G.yl (yl_extract rfl rfl) rfl rfl rfl ?_
          refine G.yl (yl_extract rfl rfl) rfl rfl rfl ?_
          refine G.yl (yl_extract rfl rfl) rfl rfl rfl ?_
          refine G.yl (yl_assign rfl) rfl rfl rfl ?_
          refine G.yl (yl_assign rfl) rfl rfl rfl ?_
          refine G.yl (yl_assign rfl) rfl rfl rfl ?_
          refine G.nil ?_
          refine QA.then_normal ?_
          refine C.seq ?_
          refine C.region ?_
          refine G.yl (yl_move rfl) rfl rfl rfl ?_
          refine G.yl (yl_move rfl) rfl rfl rfl ?_
          refine G.yl (yl_neS rfl rfl) rfl rfl rfl ?_
          refine G.yl (yl_move rfl) rfl rfl rfl ?_
          rcases sp_ite hm with ⟨hc45, hm⟩ | ⟨hc45, hm⟩
          · refine G.on rfl rfl (not_f (dec_t hc45)) ?_
            refine G.yl (yl_move rfl) rfl rfl rfl ?_
            refine G.on rfl rfl (not_f (dec_t hc45)) ?_
            refine G.yl (yl_move rfl) rfl rfl rfl ?_
            refine G.on rfl rfl (not_f (dec_t hc45)) ?_
            refine G.yl (yl_lenE Try.underlying22 rfl) rfl rfl rfl ?_
            refine G.on rfl rfl (not_f (dec_t hc45)) ?_
            refine G.yl (yl_move rfl) rfl rfl rfl ?_
            refine G.on rfl rfl (not_f (dec_t hc45)) ?_
            refine G.yl (yl_lenE Try.underlying22 rfl) rfl rfl rfl ?_
            refine G.on rfl rfl (not_f (dec_t hc45)) ?_
            obtain ⟨hc46, hm⟩ := sp_chk hm
            refine G.yl (yl_addI rfl rfl hc46) rfl rfl rfl ?_
            refine G.on rfl rfl (not_f (dec_t hc45)) ?_
            refine G.yl (yl_neI rfl rfl) rfl rfl rfl ?_
            refine G.yl (yl_pick_f rfl (not_f (dec_t hc45)) rfl) rfl rfl rfl ?_
            refine G.yl (yl_move rfl) rfl rfl rfl ?_
            rcases sp_ite hm with ⟨hc47, hm⟩ | ⟨hc47, hm⟩
            · refine G.on rfl rfl (not_f (dec_t hc47)) ?_
              refine G.yl (yl_move rfl) rfl rfl rfl ?_
              refine G.on rfl rfl (not_f (dec_t hc47)) ?_
              refine G.yl (yl_neI rfl rfl) rfl rfl rfl ?_
              refine G.yl (yl_pick_f rfl (not_f (dec_t hc47)) rfl) rfl rfl rfl ?_
              refine G.yl (yl_move rfl) rfl rfl rfl ?_
              rcases sp_ite hm with ⟨hc48, hm⟩ | ⟨hc48, hm⟩
              · refine G.on rfl rfl (not_f (dec_t hc48)) ?_
                refine G.yl (yl_move rfl) rfl rfl rfl ?_
                refine G.on rfl rfl (not_f (dec_t hc48)) ?_
                refine G.yl (yl_lenE Try.underlying22 rfl) rfl rfl rfl ?_
                refine G.on rfl rfl (not_f (dec_t hc48)) ?_
                refine G.yl (yl_gtI rfl rfl) rfl rfl rfl ?_
                refine G.yl (yl_pick_f rfl (not_f (dec_t hc48)) rfl) rfl rfl rfl ?_
                refine G.nil ?_
                refine QA.then_normal ?_
                rcases sp_ite hm with ⟨hc49, hm⟩ | ⟨hc49, hm⟩
                · refine C.cond_t rfl (dec_t hc49) ?_
                  refine C.seq ?_
                  refine C.region ?_
                  refine G.yl (yl_assign rfl) rfl rfl rfl ?_
                  refine G.nil ?_
                  refine QA.then_normal ?_
                  refine C.ret ?_
                  refine QA.then_ret ?_
                  refine QA.ret1 rfl rfl ?_
                  obtain rfl := sp_ret1 hm
                  exact ⟨rfl, (Sat.pick [] h41)⟩
                · refine C.cond_f rfl (dec_f hc49) ?_
                  refine C.skip ?_
                  exact QA.join () (Sub.of ⟨rfl, rfl, trivial⟩) ⟨hm, (Sat.pick [] h41)⟩
              · refine G.offU rfl rfl (not_t (dec_f hc48)) rfl ?_
                refine G.offU rfl rfl (not_t (dec_f hc48)) rfl ?_
                refine G.offU rfl rfl (not_t (dec_f hc48)) rfl ?_
                refine G.yl (yl_pick_t rfl (not_t (dec_f hc48)) rfl) rfl rfl rfl ?_
                refine G.nil ?_
                refine QA.then_normal ?_
                refine C.cond_t rfl rfl ?_
                refine C.seq ?_
                refine C.region ?_
                refine G.yl (yl_assign rfl) rfl rfl rfl ?_
                refine G.nil ?_
                refine QA.then_normal ?_
                refine C.ret ?_
                refine QA.then_ret ?_
                refine QA.ret1 rfl rfl ?_
                obtain rfl := sp_ret1 hm
                exact ⟨rfl, (Sat.pick [] h41)⟩
            · refine G.offU rfl rfl (not_t (dec_f hc47)) rfl ?_
              refine G.offU rfl rfl (not_t (dec_f hc47)) rfl ?_
              refine G.yl (yl_pick_t rfl (not_t (dec_f hc47)) rfl) rfl rfl rfl ?_
              refine G.yl (yl_move rfl) rfl rfl rfl ?_
              refine G.offU rfl rfl rfl rfl ?_
              refine G.offU rfl rfl rfl rfl ?_
              refine G.offU rfl rfl rfl rfl ?_
              refine G.yl (yl_pick_t rfl rfl rfl) rfl rfl rfl ?_
              refine G.nil ?_
              refine QA.then_normal ?_
              refine C.cond_t rfl rfl ?_
              refine C.seq ?_
              refine C.region ?_
              refine G.yl (yl_assign rfl) rfl rfl rfl ?_
              refine G.nil ?_
              refine QA.then_normal ?_
              refine C.ret ?_
              refine QA.then_ret ?_
              refine QA.ret1 rfl rfl ?_
              obtain rfl := sp_ret1 hm
              exact ⟨rfl, (Sat.pick [] h41)⟩
          · refine G.offU rfl rfl (not_t (dec_f hc45)) rfl ?_
            refine G.offU rfl rfl (not_t (dec_f hc45)) rfl ?_
            refine G.offU rfl rfl (not_t (dec_f hc45)) rfl ?_
            refine G.offU rfl rfl (not_t (dec_f hc45)) rfl ?_
            refine G.offU rfl rfl (not_t (dec_f hc45)) rfl ?_
            refine G.offU rfl rfl (not_t (dec_f hc45)) rfl ?_
            refine G.offU rfl rfl (not_t (dec_f hc45)) rfl ?_
            refine G.yl (yl_pick_t rfl (not_t (dec_f hc45)) rfl) rfl rfl rfl ?_
            refine G.yl (yl_move rfl) rfl rfl rfl ?_
            refine G.offU rfl rfl rfl rfl ?_
            refine G.offU rfl rfl rfl rfl ?_
            refine G.yl (yl_pick_t rfl rfl rfl) rfl rfl rfl ?_
            refine G.yl (yl_move rfl) rfl rfl rfl ?_
            refine G.offU rfl rfl rfl rfl ?_
            refine G.offU rfl rfl rfl rfl ?_
            refine G.offU rfl rfl rfl rfl ?_
            refine G.yl (yl_pick_t rfl rfl rfl) rfl rfl rfl ?_
            refine G.nil ?_
            refine QA.then_normal ?_
            refine C.cond_t rfl rfl ?_
            refine C.seq ?_
            refine C.region ?_
            refine G.yl (yl_assign rfl) rfl rfl rfl ?_
            refine G.nil ?_
            refine QA.then_normal ?_
            refine C.ret ?_
            refine QA.then_ret ?_
            refine QA.ret1 rfl rfl ?_
            obtain rfl := sp_ret1 hm
            exact ⟨rfl, (Sat.pick [] h41)⟩
        · refine C.cond_f rfl (dec_f hc20) ?_
          refine C.skip ?_
          exact QA.join () (Sub.of ⟨rfl, rfl, trivial⟩) ⟨hm, (Sat.pick [] h16)⟩
      · rintro _ w50 ⟨hm, h51⟩
        show C _ _ _ [(2, (.slice a2 behind.length c2)), (6, (.bool false))] _ _
        unfold M_signpostlaw09_LabelBack_vv_k2 at hm
        refine C.seq ?_
        refine C.region ?_
        refine G.yl (yl_move rfl) rfl rfl rfl ?_
        obtain ⟨⟨r1_4, r2_3, r3_4⟩, hy52, hm⟩ := sp_bind hm
        refine G.does (does_fn 0 rfl rfl rfl en53 h51 (fun U hU hp hr hs => M_label_Unwire_v_w (hs.v hv_behind) hq_behind hp hy52)) rfl rfl rfl ?_
        rintro _ w53 ⟨U56, hb57, rfl, h55⟩
        have h54 : Sat W w53 [] := hb57 h55
        refine G.yl (yl_move rfl) rfl rfl rfl ?_
        refine G.yl (yl_extract rfl rfl) rfl rfl rfl ?_
        refine G.yl (yl_extract rfl rfl) rfl rfl rfl ?_
        refine G.yl (yl_extract rfl rfl) rfl rfl rfl ?_
        refine G.yl (yl_assign rfl) rfl rfl rfl ?_
        refine G.yl (yl_assign rfl) rfl rfl rfl ?_
        refine G.yl (yl_assign rfl) rfl rfl rfl ?_
        refine G.nil ?_
        refine QA.then_normal ?_
        refine C.seq ?_
        refine C.seq ?_
        refine C.region ?_
        refine G.yl (yl_move rfl) rfl rfl rfl ?_
        refine G.yl (yl_neI rfl rfl) rfl rfl rfl ?_
        refine G.nil ?_
        refine QA.then_normal ?_
        rcases sp_ite hm with ⟨hc58, hm⟩ | ⟨hc58, hm⟩
        · refine C.cond_f rfl (not_f (dec_t hc58)) ?_
          refine C.skip ?_
          refine QA.then_normal ?_
          refine C.seq ?_
          refine C.region ?_
          refine G.yl (yl_move rfl) rfl rfl rfl ?_
          obtain ⟨⟨r3_5, r4_3⟩, hy59, hm⟩ := sp_bind hm
          refine G.does (does_fn 0 rfl rfl rfl en51 h54 (fun U hU hp hr hs => M_label_Wire_w hp hy59)) rfl rfl rfl ?_
          rintro _ w62 ⟨U65, hb66, r160, r261, rfl, h64⟩
          have h63 : Sat W w62 [ow elU8 r160 r261 5 r3_5] := hb66 h64
          refine G.yl (yl_move rfl) rfl rfl rfl ?_
          refine G.yl (yl_extract rfl rfl) rfl rfl rfl ?_
          refine G.yl (yl_extract rfl rfl) rfl rfl rfl ?_
          refine G.yl (yl_assign rfl) rfl rfl rfl ?_
          refine G.yl (yl_assign rfl) rfl rfl rfl ?_
          refine G.nil ?_
          refine QA.then_normal ?_
          refine C.seq ?_
          refine C.draw (V := fun w' => View w' r160 (elU8.row r3_5) ∧ View w' a2 (elU8.row behind)) (nd := [3, 4, 5, 6, 9, 10, 11, 12, 15, 16, 17, 18, 19, 20, 21]) (sp := []) (n := 27) rfl h63 rfl rfl ?_
          intro w67 h68
          have hS69 : Cls (fun w' => View w' r160 (elU8.row r3_5) ∧ View w' a2 (elU8.row behind)) [3, 4, 5, 6, 9, 10, 11, 12, 15, 16, 17, 18, 19, 20, 21] [] #[false, false, false, false, false, false, false, false, false, false, false, false, false, false, false, false, false, false, false, false, false, false, false, false, false, false, false] w67 := Cls.keep (⟨(Sat.own_view h68), (hv_behind.at_ h68)⟩) (by kernel_rfl)
          refine GH.yl (i := 0) (listed' := #[true, false, false, false, false, false, false, false, false, false, false, false, false, false, false, false, false, false, false, false, false, false, false, false, false, false, false]) rfl (by kernel_rfl) rfl (NP.next NP.body) rfl rfl rfl (fun w' => yl_move rfl) hS69 (fun hS70 => ?_)
          refine GH.yl (i := 1) (listed' := #[true, true, false, false, false, false, false, false, false, false, false, false, false, false, false, false, false, false, false, false, false, false, false, false, false, false, false]) rfl (by kernel_rfl) rfl (NP.next NP.body) rfl rfl rfl (fun w' => yl_eqI rfl rfl) hS70 (fun hS71 => ?_)
          refine GH.yl (i := 2) (listed' := #[true, true, true, false, false, false, false, false, false, false, false, false, false, false, false, false, false, false, false, false, false, false, false, false, false, false, false]) rfl (by kernel_rfl) rfl (NP.next NP.body) rfl rfl rfl (fun w' => yl_move rfl) hS71 (fun hS72 => ?_)
          rcases sp_ite hm with ⟨hc73, hm⟩ | ⟨hc73, hm⟩
          · refine GH.on (i := 3) (listed' := #[true, true, true, true, false, false, false, false, false, false, false, false, false, false, false, false, false, false, false, false, false, false, false, false, false, false, false]) rfl (by kernel_rfl) rfl rfl (NP.next NP.body) rfl rfl rfl rfl (dec_t hc73) (fun w' hw' => yl_move rfl) hS72 (fun hS74 => ?_)
            refine GH.on (i := 4) (listed' := #[true, true, true, true, true, false, false, false, false, false, false, false, false, false, false, false, false, false, false, false, false, false, false, false, false, false, false]) rfl (by kernel_rfl) rfl rfl (NP.next NP.body) rfl rfl rfl rfl (dec_t hc73) (fun w' hw' => yl_move rfl) hS74 (fun hS75 => ?_)
            refine GH.on (i := 5) (listed' := #[true, true, true, true, true, true, false, false, false, false, false, false, false, false, false, false, false, false, false, false, false, false, false, false, false, false, false]) rfl (by kernel_rfl) rfl rfl (NP.next NP.body) rfl rfl rfl rfl (dec_t hc73) (fun w' hw' => yl_lenE Try.underlying22 rfl) hS75 (fun hS76 => ?_)
            refine GH.on (i := 6) (listed' := #[true, true, true, true, true, true, true, false, false, false, false, false, false, false, false, false, false, false, false, false, false, false, false, false, false, false, false]) rfl (by kernel_rfl) rfl rfl (NP.next NP.body) rfl rfl rfl rfl (dec_t hc73) (fun w' hw' => yl_eqI rfl rfl) hS76 (fun hS77 => ?_)
            refine GH.yl (i := 7) (listed' := #[true, true, true, true, true, true, true, true, false, false, false, false, false, false, false, false, false, false, false, false, false, false, false, false, false, false, false]) rfl (by kernel_rfl) rfl (NP.next NP.body) rfl rfl rfl (fun w' => yl_pick_t rfl (dec_t hc73) rfl) hS77 (fun hS78 => ?_)
            refine GH.yl (i := 8) (listed' := #[true, true, true, true, true, true, true, true, true, false, false, false, false, false, false, false, false, false, false, false, false, false, false, false, false, false, false]) rfl (by kernel_rfl) rfl (NP.next NP.body) rfl rfl rfl (fun w' => yl_move rfl) hS78 (fun hS79 => ?_)
            rcases sp_ite hm with ⟨hc80, hm⟩ | ⟨hc80, hm⟩
            · refine GH.on (i := 9) (listed' := #[true, true, true, true, true, true, true, true, true, true, false, false, false, false, false, false, false, false, false, false, false, false, false, false, false, false, false]) rfl (by kernel_rfl) rfl rfl (NP.next NP.body) rfl rfl rfl rfl (dec_t hc80) (fun w' hw' => yl_move rfl) hS79 (fun hS81 => ?_)
              refine GH.on (i := 10) (listed' := #[true, true, true, true, true, true, true, true, true, true, true, false, false, false, false, false, false, false, false, false, false, false, false, false, false, false, false]) rfl (by kernel_rfl) rfl rfl (NP.next NP.body) rfl rfl rfl rfl (dec_t hc80) (fun w' hw' => yl_move rfl) hS81 (fun hS82 => ?_)
              refine GH.on (i := 11) (listed' := #[true, true, true, true, true, true, true, true, true, true, true, true, false, false, false, false, false, false, false, false, false, false, false, false, false, false, false]) rfl (by kernel_rfl) rfl rfl (NP.next NP.body) rfl rfl rfl rfl (dec_t hc80) (fun w' hw' => yl_lenE Try.underlying22 rfl) hS82 (fun hS83 => ?_)
              refine GH.on (i := 12) (listed' := #[true, true, true, true, true, true, true, true, true, true, true, true, true, false, false, false, false, false, false, false, false, false, false, false, false, false, false]) rfl (by kernel_rfl) rfl rfl (NP.next NP.body) rfl rfl rfl rfl (dec_t hc80) (fun w' hw' => yl_leI rfl rfl) hS83 (fun hS84 => ?_)
              refine GH.yl (i := 13) (listed' := #[true, true, true, true, true, true, true, true, true, true, true, true, true, true, false, false, false, false, false, false, false, false, false, false, false, false, false]) rfl (by kernel_rfl) rfl (NP.next NP.body) rfl rfl rfl (fun w' => yl_pick_t rfl (dec_t hc80) rfl) hS84 (fun hS85 => ?_)
              refine GH.yl (i := 14) (listed' := #[true, true, true, true, true, true, true, true, true, true, true, true, true, true, true, false, false, false, false, false, false, false, false, false, false, false, false]) rfl (by kernel_rfl) rfl (NP.next NP.body) rfl rfl rfl (fun w' => yl_move rfl) hS85 (fun hS86 => ?_)
              rcases sp_ite hm with ⟨hc87, hm⟩ | ⟨hc87, hm⟩
              · refine GH.on (i := 15) (listed' := #[true, true, true, true, true, true, true, true, true, true, true, true, true, true, true, true, false, false, false, false, false, false, false, false, false, false, false]) rfl (by kernel_rfl) rfl rfl (NP.next NP.body) rfl rfl rfl rfl (dec_t hc87) (fun w' hw' => yl_move rfl) hS86 (fun hS88 => ?_)
                refine GH.on (i := 16) (listed' := #[true, true, true, true, true, true, true, true, true, true, true, true, true, true, true, true, true, false, false, false, false, false, false, false, false, false, false]) rfl (by kernel_rfl) rfl rfl (NP.next NP.body) rfl rfl rfl rfl (dec_t hc87) (fun w' hw' => yl_strE Try.underlying22 Try.underlying5 Try.underlying9 rfl rfl (hw'.1)) hS88 (fun hS89 => ?_)
                refine GH.on (i := 17) (listed' := #[true, true, true, true, true, true, true, true, true, true, true, true, true, true, true, true, true, true, false, false, false, false, false, false, false, false, false]) rfl (by kernel_rfl) rfl rfl (NP.next NP.body) rfl rfl rfl rfl (dec_t hc87) (fun w' hw' => yl_move rfl) hS89 (fun hS90 => ?_)
                refine GH.on (i := 18) (listed' := #[true, true, true, true, true, true, true, true, true, true, true, true, true, true, true, true, true, true, true, false, false, false, false, false, false, false, false]) rfl (by kernel_rfl) rfl rfl (NP.next NP.body) rfl rfl rfl rfl (dec_t hc87) (fun w' hw' => yl_move rfl) hS90 (fun hS91 => ?_)
                obtain ⟨hc92, hm⟩ := sp_chk hm
                refine GH.on (i := 19) (listed' := #[true, true, true, true, true, true, true, true, true, true, true, true, true, true, true, true, true, true, true, true, false, false, false, false, false, false, false]) rfl (by kernel_rfl) rfl rfl (NP.next NP.body) rfl rfl rfl rfl (dec_t hc87) (fun w' hw' => yl_slH (E := elU8) (l := behind) sl22 rfl rfl rfl hc92 hq_behind) hS91 (fun hS93 => ?_)
                refine GH.on (i := 20) (listed' := #[true, true, true, true, true, true, true, true, true, true, true, true, true, true, true, true, true, true, true, true, true, false, false, false, false, false, false]) rfl (by kernel_rfl) rfl rfl (NP.next NP.body) rfl rfl rfl rfl (dec_t hc87) (fun w' hw' => yl_strE Try.underlying22 Try.underlying5 Try.underlying9 rfl rfl (View.rtake (hw'.2) r2_3.toNat)) hS93 (fun hS94 => ?_)
                refine GH.on (i := 21) (listed' := #[true, true, true, true, true, true, true, true, true, true, true, true, true, true, true, true, true, true, true, true, true, true, false, false, false, false, false]) rfl (by kernel_rfl) rfl rfl (NP.next NP.body) rfl rfl rfl rfl (dec_t hc87) (fun w' hw' => yl_eqS rfl rfl) hS94 (fun hS95 => ?_)
                refine GH.yl (i := 22) (listed' := #[true, true, true, true, true, true, true, true, true, true, true, true, true, true, true, true, true, true, true, true, true, true, true, false, false, false, false]) rfl (by kernel_rfl) rfl (NP.next NP.body) rfl rfl rfl (fun w' => yl_pick_t rfl (dec_t hc87) rfl) hS95 (fun hS96 => ?_)
                refine GH.yl (i := 23) (listed' := #[true, true, true, true, true, true, true, true, true, true, true, true, true, true, true, true, true, true, true, true, true, true, true, true, false, false, false]) rfl (by kernel_rfl) rfl (NP.next NP.body) rfl rfl rfl (fun w' => yl_move rfl) hS96 (fun hS97 => ?_)
                rcases sp_ite hm with ⟨hc98, hm⟩ | ⟨hc98, hm⟩
                · obtain ⟨r1_5, hy99, hm⟩ := sp_bind hm
                  refine GH.doesOn (i := 24) (listed' := #[true, true, true, true, true, true, true, true, true, true, true, true, true, true, true, true, true, true, true, true, true, true, true, true, true, false, false]) rfl (by kernel_rfl) rfl rfl rfl (dec_t hc98) rfl rfl (does_fn 0 rfl rfl rfl en47 h68 (fun U hU hp hr hs => M_signpostlaw09_lives_w hp hy99)) ?_
                  rintro _ w100 ⟨U103, hb104, rfl, h102⟩
                  have h101 : Sat W w100 [ow elU8 r160 r261 5 r3_5] := hb104 h102
                  have hS105 : Cls (fun w' => View w' r160 (elU8.row r3_5) ∧ View w' a2 (elU8.row behind)) [3, 4, 5, 6, 9, 10, 11, 12, 15, 16, 17, 18, 19, 20, 21] [] #[true, true, true, true, true, true, true, true, true, true, true, true, true, true, true, true, true, true, true, true, true, true, true, true, true, false, false] w100 := Cls.keep (⟨(Sat.own_view h101), (hv_behind.at_ h101)⟩) (by kernel_rfl)
                  refine ⟨hS105, ?_⟩
                  refine GH.yl (i := 25) (listed' := #[true, true, true, true, true, true, true, true, true, true, true, true, true, true, true, true, true, true, true, true, true, true, true, true, true, true, false]) rfl (by kernel_rfl) rfl (NP.next NP.body) rfl rfl rfl (fun w' => yl_pick_t rfl (dec_t hc98) rfl) hS105 (fun hS106 => ?_)
                  refine GH.yl (i := 26) (listed' := #[true, true, true, true, true, true, true, true, true, true, true, true, true, true, true, true, true, true, true, true, true, true, true, true, true, true, true]) rfl (by kernel_rfl) rfl (NP.next NP.body) rfl rfl rfl (fun w' => yl_assign rfl) hS106 (fun hS107 => ?_)
                  refine GH.done (by kernel_rfl) ?_
                  refine QA.then_normal ?_
                  refine C.ret ?_
                  refine QA.ret1 rfl rfl ?_
                  obtain rfl := sp_ret1 hm
                  exact ⟨rfl, (Sat.pick [] h101)⟩
                · refine GH.off (i := 24) (listed' := #[true, true, true, true, true, true, true, true, true, true, true, true, true, true, true, true, true, true, true, true, true, true, true, true, true, false, false]) rfl (by kernel_rfl) rfl (NP.next NP.body) rfl rfl rfl rfl (dec_f hc98) hS97 (fun hS108 => ?_)
                  refine GH.yl (i := 25) (listed' := #[true, true, true, true, true, true, true, true, true, true, true, true, true, true, true, true, true, true, true, true, true, true, true, true, true, true, false]) rfl (by kernel_rfl) rfl (NP.next NP.body) rfl rfl rfl (fun w' => yl_pick_f rfl (dec_f hc98) rfl) hS108 (fun hS109 => ?_)
                  refine GH.yl (i := 26) (listed' := #[true, true, true, true, true, true, true, true, true, true, true, true, true, true, true, true, true, true, true, true, true, true, true, true, true, true, true]) rfl (by kernel_rfl) rfl (NP.next NP.body) rfl rfl rfl (fun w' => yl_assign rfl) hS109 (fun hS110 => ?_)
                  refine GH.done (by kernel_rfl) ?_
                  refine QA.then_normal ?_
                  refine C.ret ?_
                  refine QA.ret1 rfl rfl ?_
                  obtain rfl := sp_ret1 hm
                  exact ⟨rfl, (Sat.pick [] h68)⟩
              · refine GH.off (i := 15) (listed' := #[true, true, true, true, true, true, true, true, true, true, true, true, true, true, true, true, false, false, false, false, false, false, false, false, false, false, false]) rfl (by kernel_rfl) rfl (NP.next NP.body) rfl rfl rfl rfl (dec_f hc87) hS86 (fun hS111 => ?_)
                refine GH.off (i := 16) (listed' := #[true, true, true, true, true, true, true, true, true, true, true, true, true, true, true, true, true, false, false, false, false, false, false, false, false, false, false]) rfl (by kernel_rfl) rfl (NP.next NP.body) rfl rfl rfl rfl (dec_f hc87) hS111 (fun hS112 => ?_)
                refine GH.off (i := 17) (listed' := #[true, true, true, true, true, true, true, true, true, true, true, true, true, true, true, true, true, true, false, false, false, false, false, false, false, false, false]) rfl (by kernel_rfl) rfl (NP.next NP.body) rfl rfl rfl rfl (dec_f hc87) hS112 (fun hS113 => ?_)
                refine GH.off (i := 18) (listed' := #[true, true, true, true, true, true, true, true, true, true, true, true, true, true, true, true, true, true, true, false, false, false, false, false, false, false, false]) rfl (by kernel_rfl) rfl (NP.next NP.body) rfl rfl rfl rfl (dec_f hc87) hS113 (fun hS114 => ?_)
                refine GH.off (i := 19) (listed' := #[true, true, true, true, true, true, true, true, true, true, true, true, true, true, true, true, true, true, true, true, false, false, false, false, false, false, false]) rfl (by kernel_rfl) rfl (NP.next NP.body) rfl rfl rfl rfl (dec_f hc87) hS114 (fun hS115 => ?_)
                refine GH.off (i := 20) (listed' := #[true, true, true, true, true, true, true, true, true, true, true, true, true, true, true, true, true, true, true, true, true, false, false, false, false, false, false]) rfl (by kernel_rfl) rfl (NP.next NP.body) rfl rfl rfl rfl (dec_f hc87) hS115 (fun hS116 => ?_)
                refine GH.off (i := 21) (listed' := #[true, true, true, true, true, true, true, true, true, true, true, true, true, true, true, true, true, true, true, true, true, true, false, false, false, false, false]) rfl (by kernel_rfl) rfl (NP.next NP.body) rfl rfl rfl rfl (dec_f hc87) hS116 (fun hS117 => ?_)
                refine GH.yl (i := 22) (listed' := #[true, true, true, true, true, true, true, true, true, true, true, true, true, true, true, true, true, true, true, true, true, true, true, false, false, false, false]) rfl (by kernel_rfl) rfl (NP.next NP.body) rfl rfl rfl (fun w' => yl_pick_f rfl (dec_f hc87) rfl) hS117 (fun hS118 => ?_)
                refine GH.yl (i := 23) (listed' := #[true, true, true, true, true, true, true, true, true, true, true, true, true, true, true, true, true, true, true, true, true, true, true, true, false, false, false]) rfl (by kernel_rfl) rfl (NP.next NP.body) rfl rfl rfl (fun w' => yl_move rfl) hS118 (fun hS119 => ?_)
                refine GH.off (i := 24) (listed' := #[true, true, true, true, true, true, true, true, true, true, true, true, true, true, true, true, true, true, true, true, true, true, true, true, true, false, false]) rfl (by kernel_rfl) rfl (NP.next NP.body) rfl rfl rfl rfl rfl hS119 (fun hS120 => ?_)
                refine GH.yl (i := 25) (listed' := #[true, true, true, true, true, true, true, true, true, true, true, true, true, true, true, true, true, true, true, true, true, true, true, true, true, true, false]) rfl (by kernel_rfl) rfl (NP.next NP.body) rfl rfl rfl (fun w' => yl_pick_f rfl rfl rfl) hS120 (fun hS121 => ?_)
                refine GH.yl (i := 26) (listed' := #[true, true, true, true, true, true, true, true, true, true, true, true, true, true, true, true, true, true, true, true, true, true, true, true, true, true, true]) rfl (by kernel_rfl) rfl (NP.next NP.body) rfl rfl rfl (fun w' => yl_assign rfl) hS121 (fun hS122 => ?_)
                refine GH.done (by kernel_rfl) ?_
                refine QA.then_normal ?_
                refine C.ret ?_
                refine QA.ret1 rfl rfl ?_
                obtain rfl := sp_ret1 hm
                exact ⟨rfl, (Sat.pick [] h68)⟩
            · refine GH.off (i := 9) (listed' := #[true, true, true, true, true, true, true, true, true, true, false, false, false, false, false, false, false, false, false, false, false, false, false, false, false, false, false]) rfl (by kernel_rfl) rfl (NP.next NP.body) rfl rfl rfl rfl (dec_f hc80) hS79 (fun hS123 => ?_)
              refine GH.off (i := 10) (listed' := #[true, true, true, true, true, true, true, true, true, true, true, false, false, false, false, false, false, false, false, false, false, false, false, false, false, false, false]) rfl (by kernel_rfl) rfl (NP.next NP.body) rfl rfl rfl rfl (dec_f hc80) hS123 (fun hS124 => ?_)
              refine GH.off (i := 11) (listed' := #[true, true, true, true, true, true, true, true, true, true, true, true, false, false, false, false, false, false, false, false, false, false, false, false, false, false, false]) rfl (by kernel_rfl) rfl (NP.next NP.body) rfl rfl rfl rfl (dec_f hc80) hS124 (fun hS125 => ?_)
              refine GH.off (i := 12) (listed' := #[true, true, true, true, true, true, true, true, true, true, true, true, true, false, false, false, false, false, false, false, false, false, false, false, false, false, false]) rfl (by kernel_rfl) rfl (NP.next NP.body) rfl rfl rfl rfl (dec_f hc80) hS125 (fun hS126 => ?_)
              refine GH.yl (i := 13) (listed' := #[true, true, true, true, true, true, true, true, true, true, true, true, true, true, false, false, false, false, false, false, false, false, false, false, false, false, false]) rfl (by kernel_rfl) rfl (NP.next NP.body) rfl rfl rfl (fun w' => yl_pick_f rfl (dec_f hc80) rfl) hS126 (fun hS127 => ?_)
              refine GH.yl (i := 14) (listed' := #[true, true, true, true, true, true, true, true, true, true, true, true, true, true, true, false, false, false, false, false, false, false, false, false, false, false, false]) rfl (by kernel_rfl) rfl (NP.next NP.body) rfl rfl rfl (fun w' => yl_move rfl) hS127 (fun hS128 => ?_)
              refine GH.off (i := 15) (listed' := #[true, true, true, true, true, true, true, true, true, true, true, true, true, true, true, true, false, false, false, false, false, false, false, false, false, false, false]) rfl (by kernel_rfl) rfl (NP.next NP.body) rfl rfl rfl rfl rfl hS128 (fun hS129 => ?_)
              refine GH.off (i := 16) (listed' := #[true, true, true, true, true, true, true, true, true, true, true, true, true, true, true, true, true, false, false, false, false, false, false, false, false, false, false]) rfl (by kernel_rfl) rfl (NP.next NP.body) rfl rfl rfl rfl rfl hS129 (fun hS130 => ?_)
              refine GH.off (i := 17) (listed' := #[true, true, true, true, true, true, true, true, true, true, true, true, true, true, true, true, true, true, false, false, false, false, false, false, false, false, false]) rfl (by kernel_rfl) rfl (NP.next NP.body) rfl rfl rfl rfl rfl hS130 (fun hS131 => ?_)
              refine GH.off (i := 18) (listed' := #[true, true, true, true, true, true, true, true, true, true, true, true, true, true, true, true, true, true, true, false, false, false, false, false, false, false, false]) rfl (by kernel_rfl) rfl (NP.next NP.body) rfl rfl rfl rfl rfl hS131 (fun hS132 => ?_)
              refine GH.off (i := 19) (listed' := #[true, true, true, true, true, true, true, true, true, true, true, true, true, true, true, true, true, true, true, true, false, false, false, false, false, false, false]) rfl (by kernel_rfl) rfl (NP.next NP.body) rfl rfl rfl rfl rfl hS132 (fun hS133 => ?_)
              refine GH.off (i := 20) (listed' := #[true, true, true, true, true, true, true, true, true, true, true, true, true, true, true, true, true, true, true, true, true, false, false, false, false, false, false]) rfl (by kernel_rfl) rfl (NP.next NP.body) rfl rfl rfl rfl rfl hS133 (fun hS134 => ?_)
              refine GH.off (i := 21) (listed' := #[true, true, true, true, true, true, true, true, true, true, true, true, true, true, true, true, true, true, true, true, true, true, false, false, false, false, false]) rfl (by kernel_rfl) rfl (NP.next NP.body) rfl rfl rfl rfl rfl hS134 (fun hS135 => ?_)
              refine GH.yl (i := 22) (listed' := #[true, true, true, true, true, true, true, true, true, true, true, true, true, true, true, true, true, true, true, true, true, true, true, false, false, false, false]) rfl (by kernel_rfl) rfl (NP.next NP.body) rfl rfl rfl (fun w' => yl_pick_f rfl rfl rfl) hS135 (fun hS136 => ?_)
              refine GH.yl (i := 23) (listed' := #[true, true, true, true, true, true, true, true, true, true, true, true, true, true, true, true, true, true, true, true, true, true, true, true, false, false, false]) rfl (by kernel_rfl) rfl (NP.next NP.body) rfl rfl rfl (fun w' => yl_move rfl) hS136 (fun hS137 => ?_)
              refine GH.off (i := 24) (listed' := #[true, true, true, true, true, true, true, true, true, true, true, true, true, true, true, true, true, true, true, true, true, true, true, true, true, false, false]) rfl (by kernel_rfl) rfl (NP.next NP.body) rfl rfl rfl rfl rfl hS137 (fun hS138 => ?_)
              refine GH.yl (i := 25) (listed' := #[true, true, true, true, true, true, true, true, true, true, true, true, true, true, true, true, true, true, true, true, true, true, true, true, true, true, false]) rfl (by kernel_rfl) rfl (NP.next NP.body) rfl rfl rfl (fun w' => yl_pick_f rfl rfl rfl) hS138 (fun hS139 => ?_)
              refine GH.yl (i := 26) (listed' := #[true, true, true, true, true, true, true, true, true, true, true, true, true, true, true, true, true, true, true, true, true, true, true, true, true, true, true]) rfl (by kernel_rfl) rfl (NP.next NP.body) rfl rfl rfl (fun w' => yl_assign rfl) hS139 (fun hS140 => ?_)
              refine GH.done (by kernel_rfl) ?_
              refine QA.then_normal ?_
              refine C.ret ?_
              refine QA.ret1 rfl rfl ?_
              obtain rfl := sp_ret1 hm
              exact ⟨rfl, (Sat.pick [] h68)⟩
          · refine GH.off (i := 3) (listed' := #[true, true, true, true, false, false, false, false, false, false, false, false, false, false, false, false, false, false, false, false, false, false, false, false, false, false, false]) rfl (by kernel_rfl) rfl (NP.next NP.body) rfl rfl rfl rfl (dec_f hc73) hS72 (fun hS141 => ?_)
            refine GH.off (i := 4) (listed' := #[true, true, true, true, true, false, false, false, false, false, false, false, false, false, false, false, false, false, false, false, false, false, false, false, false, false, false]) rfl (by kernel_rfl) rfl (NP.next NP.body) rfl rfl rfl rfl (dec_f hc73) hS141 (fun hS142 => ?_)
            refine GH.off (i := 5) (listed' := #[true, true, true, true, true, true, false, false, false, false, false, false, false, false, false, false, false, false, false, false, false, false, false, false, false, false, false]) rfl (by kernel_rfl) rfl (NP.next NP.body) rfl rfl rfl rfl (dec_f hc73) hS142 (fun hS143 => ?_)
            refine GH.off (i := 6) (listed' := #[true, true, true, true, true, true, true, false, false, false, false, false, false, false, false, false, false, false, false, false, false, false, false, false, false, false, false]) rfl (by kernel_rfl) rfl (NP.next NP.body) rfl rfl rfl rfl (dec_f hc73) hS143 (fun hS144 => ?_)
            refine GH.yl (i := 7) (listed' := #[true, true, true, true, true, true, true, true, false, false, false, false, false, false, false, false, false, false, false, false, false, false, false, false, false, false, false]) rfl (by kernel_rfl) rfl (NP.next NP.body) rfl rfl rfl (fun w' => yl_pick_f rfl (dec_f hc73) rfl) hS144 (fun hS145 => ?_)
            refine GH.yl (i := 8) (listed' := #[true, true, true, true, true, true, true, true, true, false, false, false, false, false, false, false, false, false, false, false, false, false, false, false, false, false, false]) rfl (by kernel_rfl) rfl (NP.next NP.body) rfl rfl rfl (fun w' => yl_move rfl) hS145 (fun hS146 => ?_)
            refine GH.off (i := 9) (listed' := #[true, true, true, true, true, true, true, true, true, true, false, false, false, false, false, false, false, false, false, false, false, false, false, false, false, false, false]) rfl (by kernel_rfl) rfl (NP.next NP.body) rfl rfl rfl rfl rfl hS146 (fun hS147 => ?_)
            refine GH.off (i := 10) (listed' := #[true, true, true, true, true, true, true, true, true, true, true, false, false, false, false, false, false, false, false, false, false, false, false, false, false, false, false]) rfl (by kernel_rfl) rfl (NP.next NP.body) rfl rfl rfl rfl rfl hS147 (fun hS148 => ?_)
            refine GH.off (i := 11) (listed' := #[true, true, true, true, true, true, true, true, true, true, true, true, false, false, false, false, false, false, false, false, false, false, false, false, false, false, false]) rfl (by kernel_rfl) rfl (NP.next NP.body) rfl rfl rfl rfl rfl hS148 (fun hS149 => ?_)
            refine GH.off (i := 12) (listed' := #[true, true, true, true, true, true, true, true, true, true, true, true, true, false, false, false, false, false, false, false, false, false, false, false, false, false, false]) rfl (by kernel_rfl) rfl (NP.next NP.body) rfl rfl rfl rfl rfl hS149 (fun hS150 => ?_)
            refine GH.yl (i := 13) (listed' := #[true, true, true, true, true, true, true, true, true, true, true, true, true, true, false, false, false, false, false, false, false, false, false, false, false, false, false]) rfl (by kernel_rfl) rfl (NP.next NP.body) rfl rfl rfl (fun w' => yl_pick_f rfl rfl rfl) hS150 (fun hS151 => ?_)
            refine GH.yl (i := 14) (listed' := #[true, true, true, true, true, true, true, true, true, true, true, true, true, true, true, false, false, false, false, false, false, false, false, false, false, false, false]) rfl (by kernel_rfl) rfl (NP.next NP.body) rfl rfl rfl (fun w' => yl_move rfl) hS151 (fun hS152 => ?_)
            refine GH.off (i := 15) (listed' := #[true, true, true, true, true, true, true, true, true, true, true, true, true, true, true, true, false, false, false, false, false, false, false, false, false, false, false]) rfl (by kernel_rfl) rfl (NP.next NP.body) rfl rfl rfl rfl rfl hS152 (fun hS153 => ?_)
            refine GH.off (i := 16) (listed' := #[true, true, true, true, true, true, true, true, true, true, true, true, true, true, true, true, true, false, false, false, false, false, false, false, false, false, false]) rfl (by kernel_rfl) rfl (NP.next NP.body) rfl rfl rfl rfl rfl hS153 (fun hS154 => ?_)
            refine GH.off (i := 17) (listed' := #[true, true, true, true, true, true, true, true, true, true, true, true, true, true, true, true, true, true, false, false, false, false, false, false, false, false, false]) rfl (by kernel_rfl) rfl (NP.next NP.body) rfl rfl rfl rfl rfl hS154 (fun hS155 => ?_)
            refine GH.off (i := 18) (listed' := #[true, true, true, true, true, true, true, true, true, true, true, true, true, true, true, true, true, true, true, false, false, false, false, false, false, false, false]) rfl (by kernel_rfl) rfl (NP.next NP.body) rfl rfl rfl rfl rfl hS155 (fun hS156 => ?_)
            refine GH.off (i := 19) (listed' := #[true, true, true, true, true, true, true, true, true, true, true, true, true, true, true, true, true, true, true, true, false, false, false, false, false, false, false]) rfl (by kernel_rfl) rfl (NP.next NP.body) rfl rfl rfl rfl rfl hS156 (fun hS157 => ?_)
            refine GH.off (i := 20) (listed' := #[true, true, true, true, true, true, true, true, true, true, true, true, true, true, true, true, true, true, true, true, true, false, false, false, false, false, false]) rfl (by kernel_rfl) rfl (NP.next NP.body) rfl rfl rfl rfl rfl hS157 (fun hS158 => ?_)
            refine GH.off (i := 21) (listed' := #[true, true, true, true, true, true, true, true, true, true, true, true, true, true, true, true, true, true, true, true, true, true, false, false, false, false, false]) rfl (by kernel_rfl) rfl (NP.next NP.body) rfl rfl rfl rfl rfl hS158 (fun hS159 => ?_)
            refine GH.yl (i := 22) (listed' := #[true, true, true, true, true, true, true, true, true, true, true, true, true, true, true, true, true, true, true, true, true, true, true, false, false, false, false]) rfl (by kernel_rfl) rfl (NP.next NP.body) rfl rfl rfl (fun w' => yl_pick_f rfl rfl rfl) hS159 (fun hS160 => ?_)
            refine GH.yl (i := 23) (listed' := #[true, true, true, true, true, true, true, true, true, true, true, true, true, true, true, true, true, true, true, true, true, true, true, true, false, false, false]) rfl (by kernel_rfl) rfl (NP.next NP.body) rfl rfl rfl (fun w' => yl_move rfl) hS160 (fun hS161 => ?_)
            refine GH.off (i := 24) (listed' := #[true, true, true, true, true, true, true, true, true, true, true, true, true, true, true, true, true, true, true, true, true, true, true, true, true, false, false]) rfl (by kernel_rfl) rfl (NP.next NP.body) rfl rfl rfl rfl rfl hS161 (fun hS162 => ?_)
            refine GH.yl (i := 25) (listed' := #[true, true, true, true, true, true, true, true, true, true, true, true, true, true, true, true, true, true, true, true, true, true, true, true, true, true, false]) rfl (by kernel_rfl) rfl (NP.next NP.body) rfl rfl rfl (fun w' => yl_pick_f rfl rfl rfl) hS162 (fun hS163 => ?_)
            refine GH.yl (i := 26) (listed' := #[true, true, true, true, true, true, true, true, true, true, true, true, true, true, true, true, true, true, true, true, true, true, true, true, true, true, true]) rfl (by kernel_rfl) rfl (NP.next NP.body) rfl rfl rfl (fun w' => yl_assign rfl) hS163 (fun hS164 => ?_)
            refine GH.done (by kernel_rfl) ?_
            refine QA.then_normal ?_
            refine C.ret ?_
            refine QA.ret1 rfl rfl ?_
            obtain rfl := sp_ret1 hm
            exact ⟨rfl, (Sat.pick [] h68)⟩
        · refine C.cond_t rfl (not_t (dec_f hc58)) ?_
          refine C.join (γ := Bool) (fun g => match g with | t6 => [(6, (.bool t6))]) (fun g ww => match g with | t6 => (M_signpostlaw09_LabelBack_vv_k3 t6 = some r1) ∧ Sat W ww []) ?_ ?_
          · refine C.region ?_
            refine G.yl (yl_move rfl) rfl rfl rfl ?_
            refine G.yl (yl_eqS rfl rfl) rfl rfl rfl ?_
            refine G.yl (yl_move rfl) rfl rfl rfl ?_
            rcases sp_ite hm with ⟨hc165, hm⟩ | ⟨hc165, hm⟩
            · refine G.on rfl rfl (dec_t hc165) ?_
              refine G.yl (yl_move rfl) rfl rfl rfl ?_
              refine G.on rfl rfl (dec_t hc165) ?_
              refine G.yl (yl_eqI rfl rfl) rfl rfl rfl ?_
              refine G.yl (yl_pick_t rfl (dec_t hc165) rfl) rfl rfl rfl ?_
              refine G.yl (yl_move rfl) rfl rfl rfl ?_
              rcases sp_ite hm with ⟨hc166, hm⟩ | ⟨hc166, hm⟩
              · refine G.on rfl rfl (dec_t hc166) ?_
                obtain ⟨r1_6, hy167, hm⟩ := sp_bind hm
                refine G.does (does_fn 0 rfl rfl rfl en47 h54 (fun U hU hp hr hs => M_signpostlaw09_lives_w hp hy167)) rfl rfl rfl ?_
                rintro _ w168 ⟨U171, hb172, rfl, h170⟩
                have h169 : Sat W w168 [] := hb172 h170
                refine G.yl (yl_pick_t rfl (dec_t hc166) rfl) rfl rfl rfl ?_
                refine G.yl (yl_assign rfl) rfl rfl rfl ?_
                refine G.nil ?_
                exact QA.join r1_6 (Sub.of ⟨rfl, trivial⟩) ⟨hm, (Sat.pick [] h169)⟩
              · refine G.offU rfl rfl (dec_f hc166) rfl ?_
                refine G.yl (yl_pick_f rfl (dec_f hc166) rfl) rfl rfl rfl ?_
                refine G.yl (yl_assign rfl) rfl rfl rfl ?_
                refine G.nil ?_
                exact QA.join false (Sub.of ⟨rfl, trivial⟩) ⟨hm, (Sat.pick [] h54)⟩
            · refine G.offU rfl rfl (dec_f hc165) rfl ?_
              refine G.offU rfl rfl (dec_f hc165) rfl ?_
              refine G.yl (yl_pick_f rfl (dec_f hc165) rfl) rfl rfl rfl ?_
              refine G.yl (yl_move rfl) rfl rfl rfl ?_
              refine G.offU rfl rfl rfl rfl ?_
              refine G.yl (yl_pick_f rfl rfl rfl) rfl rfl rfl ?_
              refine G.yl (yl_assign rfl) rfl rfl rfl ?_
              refine G.nil ?_
              exact QA.join false (Sub.of ⟨rfl, trivial⟩) ⟨hm, (Sat.pick [] h54)⟩
          · rintro t6 w173 ⟨hm, h174⟩
            show C _ _ _ [(6, (.bool t6))] _ _
            unfold M_signpostlaw09_LabelBack_vv_k3 at hm
            refine C.ret ?_
            refine QA.then_ret ?_
            refine QA.ret1 rfl rfl ?_
            obtain rfl := sp_ret1 hm
            exact ⟨rfl, (Sat.pick [] h174)⟩
end Go.Proofs.Ytaaahjcldomnbaa
