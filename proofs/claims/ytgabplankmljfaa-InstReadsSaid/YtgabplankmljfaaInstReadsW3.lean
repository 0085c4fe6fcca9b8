/-
  That the functions of the program compute what their Lean functions say, part 3. No condition.
-/
import Derived.Test.YtgabplankmljfaaInstReadsW2
namespace Go.Proofs.Ytgabplankmljfaa
open Go Go.RowKit
set_option linter.unusedVariables false
set_option linter.unusedSimpArgs false
set_option linter.unnecessarySimpa false
set_option maxRecDepth 20000 in
set_option maxHeartbeats 1000000 in
theorem M_signpostref11_Good_w {W : Base} {w : World} {i : G_api_Instance}  (h : Sat W w []) {r1 : Bool} (hm : M_signpostref11_Good i = some r1) :
    Calls Try.prog 33 #[(.agg (bytesV (List.ofFn (n := 20) i.Publisher) ++ ([(v64 i.Seq), (v64 i.Born), (v32 i.Life), (.bool i.Gone), (v16 i.Priority), (v16 i.Weight), (v16 i.Port), (.string (str i.Target))] : List Value)).toArray)] w (Ret fun v w' => v = (.bool r1) ∧ Sat W w' []) := by
  unfold M_signpostref11_Good at hm
  refine C.enter (N := 47) Try.func33 rfl Try.ntmps33 rfl ?_
  show C _ _ _ [(0, (.agg (bytesV (List.ofFn (n := 20) i.Publisher) ++ ([(v64 i.Seq), (v64 i.Born), (v32 i.Life), (.bool i.Gone), (v16 i.Priority), (v16 i.Weight), (v16 i.Port), (.string (str i.Target))] : List Value)).toArray))] _ _
  refine C.seq ?_
  refine C.region ?_
  refine G.does (does_box (cs := (bytesV (List.ofFn (n := 20) i.Publisher) ++ ([(v64 i.Seq), (v64 i.Born), (v32 i.Life), (.bool i.Gone), (v16 i.Priority), (v16 i.Weight), (v16 i.Port), (.string (str i.Target))] : List Value))) h rfl rfl) rfl rfl rfl ?_
  rintro _ w2 ⟨b1, rfl, h3⟩
  refine G.yl (yl_assign rfl) rfl rfl rfl ?_
  refine G.nil ?_
  refine QA.then_normal ?_
  refine C.seq ?_
  refine C.join (γ := Bool) (fun g => match g with | t10 => [(1, (.pointer (some ⟨b1, 0, none⟩))), (2, (.bool false)), (10, (.bool t10))]) (fun g ww => match g with | t10 => (M_signpostref11_Good_k1 i t10 = some r1) ∧ Sat W ww [blk b1 (bytesV (List.ofFn (n := 20) i.Publisher) ++ ([(v64 i.Seq), (v64 i.Born), (v32 i.Life), (.bool i.Gone), (v16 i.Priority), (v16 i.Weight), (v16 i.Port), (.string (str i.Target))] : List Value)) 47]) ?_ ?_
  · refine C.region ?_
    refine G.yl (yl_fieldAddr fo47_3 rfl) rfl rfl rfl ?_
    refine G.yl (yl_load (v := (v32 i.Life)) ag44 rfl (View.at_ (j := 2) (View.span_tail h3.isBlk.view0) rfl)) rfl rfl rfl ?_
    refine G.yl (yl_lt32 (b := 1) rfl rfl) rfl rfl rfl ?_
    refine G.yl (yl_move rfl) rfl rfl rfl ?_
    rcases sp_ite hm with ⟨hc4, hm⟩ | ⟨hc4, hm⟩
    · refine G.offU rfl rfl (dec_t hc4) rfl ?_
      refine G.offU rfl rfl (dec_t hc4) rfl ?_
      refine G.offU rfl rfl (dec_t hc4) rfl ?_
      refine G.yl (yl_pick_t rfl (dec_t hc4) rfl) rfl rfl rfl ?_
      refine G.nil ?_
      exact QA.join true (Sub.of ⟨rfl, rfl, rfl, trivial⟩) ⟨hm, (Sat.pick [0] h3)⟩
    · refine G.on rfl rfl (dec_f hc4) ?_
      refine G.yl (yl_fieldAddr fo47_3 rfl) rfl rfl rfl ?_
      refine G.on rfl rfl (dec_f hc4) ?_
      refine G.yl (yl_load (v := (v32 i.Life)) ag44 rfl (View.at_ (j := 2) (View.span_tail h3.isBlk.view0) rfl)) rfl rfl rfl ?_
      refine G.on rfl rfl (dec_f hc4) ?_
      refine G.yl (yl_gt32 (b := 2147483647) rfl rfl) rfl rfl rfl ?_
      refine G.yl (yl_pick_f rfl (dec_f hc4) rfl) rfl rfl rfl ?_
      refine G.nil ?_
      exact QA.join (decide ((2147483647 : UInt32) < i.Life)) (Sub.of ⟨rfl, rfl, rfl, trivial⟩) ⟨hm, (Sat.pick [0] h3)⟩
  · rintro t10 w5 ⟨hm, h6⟩
    show C _ _ _ [(1, (.pointer (some ⟨b1, 0, none⟩))), (2, (.bool false)), (10, (.bool t10))] _ _
    unfold M_signpostref11_Good_k1 at hm
    rcases sp_b hm with ⟨hc7, hm⟩ | ⟨hc7, hm⟩
    · refine C.cond_t rfl hc7 ?_
      refine C.seq ?_
      refine C.region ?_
      refine G.yl (yl_assign rfl) rfl rfl rfl ?_
      refine G.nil ?_
      refine QA.then_normal ?_
      refine C.ret ?_
      refine QA.then_ret ?_
      refine QA.ret1 rfl rfl ?_
      obtain rfl := sp_ret1 hm
      exact ⟨rfl, (Sat.pick [] h6)⟩
    · refine C.cond_f rfl hc7 ?_
      refine C.skip ?_
      refine QA.then_normal ?_
      refine C.seq ?_
      refine C.seq ?_
      refine C.region ?_
      refine G.yl (yl_fieldAddr fo47_4 rfl) rfl rfl rfl ?_
      refine G.yl (yl_load (v := (.bool i.Gone)) ag4 rfl (View.at_ (j := 3) (View.span_tail h6.isBlk.view0) rfl)) rfl rfl rfl ?_
      refine G.nil ?_
      refine QA.then_normal ?_
      rcases sp_b hm with ⟨hc8, hm⟩ | ⟨hc8, hm⟩
      · refine C.cond_t rfl hc8 ?_
        refine C.join (γ := Bool) (fun g => match g with | t2 => [(2, (.bool t2))]) (fun g ww => match g with | t2 => (M_signpostref11_Good_k2 t2 = some r1) ∧ Sat W ww []) ?_ ?_
        · refine C.region ?_
          refine G.yl (yl_fieldAddr fo47_5 rfl) rfl rfl rfl ?_
          refine G.yl (yl_load (v := (v16 i.Priority)) ag45 rfl (View.at_ (j := 4) (View.span_tail h6.isBlk.view0) rfl)) rfl rfl rfl ?_
          refine G.yl (yl_eq16 (b := 0) rfl rfl) rfl rfl rfl ?_
          refine G.yl (yl_move rfl) rfl rfl rfl ?_
          rcases sp_ite hm with ⟨hc9, hm⟩ | ⟨hc9, hm⟩
          · refine G.on rfl rfl (dec_t hc9) ?_
            refine G.yl (yl_fieldAddr fo47_6 rfl) rfl rfl rfl ?_
            refine G.on rfl rfl (dec_t hc9) ?_
            refine G.yl (yl_load (v := (v16 i.Weight)) ag45 rfl (View.at_ (j := 5) (View.span_tail h6.isBlk.view0) rfl)) rfl rfl rfl ?_
            refine G.on rfl rfl (dec_t hc9) ?_
            refine G.yl (yl_eq16 (b := 0) rfl rfl) rfl rfl rfl ?_
            refine G.yl (yl_pick_t rfl (dec_t hc9) rfl) rfl rfl rfl ?_
            refine G.yl (yl_move rfl) rfl rfl rfl ?_
            rcases sp_ite hm with ⟨hc10, hm⟩ | ⟨hc10, hm⟩
            · refine G.on rfl rfl (dec_t hc10) ?_
              refine G.yl (yl_fieldAddr fo47_7 rfl) rfl rfl rfl ?_
              refine G.on rfl rfl (dec_t hc10) ?_
              refine G.yl (yl_load (v := (v16 i.Port)) ag45 rfl (View.at_ (j := 6) (View.span_tail h6.isBlk.view0) rfl)) rfl rfl rfl ?_
              refine G.on rfl rfl (dec_t hc10) ?_
              refine G.yl (yl_eq16 (b := 0) rfl rfl) rfl rfl rfl ?_
              refine G.yl (yl_pick_t rfl (dec_t hc10) rfl) rfl rfl rfl ?_
              refine G.yl (yl_move rfl) rfl rfl rfl ?_
              rcases sp_ite hm with ⟨hc11, hm⟩ | ⟨hc11, hm⟩
              · refine G.on rfl rfl (dec_t hc11) ?_
                refine G.yl (yl_fieldAddr fo47_8 rfl) rfl rfl rfl ?_
                refine G.on rfl rfl (dec_t hc11) ?_
                refine G.yl (yl_load (v := (.string (str i.Target))) ag9 rfl (View.at_ (j := 7) (View.span_tail h6.isBlk.view0) rfl)) rfl rfl rfl ?_
                refine G.on rfl rfl (dec_t hc11) ?_
                refine G.yl (yl_eqS rfl rfl) rfl rfl rfl ?_
                refine G.yl (yl_pick_t rfl (dec_t hc11) rfl) rfl rfl rfl ?_
                refine G.yl (yl_assign rfl) rfl rfl rfl ?_
                refine G.nil ?_
                exact QA.join (decide (i.Target = ([] : List UInt8))) (Sub.of ⟨rfl, trivial⟩) ⟨hm, (Sat.pick [] h6)⟩
              · refine G.offU rfl rfl (dec_f hc11) rfl ?_
                refine G.offU rfl rfl (dec_f hc11) rfl ?_
                refine G.offU rfl rfl (dec_f hc11) rfl ?_
                refine G.yl (yl_pick_f rfl (dec_f hc11) rfl) rfl rfl rfl ?_
                refine G.yl (yl_assign rfl) rfl rfl rfl ?_
                refine G.nil ?_
                exact QA.join false (Sub.of ⟨rfl, trivial⟩) ⟨hm, (Sat.pick [] h6)⟩
            · refine G.offU rfl rfl (dec_f hc10) rfl ?_
              refine G.offU rfl rfl (dec_f hc10) rfl ?_
              refine G.offU rfl rfl (dec_f hc10) rfl ?_
              refine G.yl (yl_pick_f rfl (dec_f hc10) rfl) rfl rfl rfl ?_
              refine G.yl (yl_move rfl) rfl rfl rfl ?_
              refine G.offU rfl rfl rfl rfl ?_
              refine G.offU rfl rfl rfl rfl ?_
              refine G.offU rfl rfl rfl rfl ?_
              refine G.yl (yl_pick_f rfl rfl rfl) rfl rfl rfl ?_
              refine G.yl (yl_assign rfl) rfl rfl rfl ?_
              refine G.nil ?_
              exact QA.join false (Sub.of ⟨rfl, trivial⟩) ⟨hm, (Sat.pick [] h6)⟩
          · refine G.offU rfl rfl (dec_f hc9) rfl ?_
            refine G.offU rfl rfl (dec_f hc9) rfl ?_
            refine G.offU rfl rfl (dec_f hc9) rfl ?_
            refine G.yl (yl_pick_f rfl (dec_f hc9) rfl) rfl rfl rfl ?_
            refine G.yl (yl_move rfl) rfl rfl rfl ?_
            refine G.offU rfl rfl rfl rfl ?_
            refine G.offU rfl rfl rfl rfl ?_
            refine G.offU rfl rfl rfl rfl ?_
            refine G.yl (yl_pick_f rfl rfl rfl) rfl rfl rfl ?_
            refine G.yl (yl_move rfl) rfl rfl rfl ?_
            refine G.offU rfl rfl rfl rfl ?_
            refine G.offU rfl rfl rfl rfl ?_
            refine G.offU rfl rfl rfl rfl ?_
            refine G.yl (yl_pick_f rfl rfl rfl) rfl rfl rfl ?_
            refine G.yl (yl_assign rfl) rfl rfl rfl ?_
            refine G.nil ?_
            exact QA.join false (Sub.of ⟨rfl, trivial⟩) ⟨hm, (Sat.pick [] h6)⟩
        · rintro t2 w12 ⟨hm, h13⟩
          show C _ _ _ [(2, (.bool t2))] _ _
          unfold M_signpostref11_Good_k2 at hm
          refine C.ret ?_
          refine QA.then_ret ?_
          refine QA.ret1 rfl rfl ?_
          obtain rfl := sp_ret1 hm
          exact ⟨rfl, (Sat.pick [] h13)⟩
      · refine C.cond_f rfl hc8 ?_
        refine C.skip ?_
        refine QA.then_normal ?_
        refine C.seq ?_
        refine C.draw (V := fun w' => View w' (some ⟨b1, 0, none⟩) (bytesV (List.ofFn (n := 20) i.Publisher) ++ ([(v64 i.Seq), (v64 i.Born), (v32 i.Life), (.bool i.Gone), (v16 i.Priority), (v16 i.Weight), (v16 i.Port), (.string (str i.Target))] : List Value))) (nd := [1, 4, 5, 9, 10, 12, 13, 14]) (sp := []) (n := 17) rfl h6 rfl rfl ?_
        intro w14 h15
        have hS16 : Cls (fun w' => View w' (some ⟨b1, 0, none⟩) (bytesV (List.ofFn (n := 20) i.Publisher) ++ ([(v64 i.Seq), (v64 i.Born), (v32 i.Life), (.bool i.Gone), (v16 i.Priority), (v16 i.Weight), (v16 i.Port), (.string (str i.Target))] : List Value))) [1, 4, 5, 9, 10, 12, 13, 14] [] #[false, false, false, false, false, false, false, false, false, false, false, false, false, false, false, false, false] w14 := Cls.keep (h15.isBlk.view0) (by kernel_rfl)
        refine GH.yl (i := 0) (listed' := #[true, false, false, false, false, false, false, false, false, false, false, false, false, false, false, false, false]) rfl (by kernel_rfl) rfl (NP.next NP.body) rfl rfl rfl (fun w' => yl_fieldAddr fo47_7 rfl) hS16 (fun hS17 => ?_)
        refine GH.yr (i := 1) (listed' := #[true, true, false, false, false, false, false, false, false, false, false, false, false, false, false, false, false]) rfl (by kernel_rfl) rfl rfl (NP.next NP.body) rfl rfl rfl (fun w' hw' => yl_load (v := (v16 i.Port)) ag45 rfl (View.at_ (j := 6) (View.span_tail hw') rfl)) hS17 (fun hS18 => ?_)
        refine GH.yl (i := 2) (listed' := #[true, true, true, false, false, false, false, false, false, false, false, false, false, false, false, false, false]) rfl (by kernel_rfl) rfl (NP.next NP.body) rfl rfl rfl (fun w' => yl_ne16 (b := 0) rfl rfl) hS18 (fun hS19 => ?_)
        refine GH.yl (i := 3) (listed' := #[true, true, true, true, false, false, false, false, false, false, false, false, false, false, false, false, false]) rfl (by kernel_rfl) rfl (NP.next NP.body) rfl rfl rfl (fun w' => yl_move rfl) hS19 (fun hS20 => ?_)
        rcases sp_ite hm with ⟨hc21, hm⟩ | ⟨hc21, hm⟩
        · refine GH.off (i := 4) (listed' := #[true, true, true, true, true, false, false, false, false, false, false, false, false, false, false, false, false]) rfl (by kernel_rfl) rfl (NP.next NP.body) rfl rfl rfl rfl (not_f (dec_t hc21)) hS20 (fun hS22 => ?_)
          refine GH.off (i := 5) (listed' := #[true, true, true, true, true, true, false, false, false, false, false, false, false, false, false, false, false]) rfl (by kernel_rfl) rfl (NP.next NP.body) rfl rfl rfl rfl (not_f (dec_t hc21)) hS22 (fun hS23 => ?_)
          refine GH.off (i := 6) (listed' := #[true, true, true, true, true, true, true, false, false, false, false, false, false, false, false, false, false]) rfl (by kernel_rfl) rfl (NP.next NP.body) rfl rfl rfl rfl (not_f (dec_t hc21)) hS23 (fun hS24 => ?_)
          refine GH.yl (i := 7) (listed' := #[true, true, true, true, true, true, true, true, false, false, false, false, false, false, false, false, false]) rfl (by kernel_rfl) rfl (NP.next NP.body) rfl rfl rfl (fun w' => yl_pick_f rfl (not_f (dec_t hc21)) rfl) hS24 (fun hS25 => ?_)
          refine GH.yl (i := 8) (listed' := #[true, true, true, true, true, true, true, true, true, false, false, false, false, false, false, false, false]) rfl (by kernel_rfl) rfl (NP.next NP.body) rfl rfl rfl (fun w' => yl_move rfl) hS25 (fun hS26 => ?_)
          refine GH.off (i := 9) (listed' := #[true, true, true, true, true, true, true, true, true, true, false, false, false, false, false, false, false]) rfl (by kernel_rfl) rfl (NP.next NP.body) rfl rfl rfl rfl rfl hS26 (fun hS27 => ?_)
          refine GH.off (i := 10) (listed' := #[true, true, true, true, true, true, true, true, true, true, true, false, false, false, false, false, false]) rfl (by kernel_rfl) rfl (NP.next NP.body) rfl rfl rfl rfl rfl hS27 (fun hS28 => ?_)
          refine GH.off (i := 11) (listed' := #[true, true, true, true, true, true, true, true, true, true, true, true, false, false, false, false, false]) rfl (by kernel_rfl) rfl (NP.next NP.body) rfl rfl rfl rfl rfl hS28 (fun hS29 => ?_)
          refine GH.off (i := 12) (listed' := #[true, true, true, true, true, true, true, true, true, true, true, true, true, false, false, false, false]) rfl (by kernel_rfl) rfl (NP.next NP.body) rfl rfl rfl rfl rfl hS29 (fun hS30 => ?_)
          refine GH.off (i := 13) (listed' := #[true, true, true, true, true, true, true, true, true, true, true, true, true, true, false, false, false]) rfl (by kernel_rfl) rfl (NP.next NP.body) rfl rfl rfl rfl rfl hS30 (fun hS31 => ?_)
          refine GH.off (i := 14) (listed' := #[true, true, true, true, true, true, true, true, true, true, true, true, true, true, true, false, false]) rfl (by kernel_rfl) rfl (NP.next NP.body) rfl rfl rfl rfl rfl hS31 (fun hS32 => ?_)
          refine GH.yl (i := 15) (listed' := #[true, true, true, true, true, true, true, true, true, true, true, true, true, true, true, true, false]) rfl (by kernel_rfl) rfl (NP.next NP.body) rfl rfl rfl (fun w' => yl_pick_f rfl rfl rfl) hS32 (fun hS33 => ?_)
          refine GH.yl (i := 16) (listed' := #[true, true, true, true, true, true, true, true, true, true, true, true, true, true, true, true, true]) rfl (by kernel_rfl) rfl (NP.next NP.body) rfl rfl rfl (fun w' => yl_assign rfl) hS33 (fun hS34 => ?_)
          refine GH.done (by kernel_rfl) ?_
          refine QA.then_normal ?_
          refine C.ret ?_
          refine QA.ret1 rfl rfl ?_
          obtain rfl := sp_ret1 hm
          exact ⟨rfl, (Sat.pick [] h15)⟩
        · refine GH.on (i := 4) (listed' := #[true, true, true, true, true, false, false, false, false, false, false, false, false, false, false, false, false]) rfl (by kernel_rfl) rfl rfl (NP.next NP.body) rfl rfl rfl rfl (not_t (dec_f hc21)) (fun w' hw' => yl_fieldAddr fo47_8 rfl) hS20 (fun hS35 => ?_)
          refine GH.on (i := 5) (listed' := #[true, true, true, true, true, true, false, false, false, false, false, false, false, false, false, false, false]) rfl (by kernel_rfl) rfl rfl (NP.next NP.body) rfl rfl rfl rfl (not_t (dec_f hc21)) (fun w' hw' => yl_load (v := (.string (str i.Target))) ag9 rfl (View.at_ (j := 7) (View.span_tail hw') rfl)) hS35 (fun hS36 => ?_)
          obtain ⟨r1_2, hy37, hm⟩ := sp_bind hm
          refine GH.doesOn (i := 6) (listed' := #[true, true, true, true, true, true, true, false, false, false, false, false, false, false, false, false, false]) rfl (by kernel_rfl) rfl rfl rfl (not_t (dec_f hc21)) rfl rfl (does_fn 0 rfl rfl rfl en94 h15 (fun U hU hp hr hs => M_signpostref09_Good_w (s := i.Target) hp hy37)) ?_
          rintro _ w38 ⟨U41, hb42, rfl, h40⟩
          have h39 : Sat W w38 [blk b1 (bytesV (List.ofFn (n := 20) i.Publisher) ++ ([(v64 i.Seq), (v64 i.Born), (v32 i.Life), (.bool i.Gone), (v16 i.Priority), (v16 i.Weight), (v16 i.Port), (.string (str i.Target))] : List Value)) 47] := hb42 h40
          have hS43 : Cls (fun w' => View w' (some ⟨b1, 0, none⟩) (bytesV (List.ofFn (n := 20) i.Publisher) ++ ([(v64 i.Seq), (v64 i.Born), (v32 i.Life), (.bool i.Gone), (v16 i.Priority), (v16 i.Weight), (v16 i.Port), (.string (str i.Target))] : List Value))) [1, 4, 5, 9, 10, 12, 13, 14] [] #[true, true, true, true, true, true, true, false, false, false, false, false, false, false, false, false, false] w38 := Cls.keep (h39.isBlk.view0) (by kernel_rfl)
          refine ⟨hS43, ?_⟩
          refine GH.yl (i := 7) (listed' := #[true, true, true, true, true, true, true, true, false, false, false, false, false, false, false, false, false]) rfl (by kernel_rfl) rfl (NP.next NP.body) rfl rfl rfl (fun w' => yl_pick_t rfl (not_t (dec_f hc21)) rfl) hS43 (fun hS44 => ?_)
          refine GH.yl (i := 8) (listed' := #[true, true, true, true, true, true, true, true, true, false, false, false, false, false, false, false, false]) rfl (by kernel_rfl) rfl (NP.next NP.body) rfl rfl rfl (fun w' => yl_move rfl) hS44 (fun hS45 => ?_)
          rcases sp_b hm with ⟨hc46, hm⟩ | ⟨hc46, hm⟩
          · refine GH.on (i := 9) (listed' := #[true, true, true, true, true, true, true, true, true, true, false, false, false, false, false, false, false]) rfl (by kernel_rfl) rfl rfl (NP.next NP.body) rfl rfl rfl rfl hc46 (fun w' hw' => yl_fieldAddr fo47_8 rfl) hS45 (fun hS47 => ?_)
            refine GH.on (i := 10) (listed' := #[true, true, true, true, true, true, true, true, true, true, true, false, false, false, false, false, false]) rfl (by kernel_rfl) rfl rfl (NP.next NP.body) rfl rfl rfl rfl hc46 (fun w' hw' => yl_load (v := (.string (str i.Target))) ag9 rfl (View.at_ (j := 7) (View.span_tail hw') rfl)) hS47 (fun hS48 => ?_)
            refine GH.on (i := 12) (listed' := #[true, true, true, true, true, true, true, true, true, true, true, false, true, false, false, false, false]) rfl (by kernel_rfl) rfl rfl (NP.next NP.body) rfl rfl rfl rfl hc46 (fun w' hw' => yl_fieldAddr fo47_8 rfl) hS48 (fun hS49 => ?_)
            refine GH.on (i := 13) (listed' := #[true, true, true, true, true, true, true, true, true, true, true, false, true, true, false, false, false]) rfl (by kernel_rfl) rfl rfl (NP.next NP.body) rfl rfl rfl rfl hc46 (fun w' hw' => yl_load (v := (.string (str i.Target))) ag9 rfl (View.at_ (j := 7) (View.span_tail hw') rfl)) hS49 (fun hS50 => ?_)
            obtain ⟨r1_3, hy51, hm⟩ := sp_bind hm
            refine GH.doesOn (i := 11) (listed' := #[true, true, true, true, true, true, true, true, true, true, true, true, true, true, false, false, false]) rfl (by kernel_rfl) rfl rfl rfl hc46 rfl rfl (does_fn 0 rfl rfl rfl en95 h39 (fun U hU hp hr hs => M_signpostref09_Fold_w (s := i.Target) hp hy51)) ?_
            rintro _ w52 ⟨U55, hb56, rfl, h54⟩
            have h53 : Sat W w52 [blk b1 (bytesV (List.ofFn (n := 20) i.Publisher) ++ ([(v64 i.Seq), (v64 i.Born), (v32 i.Life), (.bool i.Gone), (v16 i.Priority), (v16 i.Weight), (v16 i.Port), (.string (str i.Target))] : List Value)) 47] := hb56 h54
            have hS57 : Cls (fun w' => View w' (some ⟨b1, 0, none⟩) (bytesV (List.ofFn (n := 20) i.Publisher) ++ ([(v64 i.Seq), (v64 i.Born), (v32 i.Life), (.bool i.Gone), (v16 i.Priority), (v16 i.Weight), (v16 i.Port), (.string (str i.Target))] : List Value))) [1, 4, 5, 9, 10, 12, 13, 14] [] #[true, true, true, true, true, true, true, true, true, true, true, true, true, true, false, false, false] w52 := Cls.keep (h53.isBlk.view0) (by kernel_rfl)
            refine ⟨hS57, ?_⟩
            refine GH.on (i := 14) (listed' := #[true, true, true, true, true, true, true, true, true, true, true, true, true, true, true, false, false]) rfl (by kernel_rfl) rfl rfl (NP.next NP.body) rfl rfl rfl rfl hc46 (fun w' hw' => yl_eqS rfl rfl) hS57 (fun hS58 => ?_)
            refine GH.yl (i := 15) (listed' := #[true, true, true, true, true, true, true, true, true, true, true, true, true, true, true, true, false]) rfl (by kernel_rfl) rfl (NP.next NP.body) rfl rfl rfl (fun w' => yl_pick_t rfl hc46 rfl) hS58 (fun hS59 => ?_)
            refine GH.yl (i := 16) (listed' := #[true, true, true, true, true, true, true, true, true, true, true, true, true, true, true, true, true]) rfl (by kernel_rfl) rfl (NP.next NP.body) rfl rfl rfl (fun w' => yl_assign rfl) hS59 (fun hS60 => ?_)
            refine GH.done (by kernel_rfl) ?_
            refine QA.then_normal ?_
            refine C.ret ?_
            refine QA.ret1 rfl rfl ?_
            obtain rfl := sp_ret1 hm
            exact ⟨rfl, (Sat.pick [] h53)⟩
          · refine GH.off (i := 9) (listed' := #[true, true, true, true, true, true, true, true, true, true, false, false, false, false, false, false, false]) rfl (by kernel_rfl) rfl (NP.next NP.body) rfl rfl rfl rfl hc46 hS45 (fun hS61 => ?_)
            refine GH.off (i := 10) (listed' := #[true, true, true, true, true, true, true, true, true, true, true, false, false, false, false, false, false]) rfl (by kernel_rfl) rfl (NP.next NP.body) rfl rfl rfl rfl hc46 hS61 (fun hS62 => ?_)
            refine GH.off (i := 11) (listed' := #[true, true, true, true, true, true, true, true, true, true, true, true, false, false, false, false, false]) rfl (by kernel_rfl) rfl (NP.next NP.body) rfl rfl rfl rfl hc46 hS62 (fun hS63 => ?_)
            refine GH.off (i := 12) (listed' := #[true, true, true, true, true, true, true, true, true, true, true, true, true, false, false, false, false]) rfl (by kernel_rfl) rfl (NP.next NP.body) rfl rfl rfl rfl hc46 hS63 (fun hS64 => ?_)
            refine GH.off (i := 13) (listed' := #[true, true, true, true, true, true, true, true, true, true, true, true, true, true, false, false, false]) rfl (by kernel_rfl) rfl (NP.next NP.body) rfl rfl rfl rfl hc46 hS64 (fun hS65 => ?_)
            refine GH.off (i := 14) (listed' := #[true, true, true, true, true, true, true, true, true, true, true, true, true, true, true, false, false]) rfl (by kernel_rfl) rfl (NP.next NP.body) rfl rfl rfl rfl hc46 hS65 (fun hS66 => ?_)
            refine GH.yl (i := 15) (listed' := #[true, true, true, true, true, true, true, true, true, true, true, true, true, true, true, true, false]) rfl (by kernel_rfl) rfl (NP.next NP.body) rfl rfl rfl (fun w' => yl_pick_f rfl hc46 rfl) hS66 (fun hS67 => ?_)
            refine GH.yl (i := 16) (listed' := #[true, true, true, true, true, true, true, true, true, true, true, true, true, true, true, true, true]) rfl (by kernel_rfl) rfl (NP.next NP.body) rfl rfl rfl (fun w' => yl_assign rfl) hS67 (fun hS68 => ?_)
            refine GH.done (by kernel_rfl) ?_
            refine QA.then_normal ?_
            refine C.ret ?_
            refine QA.ret1 rfl rfl ?_
            obtain rfl := sp_ret1 hm
            exact ⟨rfl, (Sat.pick [] h39)⟩
set_option maxRecDepth 20000 in
set_option maxHeartbeats 1000000 in
theorem M_signpostref11_Read_pv_w {W : Base} {w : World} {b : Nat} {a : Option Addr} {c : Nat} {B : List UInt8} {At : Int} {Bad : Bool} (hv34 : V W a (elU8.row B)) (hq35 : B.length ≤ c) (h : Sat W w [blk b [(.slice a B.length c), (vI At), (.bool Bad)] 97]) {r1 : G_api_Instance} {r2 : Bool} {r3 : Int} {r4 : Bool} (hm : M_signpostref11_Read_pv B At Bad = some (r1, r2, r3, r4)) :
    Calls Try.prog 54 #[(.pointer (some ⟨b, 0, none⟩))] w (Ret fun v w' => v = (.tuple #[(.agg (bytesV (List.ofFn (n := 20) r1.Publisher) ++ ([(v64 r1.Seq), (v64 r1.Born), (v32 r1.Life), (.bool r1.Gone), (v16 r1.Priority), (v16 r1.Weight), (v16 r1.Port), (.string (str r1.Target))] : List Value)).toArray), (.bool r2)]) ∧ Sat W w' [blk b [(.slice a B.length c), (vI r3), (.bool r4)] 97]) := by
  unfold M_signpostref11_Read_pv at hm
  refine C.enter (N := 60) Try.func54 rfl Try.ntmps54 rfl ?_
  show C _ _ _ [(0, (.pointer (some ⟨b, 0, none⟩)))] _ _
  refine C.seq ?_
  refine C.region ?_
  refine G.does (does_alloc (cs := (bytesV (List.ofFn (n := 20) (fun _ => 0)) ++ ([(.int .u64 0), (.int .u64 0), (.int .u32 0), (.bool false), (.int .u16 0), (.int .u16 0), (.int .u16 0), (.string (str ([] : List UInt8)))] : List Value))) h z47 rfl) rfl rfl rfl ?_
  rintro _ w2 ⟨b1, rfl, h3⟩
  refine G.yl (yl_assign rfl) rfl rfl rfl ?_
  refine G.nil ?_
  refine QA.then_normal ?_
  refine C.seq ?_
  refine C.region ?_
  refine G.does (does_alloc (cs := (bytesV (List.ofFn (n := 20) (fun _ => 0)) ++ ([(.int .u64 0), (.int .u64 0), (.int .u32 0), (.bool false), (.int .u16 0), (.int .u16 0), (.int .u16 0), (.string (str ([] : List UInt8)))] : List Value))) h3 z47 rfl) rfl rfl rfl ?_
  rintro _ w5 ⟨b4, rfl, h6⟩
  refine G.nil ?_
  refine QA.then_normal ?_
  refine C.seq ?_
  refine C.draw (V := fun w' => True) (nd := []) (sp := []) (n := 5) rfl h6 rfl rfl ?_
  intro w7 h8
  have hS9 : Cls (fun w' => True) [] [] #[false, false, false, false, false] w7 := Cls.keep (trivial) (by kernel_rfl)
  refine GH.yl (i := 0) (listed' := #[true, false, false, false, false]) rfl (by kernel_rfl) rfl (NP.next NP.body) rfl rfl rfl (fun w' => yl_fieldAddr fo47_0 rfl) hS9 (fun hS10 => ?_)
  refine GH.yl (i := 1) (listed' := #[true, true, false, false, false]) rfl (by kernel_rfl) rfl (NP.next NP.body) rfl rfl rfl (fun w' => yl_slice_arr (n := 20) (l := 0) (h := 20) (s := 1) (v := (.slice (some ⟨b4, 0, none⟩) 20 20)) Try.underlying43 (by kernel_rfl) (by kernel_rfl) rfl rfl rfl (by decide) (by decide) rfl) hS10 (fun hS11 => ?_)
  refine GH.yl (i := 2) (listed' := #[true, true, true, false, false]) rfl (by kernel_rfl) rfl (NP.next NP.body) rfl rfl rfl (fun w' => yl_move rfl) hS11 (fun hS12 => ?_)
  obtain ⟨⟨r3_2, r4_2, r5_2⟩, hy15, hm⟩ := sp_bind hm
  refine GH.does (i := 3) (listed' := #[true, true, true, true, false]) rfl (by kernel_rfl) rfl rfl rfl rfl (does_fn 1 rfl rfl rfl en113 (Sat.pick [2, 0, 0] h8) (fun U hU hp hr hs => M_signpostref01_Reader_Take_pv_w (B := B) (At := At) (Bad := Bad) (n := 20) (hs.v hv34) hq35 hp hy15)) ?_
  rintro _ w18 ⟨U21, hb22, r116, r217, rfl, h20⟩
  have h19 : Sat W w18 [ow elU8 r116 r217 5 r3_2, blk b [(.slice a B.length c), (vI r4_2), (.bool r5_2)] 97, blk b4 (bytesV (List.ofFn (n := 20) (fun _ => 0)) ++ ([(.int .u64 0), (.int .u64 0), (.int .u32 0), (.bool false), (.int .u16 0), (.int .u16 0), (.int .u16 0), (.string (str ([] : List UInt8)))] : List Value)) 47, blk b1 (bytesV (List.ofFn (n := 20) (fun _ => 0)) ++ ([(.int .u64 0), (.int .u64 0), (.int .u32 0), (.bool false), (.int .u16 0), (.int .u16 0), (.int .u16 0), (.string (str ([] : List UInt8)))] : List Value)) 47] := hb22 h20
  have hS23 : Cls (fun w' => True) [] [] #[true, true, true, true, false] w18 := Cls.keep (trivial) (by kernel_rfl)
  refine ⟨hS23, ?_⟩
  refine GH.does (i := 4) (listed' := #[true, true, true, true, true]) rfl (by kernel_rfl) rfl rfl rfl rfl (does_cpAH (l := r3_2) (Sat.pick [2, 0, 0, 0] h19) Try.underlying49 sz5 rfl rfl rfl (Sat.own_view h19) rfl) ?_
  rintro _ w24 ⟨rfl, h25⟩
  have hS26 : Cls (fun w' => True) [] [] #[true, true, true, true, true] w24 := Cls.keep (trivial) (by kernel_rfl)
  refine ⟨hS26, ?_⟩
  refine GH.done (by kernel_rfl) ?_
  refine QA.then_normal ?_
  refine C.seq ?_
  refine C.region ?_
  refine G.yl (yl_move rfl) rfl rfl rfl ?_
  obtain ⟨⟨r1_2, r2_2, r3_3⟩, hy29, hm⟩ := sp_bind hm
  refine G.does (does_fn 1 rfl rfl rfl en114 (Sat.pick [2, 0, 0, 0] h25) (fun U hU hp hr hs => M_signpostref01_Reader_Num_pv_w (B := B) (At := r4_2) (Bad := r5_2) (width := 8) (hs.v hv34) hq35 hp hy29)) rfl rfl rfl ?_
  rintro _ w30 ⟨U33, hb34, rfl, h32⟩
  have h31 : Sat W w30 [blk b [(.slice a B.length c), (vI r2_2), (.bool r3_3)] 97, blk b4 (bytesV (List.ofFn (n := 20) (copyA (fun _ => 0) r3_2)) ++ ([(.int .u64 0), (.int .u64 0), (.int .u32 0), (.bool false), (.int .u16 0), (.int .u16 0), (.int .u16 0), (.string (str ([] : List UInt8)))] : List Value)) 47, ow elU8 r116 r217 5 r3_2, blk b1 (bytesV (List.ofFn (n := 20) (fun _ => 0)) ++ ([(.int .u64 0), (.int .u64 0), (.int .u32 0), (.bool false), (.int .u16 0), (.int .u16 0), (.int .u16 0), (.string (str ([] : List UInt8)))] : List Value)) 47] := hb34 h32
  refine G.yl (yl_fieldAddr fo47_1 rfl) rfl rfl rfl ?_
  refine G.unit (does_store (vs := [(v64 r1_2)]) (Sat.pick [1, 0, 0, 0] h31) sz28 rfl rfl rfl (by simp [bytesV_length]) (List.forall_mem_cons.2 ⟨rfl, (fun _ hh => by cases hh)⟩) (by simp [bytesV_length])) rfl rfl ?_
  rintro _ w35 h37
  have h36 : Sat W w35 [blk b4 (bytesV (List.ofFn (n := 20) (copyA (fun _ => 0) r3_2)) ++ ([(v64 r1_2), (.int .u64 0), (.int .u32 0), (.bool false), (.int .u16 0), (.int .u16 0), (.int .u16 0), (.string (str ([] : List UInt8)))] : List Value)) 47, blk b [(.slice a B.length c), (vI r2_2), (.bool r3_3)] 97, ow elU8 r116 r217 5 r3_2, blk b1 (bytesV (List.ofFn (n := 20) (fun _ => 0)) ++ ([(.int .u64 0), (.int .u64 0), (.int .u32 0), (.bool false), (.int .u16 0), (.int .u16 0), (.int .u16 0), (.string (str ([] : List UInt8)))] : List Value)) 47] := sl_blk (by kernel_rfl) h37
  refine G.nil ?_
  refine QA.then_normal ?_
  refine C.seq ?_
  refine C.region ?_
  refine G.yl (yl_move rfl) rfl rfl rfl ?_
  obtain ⟨⟨r1_3, r2_3, r3_4⟩, hy40, hm⟩ := sp_bind hm
  refine G.does (does_fn 1 rfl rfl rfl en114 (Sat.pick [1, 0, 0, 0] h36) (fun U hU hp hr hs => M_signpostref01_Reader_Num_pv_w (B := B) (At := r2_2) (Bad := r3_3) (width := 8) (hs.v hv34) hq35 hp hy40)) rfl rfl rfl ?_
  rintro _ w41 ⟨U44, hb45, rfl, h43⟩
  have h42 : Sat W w41 [blk b [(.slice a B.length c), (vI r2_3), (.bool r3_4)] 97, blk b4 (bytesV (List.ofFn (n := 20) (copyA (fun _ => 0) r3_2)) ++ ([(v64 r1_2), (.int .u64 0), (.int .u32 0), (.bool false), (.int .u16 0), (.int .u16 0), (.int .u16 0), (.string (str ([] : List UInt8)))] : List Value)) 47, ow elU8 r116 r217 5 r3_2, blk b1 (bytesV (List.ofFn (n := 20) (fun _ => 0)) ++ ([(.int .u64 0), (.int .u64 0), (.int .u32 0), (.bool false), (.int .u16 0), (.int .u16 0), (.int .u16 0), (.string (str ([] : List UInt8)))] : List Value)) 47] := hb45 h43
  refine G.yl (yl_fieldAddr fo47_2 rfl) rfl rfl rfl ?_
  refine G.unit (does_store (vs := [(v64 r1_3)]) (Sat.pick [1, 0, 0, 0] h42) sz28 rfl rfl rfl (by simp [bytesV_length]) (List.forall_mem_cons.2 ⟨rfl, (fun _ hh => by cases hh)⟩) (by simp [bytesV_length])) rfl rfl ?_
  rintro _ w46 h48
  have h47 : Sat W w46 [blk b4 (bytesV (List.ofFn (n := 20) (copyA (fun _ => 0) r3_2)) ++ ([(v64 r1_2), (v64 r1_3), (.int .u32 0), (.bool false), (.int .u16 0), (.int .u16 0), (.int .u16 0), (.string (str ([] : List UInt8)))] : List Value)) 47, blk b [(.slice a B.length c), (vI r2_3), (.bool r3_4)] 97, ow elU8 r116 r217 5 r3_2, blk b1 (bytesV (List.ofFn (n := 20) (fun _ => 0)) ++ ([(.int .u64 0), (.int .u64 0), (.int .u32 0), (.bool false), (.int .u16 0), (.int .u16 0), (.int .u16 0), (.string (str ([] : List UInt8)))] : List Value)) 47] := sl_blk (by kernel_rfl) h48
  refine G.nil ?_
  refine QA.then_normal ?_
  refine C.seq ?_
  refine C.region ?_
  refine G.yl (yl_move rfl) rfl rfl rfl ?_
  obtain ⟨⟨r1_4, r2_4, r3_5⟩, hy51, hm⟩ := sp_bind hm
  refine G.does (does_fn 1 rfl rfl rfl en114 (Sat.pick [1, 0, 0, 0] h47) (fun U hU hp hr hs => M_signpostref01_Reader_Num_pv_w (B := B) (At := r2_3) (Bad := r3_4) (width := 4) (hs.v hv34) hq35 hp hy51)) rfl rfl rfl ?_
  rintro _ w52 ⟨U55, hb56, rfl, h54⟩
  have h53 : Sat W w52 [blk b [(.slice a B.length c), (vI r2_4), (.bool r3_5)] 97, blk b4 (bytesV (List.ofFn (n := 20) (copyA (fun _ => 0) r3_2)) ++ ([(v64 r1_2), (v64 r1_3), (.int .u32 0), (.bool false), (.int .u16 0), (.int .u16 0), (.int .u16 0), (.string (str ([] : List UInt8)))] : List Value)) 47, ow elU8 r116 r217 5 r3_2, blk b1 (bytesV (List.ofFn (n := 20) (fun _ => 0)) ++ ([(.int .u64 0), (.int .u64 0), (.int .u32 0), (.bool false), (.int .u16 0), (.int .u16 0), (.int .u16 0), (.string (str ([] : List UInt8)))] : List Value)) 47] := hb56 h54
  refine G.yl (yl_64to32 us28 Try.underlying44 rfl) rfl rfl rfl ?_
  refine G.yl (yl_fieldAddr fo47_3 rfl) rfl rfl rfl ?_
  refine G.unit (does_store (vs := [(v32 r1_4.toUInt32)]) (Sat.pick [1, 0, 0, 0] h53) sz44 rfl rfl rfl (by simp [bytesV_length]) (List.forall_mem_cons.2 ⟨rfl, (fun _ hh => by cases hh)⟩) (by simp [bytesV_length])) rfl rfl ?_
  rintro _ w57 h59
  have h58 : Sat W w57 [blk b4 (bytesV (List.ofFn (n := 20) (copyA (fun _ => 0) r3_2)) ++ ([(v64 r1_2), (v64 r1_3), (v32 r1_4.toUInt32), (.bool false), (.int .u16 0), (.int .u16 0), (.int .u16 0), (.string (str ([] : List UInt8)))] : List Value)) 47, blk b [(.slice a B.length c), (vI r2_4), (.bool r3_5)] 97, ow elU8 r116 r217 5 r3_2, blk b1 (bytesV (List.ofFn (n := 20) (fun _ => 0)) ++ ([(.int .u64 0), (.int .u64 0), (.int .u32 0), (.bool false), (.int .u16 0), (.int .u16 0), (.int .u16 0), (.string (str ([] : List UInt8)))] : List Value)) 47] := sl_blk (by kernel_rfl) h59
  refine G.nil ?_
  refine QA.then_normal ?_
  refine C.seq ?_
  refine C.region ?_
  refine G.yl (yl_move rfl) rfl rfl rfl ?_
  obtain ⟨⟨r1_5, r2_5, r3_6⟩, hy62, hm⟩ := sp_bind hm
  refine G.does (does_fn 1 rfl rfl rfl en114 (Sat.pick [1, 0, 0, 0] h58) (fun U hU hp hr hs => M_signpostref01_Reader_Num_pv_w (B := B) (At := r2_4) (Bad := r3_5) (width := 1) (hs.v hv34) hq35 hp hy62)) rfl rfl rfl ?_
  rintro _ w63 ⟨U66, hb67, rfl, h65⟩
  have h64 : Sat W w63 [blk b [(.slice a B.length c), (vI r2_5), (.bool r3_6)] 97, blk b4 (bytesV (List.ofFn (n := 20) (copyA (fun _ => 0) r3_2)) ++ ([(v64 r1_2), (v64 r1_3), (v32 r1_4.toUInt32), (.bool false), (.int .u16 0), (.int .u16 0), (.int .u16 0), (.string (str ([] : List UInt8)))] : List Value)) 47, ow elU8 r116 r217 5 r3_2, blk b1 (bytesV (List.ofFn (n := 20) (fun _ => 0)) ++ ([(.int .u64 0), (.int .u64 0), (.int .u32 0), (.bool false), (.int .u16 0), (.int .u16 0), (.int .u16 0), (.string (str ([] : List UInt8)))] : List Value)) 47] := hb67 h65
  refine G.yl (yl_assign rfl) rfl rfl rfl ?_
  refine G.nil ?_
  refine QA.then_normal ?_
  refine C.seq ?_
  refine C.region ?_
  refine G.yl (yl_move rfl) rfl rfl rfl ?_
  refine G.yl (yl_eq64 (b := 1) rfl rfl) rfl rfl rfl ?_
  refine G.yl (yl_fieldAddr fo47_4 rfl) rfl rfl rfl ?_
  refine G.unit (does_store (vs := [(.bool (decide (r1_5 = 1)))]) (Sat.pick [1, 0, 0, 0] h64) sz4 rfl rfl rfl (by simp [bytesV_length]) (List.forall_mem_cons.2 ⟨rfl, (fun _ hh => by cases hh)⟩) (by simp [bytesV_length])) rfl rfl ?_
  rintro _ w68 h70
  have h69 : Sat W w68 [blk b4 (bytesV (List.ofFn (n := 20) (copyA (fun _ => 0) r3_2)) ++ ([(v64 r1_2), (v64 r1_3), (v32 r1_4.toUInt32), (.bool (decide (r1_5 = 1))), (.int .u16 0), (.int .u16 0), (.int .u16 0), (.string (str ([] : List UInt8)))] : List Value)) 47, blk b [(.slice a B.length c), (vI r2_5), (.bool r3_6)] 97, ow elU8 r116 r217 5 r3_2, blk b1 (bytesV (List.ofFn (n := 20) (fun _ => 0)) ++ ([(.int .u64 0), (.int .u64 0), (.int .u32 0), (.bool false), (.int .u16 0), (.int .u16 0), (.int .u16 0), (.string (str ([] : List UInt8)))] : List Value)) 47] := sl_blk (by kernel_rfl) h70
  refine G.nil ?_
  refine QA.then_normal ?_
  refine C.join (γ := Int × Bool × G_api_Instance) (fun g => match g with | (At_2, Bad_2, i) => [(0, (.pointer (some ⟨b, 0, none⟩))), (2, (.pointer (some ⟨b1, 0, none⟩))), (3, (.bool false)), (4, (.pointer (some ⟨b4, 0, none⟩))), (5, (v64 r1_5))]) (fun g ww => match g with | (At_2, Bad_2, i) => (M_signpostref11_Read_pv_k1 B r1_5 At_2 Bad_2 i = some (r1, r2, r3, r4)) ∧ Sat W ww [blk b [(.slice a B.length c), (vI At_2), (.bool Bad_2)] 97, blk b1 (bytesV (List.ofFn (n := 20) (fun _ => 0)) ++ ([(.int .u64 0), (.int .u64 0), (.int .u32 0), (.bool false), (.int .u16 0), (.int .u16 0), (.int .u16 0), (.string (str ([] : List UInt8)))] : List Value)) 47, blk b4 (bytesV (List.ofFn (n := 20) i.Publisher) ++ ([(v64 i.Seq), (v64 i.Born), (v32 i.Life), (.bool i.Gone), (v16 i.Priority), (v16 i.Weight), (v16 i.Port), (.string (str i.Target))] : List Value)) 47]) ?_ ?_
  · refine C.seq ?_
    refine C.region ?_
    refine G.yl (yl_move rfl) rfl rfl rfl ?_
    refine G.yl (yl_eq64 (b := 0) rfl rfl) rfl rfl rfl ?_
    refine G.nil ?_
    refine QA.then_normal ?_
    rcases sp_ite hm with ⟨hc71, hm⟩ | ⟨hc71, hm⟩
    · refine C.cond_t rfl (dec_t hc71) ?_
      refine C.seq ?_
      refine C.region ?_
      refine G.yl (yl_move rfl) rfl rfl rfl ?_
      obtain ⟨⟨r1_6, r2_6, r3_7⟩, hy74, hm⟩ := sp_bind hm
      refine G.does (does_fn 1 rfl rfl rfl en114 (Sat.pick [1, 0, 0, 0] h69) (fun U hU hp hr hs => M_signpostref01_Reader_Num_pv_w (B := B) (At := r2_5) (Bad := r3_6) (width := 2) (hs.v hv34) hq35 hp hy74)) rfl rfl rfl ?_
      rintro _ w75 ⟨U78, hb79, rfl, h77⟩
      have h76 : Sat W w75 [blk b [(.slice a B.length c), (vI r2_6), (.bool r3_7)] 97, blk b4 (bytesV (List.ofFn (n := 20) (copyA (fun _ => 0) r3_2)) ++ ([(v64 r1_2), (v64 r1_3), (v32 r1_4.toUInt32), (.bool (decide (r1_5 = 1))), (.int .u16 0), (.int .u16 0), (.int .u16 0), (.string (str ([] : List UInt8)))] : List Value)) 47, ow elU8 r116 r217 5 r3_2, blk b1 (bytesV (List.ofFn (n := 20) (fun _ => 0)) ++ ([(.int .u64 0), (.int .u64 0), (.int .u32 0), (.bool false), (.int .u16 0), (.int .u16 0), (.int .u16 0), (.string (str ([] : List UInt8)))] : List Value)) 47] := hb79 h77
      refine G.yl (yl_64to16 us28 Try.underlying45 rfl) rfl rfl rfl ?_
      refine G.yl (yl_fieldAddr fo47_5 rfl) rfl rfl rfl ?_
      refine G.unit (does_store (vs := [(v16 r1_6.toUInt16)]) (Sat.pick [1, 0, 0, 0] h76) sz45 rfl rfl rfl (by simp [bytesV_length]) (List.forall_mem_cons.2 ⟨rfl, (fun _ hh => by cases hh)⟩) (by simp [bytesV_length])) rfl rfl ?_
      rintro _ w80 h82
      have h81 : Sat W w80 [blk b4 (bytesV (List.ofFn (n := 20) (copyA (fun _ => 0) r3_2)) ++ ([(v64 r1_2), (v64 r1_3), (v32 r1_4.toUInt32), (.bool (decide (r1_5 = 1))), (v16 r1_6.toUInt16), (.int .u16 0), (.int .u16 0), (.string (str ([] : List UInt8)))] : List Value)) 47, blk b [(.slice a B.length c), (vI r2_6), (.bool r3_7)] 97, ow elU8 r116 r217 5 r3_2, blk b1 (bytesV (List.ofFn (n := 20) (fun _ => 0)) ++ ([(.int .u64 0), (.int .u64 0), (.int .u32 0), (.bool false), (.int .u16 0), (.int .u16 0), (.int .u16 0), (.string (str ([] : List UInt8)))] : List Value)) 47] := sl_blk (by kernel_rfl) h82
      refine G.nil ?_
      refine QA.then_normal ?_
      refine C.seq ?_
      refine C.region ?_
      refine G.yl (yl_move rfl) rfl rfl rfl ?_
      obtain ⟨⟨r1_7, r2_7, r3_8⟩, hy85, hm⟩ := sp_bind hm
      refine G.does (does_fn 1 rfl rfl rfl en114 (Sat.pick [1, 0, 0, 0] h81) (fun U hU hp hr hs => M_signpostref01_Reader_Num_pv_w (B := B) (At := r2_6) (Bad := r3_7) (width := 2) (hs.v hv34) hq35 hp hy85)) rfl rfl rfl ?_
      rintro _ w86 ⟨U89, hb90, rfl, h88⟩
      have h87 : Sat W w86 [blk b [(.slice a B.length c), (vI r2_7), (.bool r3_8)] 97, blk b4 (bytesV (List.ofFn (n := 20) (copyA (fun _ => 0) r3_2)) ++ ([(v64 r1_2), (v64 r1_3), (v32 r1_4.toUInt32), (.bool (decide (r1_5 = 1))), (v16 r1_6.toUInt16), (.int .u16 0), (.int .u16 0), (.string (str ([] : List UInt8)))] : List Value)) 47, ow elU8 r116 r217 5 r3_2, blk b1 (bytesV (List.ofFn (n := 20) (fun _ => 0)) ++ ([(.int .u64 0), (.int .u64 0), (.int .u32 0), (.bool false), (.int .u16 0), (.int .u16 0), (.int .u16 0), (.string (str ([] : List UInt8)))] : List Value)) 47] := hb90 h88
      refine G.yl (yl_64to16 us28 Try.underlying45 rfl) rfl rfl rfl ?_
      refine G.yl (yl_fieldAddr fo47_6 rfl) rfl rfl rfl ?_
      refine G.unit (does_store (vs := [(v16 r1_7.toUInt16)]) (Sat.pick [1, 0, 0, 0] h87) sz45 rfl rfl rfl (by simp [bytesV_length]) (List.forall_mem_cons.2 ⟨rfl, (fun _ hh => by cases hh)⟩) (by simp [bytesV_length])) rfl rfl ?_
      rintro _ w91 h93
      have h92 : Sat W w91 [blk b4 (bytesV (List.ofFn (n := 20) (copyA (fun _ => 0) r3_2)) ++ ([(v64 r1_2), (v64 r1_3), (v32 r1_4.toUInt32), (.bool (decide (r1_5 = 1))), (v16 r1_6.toUInt16), (v16 r1_7.toUInt16), (.int .u16 0), (.string (str ([] : List UInt8)))] : List Value)) 47, blk b [(.slice a B.length c), (vI r2_7), (.bool r3_8)] 97, ow elU8 r116 r217 5 r3_2, blk b1 (bytesV (List.ofFn (n := 20) (fun _ => 0)) ++ ([(.int .u64 0), (.int .u64 0), (.int .u32 0), (.bool false), (.int .u16 0), (.int .u16 0), (.int .u16 0), (.string (str ([] : List UInt8)))] : List Value)) 47] := sl_blk (by kernel_rfl) h93
      refine G.nil ?_
      refine QA.then_normal ?_
      refine C.seq ?_
      refine C.region ?_
      refine G.yl (yl_move rfl) rfl rfl rfl ?_
      obtain ⟨⟨r1_8, r2_8, r3_9⟩, hy96, hm⟩ := sp_bind hm
      refine G.does (does_fn 1 rfl rfl rfl en114 (Sat.pick [1, 0, 0, 0] h92) (fun U hU hp hr hs => M_signpostref01_Reader_Num_pv_w (B := B) (At := r2_7) (Bad := r3_8) (width := 2) (hs.v hv34) hq35 hp hy96)) rfl rfl rfl ?_
      rintro _ w97 ⟨U100, hb101, rfl, h99⟩
      have h98 : Sat W w97 [blk b [(.slice a B.length c), (vI r2_8), (.bool r3_9)] 97, blk b4 (bytesV (List.ofFn (n := 20) (copyA (fun _ => 0) r3_2)) ++ ([(v64 r1_2), (v64 r1_3), (v32 r1_4.toUInt32), (.bool (decide (r1_5 = 1))), (v16 r1_6.toUInt16), (v16 r1_7.toUInt16), (.int .u16 0), (.string (str ([] : List UInt8)))] : List Value)) 47, ow elU8 r116 r217 5 r3_2, blk b1 (bytesV (List.ofFn (n := 20) (fun _ => 0)) ++ ([(.int .u64 0), (.int .u64 0), (.int .u32 0), (.bool false), (.int .u16 0), (.int .u16 0), (.int .u16 0), (.string (str ([] : List UInt8)))] : List Value)) 47] := hb101 h99
      refine G.yl (yl_64to16 us28 Try.underlying45 rfl) rfl rfl rfl ?_
      refine G.yl (yl_fieldAddr fo47_7 rfl) rfl rfl rfl ?_
      refine G.unit (does_store (vs := [(v16 r1_8.toUInt16)]) (Sat.pick [1, 0, 0, 0] h98) sz45 rfl rfl rfl (by simp [bytesV_length]) (List.forall_mem_cons.2 ⟨rfl, (fun _ hh => by cases hh)⟩) (by simp [bytesV_length])) rfl rfl ?_
      rintro _ w102 h104
      have h103 : Sat W w102 [blk b4 (bytesV (List.ofFn (n := 20) (copyA (fun _ => 0) r3_2)) ++ ([(v64 r1_2), (v64 r1_3), (v32 r1_4.toUInt32), (.bool (decide (r1_5 = 1))), (v16 r1_6.toUInt16), (v16 r1_7.toUInt16), (v16 r1_8.toUInt16), (.string (str ([] : List UInt8)))] : List Value)) 47, blk b [(.slice a B.length c), (vI r2_8), (.bool r3_9)] 97, ow elU8 r116 r217 5 r3_2, blk b1 (bytesV (List.ofFn (n := 20) (fun _ => 0)) ++ ([(.int .u64 0), (.int .u64 0), (.int .u32 0), (.bool false), (.int .u16 0), (.int .u16 0), (.int .u16 0), (.string (str ([] : List UInt8)))] : List Value)) 47] := sl_blk (by kernel_rfl) h104
      refine G.nil ?_
      refine QA.then_normal ?_
      refine C.region ?_
      refine G.yl (yl_move rfl) rfl rfl rfl ?_
      obtain ⟨⟨r1_9, r2_9, r3_10⟩, hy107, hm⟩ := sp_bind hm
      refine G.does (does_fn 1 rfl rfl rfl en115 (Sat.pick [1, 0, 0, 0] h103) (fun U hU hp hr hs => M_signpostref01_Reader_Text_pv_w (B := B) (At := r2_8) (Bad := r3_9) (most := 1024) (hs.v hv34) hq35 hp hy107)) rfl rfl rfl ?_
      rintro _ w108 ⟨U111, hb112, rfl, h110⟩
      have h109 : Sat W w108 [blk b [(.slice a B.length c), (vI r2_9), (.bool r3_10)] 97, blk b4 (bytesV (List.ofFn (n := 20) (copyA (fun _ => 0) r3_2)) ++ ([(v64 r1_2), (v64 r1_3), (v32 r1_4.toUInt32), (.bool (decide (r1_5 = 1))), (v16 r1_6.toUInt16), (v16 r1_7.toUInt16), (v16 r1_8.toUInt16), (.string (str ([] : List UInt8)))] : List Value)) 47, ow elU8 r116 r217 5 r3_2, blk b1 (bytesV (List.ofFn (n := 20) (fun _ => 0)) ++ ([(.int .u64 0), (.int .u64 0), (.int .u32 0), (.bool false), (.int .u16 0), (.int .u16 0), (.int .u16 0), (.string (str ([] : List UInt8)))] : List Value)) 47] := hb112 h110
      refine G.yl (yl_fieldAddr fo47_8 rfl) rfl rfl rfl ?_
      refine G.unit (does_store (vs := [(.string (str r1_9))]) (Sat.pick [1, 0, 0, 0] h109) sz9 rfl rfl rfl (by simp [bytesV_length]) (List.forall_mem_cons.2 ⟨rfl, (fun _ hh => by cases hh)⟩) (by simp [bytesV_length])) rfl rfl ?_
      rintro _ w113 h115
      have h114 : Sat W w113 [blk b4 (bytesV (List.ofFn (n := 20) (copyA (fun _ => 0) r3_2)) ++ ([(v64 r1_2), (v64 r1_3), (v32 r1_4.toUInt32), (.bool (decide (r1_5 = 1))), (v16 r1_6.toUInt16), (v16 r1_7.toUInt16), (v16 r1_8.toUInt16), (.string (str r1_9))] : List Value)) 47, blk b [(.slice a B.length c), (vI r2_9), (.bool r3_10)] 97, ow elU8 r116 r217 5 r3_2, blk b1 (bytesV (List.ofFn (n := 20) (fun _ => 0)) ++ ([(.int .u64 0), (.int .u64 0), (.int .u32 0), (.bool false), (.int .u16 0), (.int .u16 0), (.int .u16 0), (.string (str ([] : List UInt8)))] : List Value)) 47] := sl_blk (by kernel_rfl) h115
      refine G.nil ?_
      exact QA.join (r2_9, r3_10, (G_api_Instance.mk (copyA (fun _ => 0) r3_2) r1_2 r1_3 r1_4.toUInt32 (decide (r1_5 = 1)) r1_6.toUInt16 r1_7.toUInt16 r1_8.toUInt16 r1_9)) (Sub.of ⟨rfl, rfl, rfl, rfl, rfl, trivial⟩) ⟨hm, (Sat.pick [1, 2, 0] h114)⟩
    · refine C.cond_f rfl (dec_f hc71) ?_
      refine C.skip ?_
      exact QA.join (r2_5, r3_6, (G_api_Instance.mk (copyA (fun _ => 0) r3_2) r1_2 r1_3 r1_4.toUInt32 (decide (r1_5 = 1)) 0 0 0 ([] : List UInt8))) (Sub.of ⟨rfl, rfl, rfl, rfl, rfl, trivial⟩) ⟨hm, (Sat.pick [1, 2, 0] h69)⟩
  · rintro ⟨At_2, Bad_2, i⟩ w116 ⟨hm, h117⟩
    show C _ _ _ [(0, (.pointer (some ⟨b, 0, none⟩))), (2, (.pointer (some ⟨b1, 0, none⟩))), (3, (.bool false)), (4, (.pointer (some ⟨b4, 0, none⟩))), (5, (v64 r1_5))] _ _
    unfold M_signpostref11_Read_pv_k1 at hm
    refine C.seq ?_
    refine C.join (γ := Bool) (fun g => match g with | t55 => [(0, (.pointer (some ⟨b, 0, none⟩))), (2, (.pointer (some ⟨b1, 0, none⟩))), (3, (.bool false)), (4, (.pointer (some ⟨b4, 0, none⟩))), (55, (.bool t55))]) (fun g ww => match g with | t55 => (M_signpostref11_Read_pv_k2 At_2 B Bad_2 i t55 = some (r1, r2, r3, r4)) ∧ Sat W ww [blk b [(.slice a B.length c), (vI At_2), (.bool Bad_2)] 97, blk b1 (bytesV (List.ofFn (n := 20) (fun _ => 0)) ++ ([(.int .u64 0), (.int .u64 0), (.int .u32 0), (.bool false), (.int .u16 0), (.int .u16 0), (.int .u16 0), (.string (str ([] : List UInt8)))] : List Value)) 47, blk b4 (bytesV (List.ofFn (n := 20) i.Publisher) ++ ([(v64 i.Seq), (v64 i.Born), (v32 i.Life), (.bool i.Gone), (v16 i.Priority), (v16 i.Weight), (v16 i.Port), (.string (str i.Target))] : List Value)) 47]) ?_ ?_
    · refine C.region ?_
      refine G.yl (yl_move rfl) rfl rfl rfl ?_
      refine G.yl (yl_nilCheck rfl) rfl rfl rfl ?_
      refine G.yl (yl_fieldAddr fo97_2 rfl) rfl rfl rfl ?_
      refine G.yl (yl_load (v := (.bool Bad_2)) ag4 rfl (View.at0 (j := 2) h117.isBlk.view0 rfl)) rfl rfl rfl ?_
      refine G.yl (yl_move rfl) rfl rfl rfl ?_
      rcases sp_b hm with ⟨hc118, hm⟩ | ⟨hc118, hm⟩
      · refine G.offU rfl rfl hc118 rfl ?_
        refine G.offU rfl rfl hc118 rfl ?_
        refine G.yl (yl_pick_t rfl hc118 rfl) rfl rfl rfl ?_
        refine G.yl (yl_move rfl) rfl rfl rfl ?_
        refine G.offU rfl rfl rfl rfl ?_
        refine G.offU rfl rfl rfl rfl ?_
        refine G.offU rfl rfl rfl rfl ?_
        refine G.yl (yl_pick_t rfl rfl rfl) rfl rfl rfl ?_
        refine G.nil ?_
        exact QA.join true (Sub.of ⟨rfl, rfl, rfl, rfl, rfl, trivial⟩) ⟨hm, (Sat.pick [0, 0, 0] h117)⟩
      · refine G.on rfl rfl hc118 ?_
        refine G.yl (yl_move rfl) rfl rfl rfl ?_
        refine G.on rfl rfl hc118 ?_
        refine G.yl (yl_gt64 (b := 1) rfl rfl) rfl rfl rfl ?_
        refine G.yl (yl_pick_f rfl hc118 rfl) rfl rfl rfl ?_
        refine G.yl (yl_move rfl) rfl rfl rfl ?_
        rcases sp_ite hm with ⟨hc119, hm⟩ | ⟨hc119, hm⟩
        · refine G.offU rfl rfl (dec_t hc119) rfl ?_
          refine G.offU rfl rfl (dec_t hc119) rfl ?_
          refine G.offU rfl rfl (dec_t hc119) rfl ?_
          refine G.yl (yl_pick_t rfl (dec_t hc119) rfl) rfl rfl rfl ?_
          refine G.nil ?_
          exact QA.join true (Sub.of ⟨rfl, rfl, rfl, rfl, rfl, trivial⟩) ⟨hm, (Sat.pick [0, 0, 0] h117)⟩
        · refine G.on rfl rfl (dec_f hc119) ?_
          refine G.yl (yl_loadN (vs := (bytesV (List.ofFn (n := 20) i.Publisher) ++ ([(v64 i.Seq), (v64 i.Born), (v32 i.Life), (.bool i.Gone), (v16 i.Priority), (v16 i.Weight), (v16 i.Port), (.string (str i.Target))] : List Value))) ag47 sz47 (by simp [bytesV_length]) rfl ((Sat.pick [2] h117).isBlk.view0)) rfl rfl rfl ?_
          refine G.on rfl rfl (dec_f hc119) ?_
          obtain ⟨r1_10, hy120, hm⟩ := sp_bind hm
          refine G.does (does_fn 0 rfl rfl rfl en33 h117 (fun U hU hp hr hs => M_signpostref11_Good_w (i := i) hp hy120)) rfl rfl rfl ?_
          rintro _ w121 ⟨U124, hb125, rfl, h123⟩
          have h122 : Sat W w121 [blk b [(.slice a B.length c), (vI At_2), (.bool Bad_2)] 97, blk b1 (bytesV (List.ofFn (n := 20) (fun _ => 0)) ++ ([(.int .u64 0), (.int .u64 0), (.int .u32 0), (.bool false), (.int .u16 0), (.int .u16 0), (.int .u16 0), (.string (str ([] : List UInt8)))] : List Value)) 47, blk b4 (bytesV (List.ofFn (n := 20) i.Publisher) ++ ([(v64 i.Seq), (v64 i.Born), (v32 i.Life), (.bool i.Gone), (v16 i.Priority), (v16 i.Weight), (v16 i.Port), (.string (str i.Target))] : List Value)) 47] := hb125 h123
          refine G.on rfl rfl (dec_f hc119) ?_
          refine G.yl (yl_not rfl) rfl rfl rfl ?_
          refine G.yl (yl_pick_f rfl (dec_f hc119) rfl) rfl rfl rfl ?_
          refine G.nil ?_
          exact QA.join (!r1_10) (Sub.of ⟨rfl, rfl, rfl, rfl, rfl, trivial⟩) ⟨hm, (Sat.pick [0, 0, 0] h122)⟩
    · rintro t55 w126 ⟨hm, h127⟩
      show C _ _ _ [(0, (.pointer (some ⟨b, 0, none⟩))), (2, (.pointer (some ⟨b1, 0, none⟩))), (3, (.bool false)), (4, (.pointer (some ⟨b4, 0, none⟩))), (55, (.bool t55))] _ _
      unfold M_signpostref11_Read_pv_k2 at hm
      rcases sp_b hm with ⟨hc128, hm⟩ | ⟨hc128, hm⟩
      · refine C.cond_t rfl hc128 ?_
        refine C.seq ?_
        refine C.region ?_
        refine G.yl (yl_move rfl) rfl rfl rfl ?_
        obtain ⟨⟨r3_11, r4_3, r5_3⟩, hy131, hm⟩ := sp_bind hm
        refine G.does (does_fn 1 rfl rfl rfl en113 (Sat.pick [0, 0, 0] h127) (fun U hU hp hr hs => M_signpostref01_Reader_Take_pv_w (B := B) (At := At_2) (Bad := Bad_2) (n := (-1)) (hs.v hv34) hq35 hp hy131)) rfl rfl rfl ?_
        rintro _ w134 ⟨U137, hb138, r1132, r2133, rfl, h136⟩
        have h135 : Sat W w134 [ow elU8 r1132 r2133 5 r3_11, blk b [(.slice a B.length c), (vI r4_3), (.bool r5_3)] 97, blk b1 (bytesV (List.ofFn (n := 20) (fun _ => 0)) ++ ([(.int .u64 0), (.int .u64 0), (.int .u32 0), (.bool false), (.int .u16 0), (.int .u16 0), (.int .u16 0), (.string (str ([] : List UInt8)))] : List Value)) 47, blk b4 (bytesV (List.ofFn (n := 20) i.Publisher) ++ ([(v64 i.Seq), (v64 i.Born), (v32 i.Life), (.bool i.Gone), (v16 i.Priority), (v16 i.Weight), (v16 i.Port), (.string (str i.Target))] : List Value)) 47] := hb138 h136
        refine G.nil ?_
        refine QA.then_normal ?_
        refine C.seq ?_
        refine C.region ?_
        refine G.yl (yl_build (vs := []) (cells := (bytesV (List.ofFn (n := 20) (fun _ => 0)) ++ ([(.int .u64 0), (.int .u64 0), (.int .u32 0), (.bool false), (.int .u16 0), (.int .u16 0), (.int .u16 0), (.string (str ([] : List UInt8)))] : List Value)).toArray) rfl (by kernel_rfl)) rfl rfl rfl ?_
        refine G.unit (does_store (vs := (bytesV (List.ofFn (n := 20) (fun _ => 0)) ++ ([(.int .u64 0), (.int .u64 0), (.int .u32 0), (.bool false), (.int .u16 0), (.int .u16 0), (.int .u16 0), (.string (str ([] : List UInt8)))] : List Value))) (Sat.pick [2, 0, 0, 0] h135) sz47 rfl rfl rfl (by simp [bytesV_length]) (List.forall_mem_append.2 ⟨(bytesV_one _), (List.forall_mem_cons.2 ⟨rfl, (List.forall_mem_cons.2 ⟨rfl, (List.forall_mem_cons.2 ⟨rfl, (List.forall_mem_cons.2 ⟨rfl, (List.forall_mem_cons.2 ⟨rfl, (List.forall_mem_cons.2 ⟨rfl, (List.forall_mem_cons.2 ⟨rfl, (List.forall_mem_cons.2 ⟨rfl, (fun _ hh => by cases hh)⟩)⟩)⟩)⟩)⟩)⟩)⟩)⟩)⟩) (by simp [bytesV_length])) rfl rfl ?_
        rintro _ w139 h141
        have h140 : Sat W w139 [blk b1 (bytesV (List.ofFn (n := 20) (fun _ => 0)) ++ ([(.int .u64 0), (.int .u64 0), (.int .u32 0), (.bool false), (.int .u16 0), (.int .u16 0), (.int .u16 0), (.string (str ([] : List UInt8)))] : List Value)) 47, ow elU8 r1132 r2133 5 r3_11, blk b [(.slice a B.length c), (vI r4_3), (.bool r5_3)] 97, blk b4 (bytesV (List.ofFn (n := 20) i.Publisher) ++ ([(v64 i.Seq), (v64 i.Born), (v32 i.Life), (.bool i.Gone), (v16 i.Priority), (v16 i.Weight), (v16 i.Port), (.string (str i.Target))] : List Value)) 47] := sl_blk (setN_all _ _ (by simp [bytesV_length])) h141
        refine G.yl (yl_assign rfl) rfl rfl rfl ?_
        refine G.nil ?_
        refine QA.then_normal ?_
        refine C.ret ?_
        refine QA.then_ret ?_
        refine QA.ret_ct rfl (InCell.many (vs := (bytesV (List.ofFn (n := 20) (fun _ => 0)) ++ ([(.int .u64 0), (.int .u64 0), (.int .u32 0), (.bool false), (.int .u16 0), (.int .u16 0), (.int .u16 0), (.string (str ([] : List UInt8)))] : List Value))) rfl ag47 sz47 (by simp [bytesV_length]) (h140.isBlk.view0)) rfl ?_
        obtain ⟨rfl, rfl, rfl, rfl⟩ := sp_ret4 hm
        exact ⟨rfl, (Sat.pick [2] h140)⟩
      · refine C.cond_f rfl hc128 ?_
        refine C.skip ?_
        refine QA.then_normal ?_
        refine C.seq ?_
        refine C.region ?_
        refine G.yl (yl_loadN (vs := (bytesV (List.ofFn (n := 20) i.Publisher) ++ ([(v64 i.Seq), (v64 i.Born), (v32 i.Life), (.bool i.Gone), (v16 i.Priority), (v16 i.Weight), (v16 i.Port), (.string (str i.Target))] : List Value))) ag47 sz47 (by simp [bytesV_length]) rfl ((Sat.pick [2] h127).isBlk.view0)) rfl rfl rfl ?_
        refine G.unit (does_store (vs := (bytesV (List.ofFn (n := 20) i.Publisher) ++ ([(v64 i.Seq), (v64 i.Born), (v32 i.Life), (.bool i.Gone), (v16 i.Priority), (v16 i.Weight), (v16 i.Port), (.string (str i.Target))] : List Value))) (Sat.pick [1, 0, 0] h127) sz47 rfl rfl rfl (by simp [bytesV_length]) (List.forall_mem_append.2 ⟨(bytesV_one _), (List.forall_mem_cons.2 ⟨rfl, (List.forall_mem_cons.2 ⟨rfl, (List.forall_mem_cons.2 ⟨rfl, (List.forall_mem_cons.2 ⟨rfl, (List.forall_mem_cons.2 ⟨rfl, (List.forall_mem_cons.2 ⟨rfl, (List.forall_mem_cons.2 ⟨rfl, (List.forall_mem_cons.2 ⟨rfl, (fun _ hh => by cases hh)⟩)⟩)⟩)⟩)⟩)⟩)⟩)⟩)⟩) (by simp [bytesV_length])) rfl rfl ?_
        rintro _ w142 h144
        have h143 : Sat W w142 [blk b1 (bytesV (List.ofFn (n := 20) i.Publisher) ++ ([(v64 i.Seq), (v64 i.Born), (v32 i.Life), (.bool i.Gone), (v16 i.Priority), (v16 i.Weight), (v16 i.Port), (.string (str i.Target))] : List Value)) 47, blk b [(.slice a B.length c), (vI At_2), (.bool Bad_2)] 97, blk b4 (bytesV (List.ofFn (n := 20) i.Publisher) ++ ([(v64 i.Seq), (v64 i.Born), (v32 i.Life), (.bool i.Gone), (v16 i.Priority), (v16 i.Weight), (v16 i.Port), (.string (str i.Target))] : List Value)) 47] := sl_blk (setN_all _ _ (by simp [bytesV_length])) h144
        refine G.yl (yl_assign rfl) rfl rfl rfl ?_
        refine G.nil ?_
        refine QA.then_normal ?_
        refine C.ret ?_
        refine QA.ret_ct rfl (InCell.many (vs := (bytesV (List.ofFn (n := 20) i.Publisher) ++ ([(v64 i.Seq), (v64 i.Born), (v32 i.Life), (.bool i.Gone), (v16 i.Priority), (v16 i.Weight), (v16 i.Port), (.string (str i.Target))] : List Value))) rfl ag47 sz47 (by simp [bytesV_length]) (h143.isBlk.view0)) rfl ?_
        obtain ⟨rfl, rfl, rfl, rfl⟩ := sp_ret4 hm
        exact ⟨rfl, (Sat.pick [1] h143)⟩
set_option maxRecDepth 20000 in
set_option maxHeartbeats 1000000 in
theorem M_octet_Reader_none_z_w {W : Base} {w : World}   (h : Sat W w [])  (hm : M_octet_Reader_none_z = some ()) :
    Calls Try.prog 116 #[(.pointer none)] w (Ret fun v w' => v = (.bool true) ∧ Sat W w' []) := by
  unfold M_octet_Reader_none_z at hm
  refine C.enter (N := 13) Try.func116 rfl Try.ntmps116 rfl ?_
  show C _ _ _ [(0, (.pointer none))] _ _
  refine C.seq ?_
  refine C.region ?_
  refine G.yl (yl_assign rfl) rfl rfl rfl ?_
  refine G.nil ?_
  refine QA.then_normal ?_
  refine C.seq ?_
  refine C.region ?_
  refine G.yl (yl_move rfl) rfl rfl rfl ?_
  refine G.yl (yl_eq_nil np93 rfl rfl) rfl rfl rfl ?_
  refine G.yl (yl_move rfl) rfl rfl rfl ?_
  refine G.offU rfl rfl rfl rfl ?_
  refine G.offU rfl rfl rfl rfl ?_
  refine G.offU rfl rfl rfl rfl ?_
  refine G.offU rfl rfl rfl rfl ?_
  refine G.offU rfl rfl rfl rfl ?_
  refine G.offU rfl rfl rfl rfl ?_
  refine G.yl (yl_pick_t rfl rfl rfl) rfl rfl rfl ?_
  refine G.yl (yl_assign rfl) rfl rfl rfl ?_
  refine G.nil ?_
  refine QA.then_normal ?_
  refine C.ret ?_
  refine QA.ret1 rfl rfl ?_
  exact ⟨rfl, (Sat.pick [] h)⟩
set_option maxRecDepth 20000 in
set_option maxHeartbeats 1000000 in
theorem M_octet_Reader_Take_z_w {W : Base} {w : World} {n : Int}  (h : Sat W w [])  (hm : M_octet_Reader_Take_z n = some ()) :
    Calls Try.prog 110 #[(.pointer none), (vI n)] w (Ret fun v w' => v = (.slice none 0 0) ∧ Sat W w' []) := by
  unfold M_octet_Reader_Take_z at hm
  refine C.enter (N := 22) Try.func110 rfl Try.ntmps110 rfl ?_
  show C _ _ _ [(0, (.pointer none)), (1, (vI n))] _ _
  refine C.seq ?_
  refine C.region ?_
  refine G.yl (yl_assign rfl) rfl rfl rfl ?_
  refine G.nil ?_
  refine QA.then_normal ?_
  refine C.seq ?_
  refine C.seq ?_
  refine C.region ?_
  refine G.yl (yl_move rfl) rfl rfl rfl ?_
  obtain ⟨_, hy1, hm⟩ := sp_bind hm
  refine G.does (does_fn 0 rfl rfl rfl en116 h (fun U hU hp hr hs => M_octet_Reader_none_z_w hp hy1)) rfl rfl rfl ?_
  rintro _ w2 ⟨U5, hb6, rfl, h4⟩
  have h3 : Sat W w2 [] := hb6 h4
  refine G.nil ?_
  refine QA.then_normal ?_
  refine C.cond_t rfl rfl ?_
  refine C.seq ?_
  refine C.region ?_
  refine G.yl (yl_assign rfl) rfl rfl rfl ?_
  refine G.nil ?_
  refine QA.then_normal ?_
  refine C.ret ?_
  refine QA.then_ret ?_
  refine QA.ret1 rfl rfl ?_
  exact ⟨rfl, (Sat.pick [] h3)⟩
set_option maxRecDepth 20000 in
set_option maxHeartbeats 1000000 in
theorem M_octet_Reader_Num_z_w {W : Base} {w : World} {width : Int}  (h : Sat W w [])  (hm : M_octet_Reader_Num_z width = some ()) :
    Calls Try.prog 111 #[(.pointer none), (vI width)] w (Ret fun v w' => v = (.int .u64 0) ∧ Sat W w' []) := by
  unfold M_octet_Reader_Num_z at hm
  refine C.enter (N := 35) Try.func111 rfl Try.ntmps111 rfl ?_
  show C _ _ _ [(0, (.pointer none)), (1, (vI width))] _ _
  refine C.seq ?_
  refine C.region ?_
  refine G.yl (yl_assign rfl) rfl rfl rfl ?_
  refine G.nil ?_
  refine QA.then_normal ?_
  refine C.seq ?_
  refine C.seq ?_
  refine C.region ?_
  refine G.yl (yl_move rfl) rfl rfl rfl ?_
  obtain ⟨_, hy1, hm⟩ := sp_bind hm
  refine G.does (does_fn 0 rfl rfl rfl en116 h (fun U hU hp hr hs => M_octet_Reader_none_z_w hp hy1)) rfl rfl rfl ?_
  rintro _ w2 ⟨U5, hb6, rfl, h4⟩
  have h3 : Sat W w2 [] := hb6 h4
  refine G.nil ?_
  refine QA.then_normal ?_
  refine C.cond_t rfl rfl ?_
  refine C.seq ?_
  refine C.region ?_
  refine G.yl (yl_assign rfl) rfl rfl rfl ?_
  refine G.nil ?_
  refine QA.then_normal ?_
  refine C.ret ?_
  refine QA.then_ret ?_
  refine QA.ret1 rfl rfl ?_
  exact ⟨rfl, (Sat.pick [] h3)⟩
set_option maxRecDepth 20000 in
set_option maxHeartbeats 1000000 in
theorem M_octet_Reader_Text_z_w {W : Base} {w : World} {most : Int}  (h : Sat W w [])  (hm : M_octet_Reader_Text_z most = some ()) :
    Calls Try.prog 112 #[(.pointer none), (vI most)] w (Ret fun v w' => v = (.string (str ([] : List UInt8))) ∧ Sat W w' []) := by
  unfold M_octet_Reader_Text_z at hm
  refine C.enter (N := 33) Try.func112 rfl Try.ntmps112 rfl ?_
  show C _ _ _ [(0, (.pointer none)), (1, (vI most))] _ _
  refine C.seq ?_
  refine C.region ?_
  refine G.yl (yl_assign rfl) rfl rfl rfl ?_
  refine G.nil ?_
  refine QA.then_normal ?_
  refine C.seq ?_
  refine C.seq ?_
  refine C.region ?_
  refine G.yl (yl_move rfl) rfl rfl rfl ?_
  obtain ⟨_, hy1, hm⟩ := sp_bind hm
  refine G.does (does_fn 0 rfl rfl rfl en116 h (fun U hU hp hr hs => M_octet_Reader_none_z_w hp hy1)) rfl rfl rfl ?_
  rintro _ w2 ⟨U5, hb6, rfl, h4⟩
  have h3 : Sat W w2 [] := hb6 h4
  refine G.nil ?_
  refine QA.then_normal ?_
  refine C.cond_t rfl rfl ?_
  refine C.seq ?_
  refine C.region ?_
  refine G.yl (yl_assign rfl) rfl rfl rfl ?_
  refine G.nil ?_
  refine QA.then_normal ?_
  refine C.ret ?_
  refine QA.then_ret ?_
  refine QA.ret1 rfl rfl ?_
  exact ⟨rfl, (Sat.pick [] h3)⟩
set_option maxRecDepth 20000 in
set_option maxHeartbeats 1000000 in
theorem M_octet_Reader_Bad_z_w {W : Base} {w : World}   (h : Sat W w [])  (hm : M_octet_Reader_Bad_z = some ()) :
    Calls Try.prog 57 #[(.pointer none)] w (Ret fun v w' => v = (.bool true) ∧ Sat W w' []) := by
  unfold M_octet_Reader_Bad_z at hm
  refine C.enter (N := 12) Try.func57 rfl Try.ntmps57 rfl ?_
  show C _ _ _ [(0, (.pointer none))] _ _
  refine C.seq ?_
  refine C.region ?_
  refine G.yl (yl_assign rfl) rfl rfl rfl ?_
  refine G.nil ?_
  refine QA.then_normal ?_
  refine C.seq ?_
  refine C.region ?_
  refine G.yl (yl_move rfl) rfl rfl rfl ?_
  obtain ⟨_, hy1, hm⟩ := sp_bind hm
  refine G.does (does_fn 0 rfl rfl rfl en116 h (fun U hU hp hr hs => M_octet_Reader_none_z_w hp hy1)) rfl rfl rfl ?_
  rintro _ w2 ⟨U5, hb6, rfl, h4⟩
  have h3 : Sat W w2 [] := hb6 h4
  refine G.yl (yl_move rfl) rfl rfl rfl ?_
  refine G.offU rfl rfl rfl rfl ?_
  refine G.offU rfl rfl rfl rfl ?_
  refine G.offU rfl rfl rfl rfl ?_
  refine G.offU rfl rfl rfl rfl ?_
  refine G.offU rfl rfl rfl rfl ?_
  refine G.yl (yl_pick_t rfl rfl rfl) rfl rfl rfl ?_
  refine G.yl (yl_assign rfl) rfl rfl rfl ?_
  refine G.nil ?_
  refine QA.then_normal ?_
  refine C.ret ?_
  refine QA.ret1 rfl rfl ?_
  exact ⟨rfl, (Sat.pick [] h3)⟩
set_option maxRecDepth 20000 in
set_option maxHeartbeats 1000000 in
theorem M_inst_Read_z_w {W : Base} {w : World}   (h : Sat W w [])  (hm : M_inst_Read_z = some ()) :
    Calls Try.prog 53 #[(.pointer none)] w (Ret fun v w' => v = (.tuple #[(.agg (bytesV (List.ofFn (n := 20) (fun _ => 0)) ++ ([(.int .u64 0), (.int .u64 0), (.int .u32 0), (.bool false), (.int .u16 0), (.int .u16 0), (.int .u16 0), (.string (str ([] : List UInt8)))] : List Value)).toArray), (.bool false)]) ∧ Sat W w' []) := by
  unfold M_inst_Read_z at hm
  refine C.enter (N := 58) Try.func53 rfl Try.ntmps53 rfl ?_
  show C _ _ _ [(0, (.pointer none))] _ _
  refine C.seq ?_
  refine C.region ?_
  refine G.does (does_alloc (cs := (bytesV (List.ofFn (n := 20) (fun _ => 0)) ++ ([(.int .u64 0), (.int .u64 0), (.int .u32 0), (.bool false), (.int .u16 0), (.int .u16 0), (.int .u16 0), (.string (str ([] : List UInt8)))] : List Value))) h z47 rfl) rfl rfl rfl ?_
  rintro _ w2 ⟨b1, rfl, h3⟩
  refine G.yl (yl_assign rfl) rfl rfl rfl ?_
  refine G.nil ?_
  refine QA.then_normal ?_
  refine C.seq ?_
  refine C.region ?_
  refine G.does (does_alloc (cs := (bytesV (List.ofFn (n := 20) (fun _ => 0)) ++ ([(.int .u64 0), (.int .u64 0), (.int .u32 0), (.bool false), (.int .u16 0), (.int .u16 0), (.int .u16 0), (.string (str ([] : List UInt8)))] : List Value))) h3 z47 rfl) rfl rfl rfl ?_
  rintro _ w5 ⟨b4, rfl, h6⟩
  refine G.nil ?_
  refine QA.then_normal ?_
  refine C.seq ?_
  refine C.draw (V := fun w' => True) (nd := []) (sp := []) (n := 5) rfl h6 rfl rfl ?_
  intro w7 h8
  have hS9 : Cls (fun w' => True) [] [] #[false, false, false, false, false] w7 := Cls.keep (trivial) (by kernel_rfl)
  refine GH.yl (i := 0) (listed' := #[true, false, false, false, false]) rfl (by kernel_rfl) rfl (NP.next NP.body) rfl rfl rfl (fun w' => yl_fieldAddr fo47_0 rfl) hS9 (fun hS10 => ?_)
  refine GH.yl (i := 1) (listed' := #[true, true, false, false, false]) rfl (by kernel_rfl) rfl (NP.next NP.body) rfl rfl rfl (fun w' => yl_slice_arr (n := 20) (l := 0) (h := 20) (s := 1) (v := (.slice (some ⟨b4, 0, none⟩) 20 20)) Try.underlying43 (by kernel_rfl) (by kernel_rfl) rfl rfl rfl (by decide) (by decide) rfl) hS10 (fun hS11 => ?_)
  refine GH.yl (i := 2) (listed' := #[true, true, true, false, false]) rfl (by kernel_rfl) rfl (NP.next NP.body) rfl rfl rfl (fun w' => yl_move rfl) hS11 (fun hS12 => ?_)
  obtain ⟨_, hy13, hm⟩ := sp_bind hm
  refine GH.does (i := 3) (listed' := #[true, true, true, true, false]) rfl (by kernel_rfl) rfl rfl rfl rfl (does_fn 0 rfl rfl rfl en110 h8 (fun U hU hp hr hs => M_octet_Reader_Take_z_w (n := 20) hp hy13)) ?_
  rintro _ w14 ⟨U17, hb18, rfl, h16⟩
  have h15 : Sat W w14 [blk b4 (bytesV (List.ofFn (n := 20) (fun _ => 0)) ++ ([(.int .u64 0), (.int .u64 0), (.int .u32 0), (.bool false), (.int .u16 0), (.int .u16 0), (.int .u16 0), (.string (str ([] : List UInt8)))] : List Value)) 47, blk b1 (bytesV (List.ofFn (n := 20) (fun _ => 0)) ++ ([(.int .u64 0), (.int .u64 0), (.int .u32 0), (.bool false), (.int .u16 0), (.int .u16 0), (.int .u16 0), (.string (str ([] : List UInt8)))] : List Value)) 47] := hb18 h16
  have hS19 : Cls (fun w' => True) [] [] #[true, true, true, true, false] w14 := Cls.keep (trivial) (by kernel_rfl)
  refine ⟨hS19, ?_⟩
  refine GH.does (i := 4) (listed' := #[true, true, true, true, true]) rfl (by kernel_rfl) rfl rfl rfl rfl (does_cpAH (l := ([] : List UInt8)) h15 Try.underlying49 sz5 rfl rfl rfl (View.nil _ _) rfl) ?_
  rintro _ w20 ⟨rfl, h21⟩
  have hS22 : Cls (fun w' => True) [] [] #[true, true, true, true, true] w20 := Cls.keep (trivial) (by kernel_rfl)
  refine ⟨hS22, ?_⟩
  refine GH.done (by kernel_rfl) ?_
  refine QA.then_normal ?_
  refine C.seq ?_
  refine C.region ?_
  refine G.yl (yl_move rfl) rfl rfl rfl ?_
  obtain ⟨_, hy23, hm⟩ := sp_bind hm
  refine G.does (does_fn 0 rfl rfl rfl en111 h21 (fun U hU hp hr hs => M_octet_Reader_Num_z_w (width := 8) hp hy23)) rfl rfl rfl ?_
  rintro _ w24 ⟨U27, hb28, rfl, h26⟩
  have h25 : Sat W w24 [blk b4 (bytesV (List.ofFn (n := 20) (copyA (fun _ => 0) ([] : List UInt8))) ++ ([(.int .u64 0), (.int .u64 0), (.int .u32 0), (.bool false), (.int .u16 0), (.int .u16 0), (.int .u16 0), (.string (str ([] : List UInt8)))] : List Value)) 47, blk b1 (bytesV (List.ofFn (n := 20) (fun _ => 0)) ++ ([(.int .u64 0), (.int .u64 0), (.int .u32 0), (.bool false), (.int .u16 0), (.int .u16 0), (.int .u16 0), (.string (str ([] : List UInt8)))] : List Value)) 47] := hb28 h26
  refine G.yl (yl_move rfl) rfl rfl rfl ?_
  obtain ⟨_, hy29, hm⟩ := sp_bind hm
  refine G.does (does_fn 0 rfl rfl rfl en111 h25 (fun U hU hp hr hs => M_octet_Reader_Num_z_w (width := 8) hp hy29)) rfl rfl rfl ?_
  rintro _ w30 ⟨U33, hb34, rfl, h32⟩
  have h31 : Sat W w30 [blk b4 (bytesV (List.ofFn (n := 20) (copyA (fun _ => 0) ([] : List UInt8))) ++ ([(.int .u64 0), (.int .u64 0), (.int .u32 0), (.bool false), (.int .u16 0), (.int .u16 0), (.int .u16 0), (.string (str ([] : List UInt8)))] : List Value)) 47, blk b1 (bytesV (List.ofFn (n := 20) (fun _ => 0)) ++ ([(.int .u64 0), (.int .u64 0), (.int .u32 0), (.bool false), (.int .u16 0), (.int .u16 0), (.int .u16 0), (.string (str ([] : List UInt8)))] : List Value)) 47] := hb34 h32
  refine G.yl (yl_move rfl) rfl rfl rfl ?_
  obtain ⟨_, hy35, hm⟩ := sp_bind hm
  refine G.does (does_fn 0 rfl rfl rfl en111 h31 (fun U hU hp hr hs => M_octet_Reader_Num_z_w (width := 4) hp hy35)) rfl rfl rfl ?_
  rintro _ w36 ⟨U39, hb40, rfl, h38⟩
  have h37 : Sat W w36 [blk b4 (bytesV (List.ofFn (n := 20) (copyA (fun _ => 0) ([] : List UInt8))) ++ ([(.int .u64 0), (.int .u64 0), (.int .u32 0), (.bool false), (.int .u16 0), (.int .u16 0), (.int .u16 0), (.string (str ([] : List UInt8)))] : List Value)) 47, blk b1 (bytesV (List.ofFn (n := 20) (fun _ => 0)) ++ ([(.int .u64 0), (.int .u64 0), (.int .u32 0), (.bool false), (.int .u16 0), (.int .u16 0), (.int .u16 0), (.string (str ([] : List UInt8)))] : List Value)) 47] := hb40 h38
  refine G.yl (yl_64to32 (a := 0) us28 Try.underlying44 rfl) rfl rfl rfl ?_
  refine G.yl (yl_fieldAddr fo47_1 rfl) rfl rfl rfl ?_
  refine G.unit (does_store (vs := [(.int .u64 0)]) h37 sz28 rfl rfl rfl (by simp [bytesV_length]) (List.forall_mem_cons.2 ⟨rfl, (fun _ hh => by cases hh)⟩) (by simp [bytesV_length])) rfl rfl ?_
  rintro _ w41 h43
  have h42 : Sat W w41 [blk b4 (bytesV (List.ofFn (n := 20) (copyA (fun _ => 0) ([] : List UInt8))) ++ ([(.int .u64 0), (.int .u64 0), (.int .u32 0), (.bool false), (.int .u16 0), (.int .u16 0), (.int .u16 0), (.string (str ([] : List UInt8)))] : List Value)) 47, blk b1 (bytesV (List.ofFn (n := 20) (fun _ => 0)) ++ ([(.int .u64 0), (.int .u64 0), (.int .u32 0), (.bool false), (.int .u16 0), (.int .u16 0), (.int .u16 0), (.string (str ([] : List UInt8)))] : List Value)) 47] := sl_blk (by kernel_rfl) h43
  refine G.yl (yl_fieldAddr fo47_2 rfl) rfl rfl rfl ?_
  refine G.unit (does_store (vs := [(.int .u64 0)]) h42 sz28 rfl rfl rfl (by simp [bytesV_length]) (List.forall_mem_cons.2 ⟨rfl, (fun _ hh => by cases hh)⟩) (by simp [bytesV_length])) rfl rfl ?_
  rintro _ w44 h46
  have h45 : Sat W w44 [blk b4 (bytesV (List.ofFn (n := 20) (copyA (fun _ => 0) ([] : List UInt8))) ++ ([(.int .u64 0), (.int .u64 0), (.int .u32 0), (.bool false), (.int .u16 0), (.int .u16 0), (.int .u16 0), (.string (str ([] : List UInt8)))] : List Value)) 47, blk b1 (bytesV (List.ofFn (n := 20) (fun _ => 0)) ++ ([(.int .u64 0), (.int .u64 0), (.int .u32 0), (.bool false), (.int .u16 0), (.int .u16 0), (.int .u16 0), (.string (str ([] : List UInt8)))] : List Value)) 47] := sl_blk (by kernel_rfl) h46
  refine G.yl (yl_fieldAddr fo47_3 rfl) rfl rfl rfl ?_
  refine G.unit (does_store (vs := [(v32 ((0 : UInt64).toUInt32))]) h45 sz44 rfl rfl rfl (by simp [bytesV_length]) (List.forall_mem_cons.2 ⟨rfl, (fun _ hh => by cases hh)⟩) (by simp [bytesV_length])) rfl rfl ?_
  rintro _ w47 h49
  have h48 : Sat W w47 [blk b4 (bytesV (List.ofFn (n := 20) (copyA (fun _ => 0) ([] : List UInt8))) ++ ([(.int .u64 0), (.int .u64 0), (v32 ((0 : UInt64).toUInt32)), (.bool false), (.int .u16 0), (.int .u16 0), (.int .u16 0), (.string (str ([] : List UInt8)))] : List Value)) 47, blk b1 (bytesV (List.ofFn (n := 20) (fun _ => 0)) ++ ([(.int .u64 0), (.int .u64 0), (.int .u32 0), (.bool false), (.int .u16 0), (.int .u16 0), (.int .u16 0), (.string (str ([] : List UInt8)))] : List Value)) 47] := sl_blk (by kernel_rfl) h49
  refine G.nil ?_
  refine QA.then_normal ?_
  refine C.seq ?_
  refine C.region ?_
  refine G.yl (yl_move rfl) rfl rfl rfl ?_
  obtain ⟨_, hy50, hm⟩ := sp_bind hm
  refine G.does (does_fn 0 rfl rfl rfl en111 h48 (fun U hU hp hr hs => M_octet_Reader_Num_z_w (width := 1) hp hy50)) rfl rfl rfl ?_
  rintro _ w51 ⟨U54, hb55, rfl, h53⟩
  have h52 : Sat W w51 [blk b4 (bytesV (List.ofFn (n := 20) (copyA (fun _ => 0) ([] : List UInt8))) ++ ([(.int .u64 0), (.int .u64 0), (v32 ((0 : UInt64).toUInt32)), (.bool false), (.int .u16 0), (.int .u16 0), (.int .u16 0), (.string (str ([] : List UInt8)))] : List Value)) 47, blk b1 (bytesV (List.ofFn (n := 20) (fun _ => 0)) ++ ([(.int .u64 0), (.int .u64 0), (.int .u32 0), (.bool false), (.int .u16 0), (.int .u16 0), (.int .u16 0), (.string (str ([] : List UInt8)))] : List Value)) 47] := hb55 h53
  refine G.yl (yl_assign rfl) rfl rfl rfl ?_
  refine G.nil ?_
  refine QA.then_normal ?_
  refine C.seq ?_
  refine C.region ?_
  refine G.yl (yl_move rfl) rfl rfl rfl ?_
  refine G.yl (yl_eq64 (a := 0) (b := 1) rfl rfl) rfl rfl rfl ?_
  refine G.yl (yl_fieldAddr fo47_4 rfl) rfl rfl rfl ?_
  refine G.unit (does_store (vs := [(.bool (decide ((0 : UInt64) = 1)))]) h52 sz4 rfl rfl rfl (by simp [bytesV_length]) (List.forall_mem_cons.2 ⟨rfl, (fun _ hh => by cases hh)⟩) (by simp [bytesV_length])) rfl rfl ?_
  rintro _ w56 h58
  have h57 : Sat W w56 [blk b4 (bytesV (List.ofFn (n := 20) (copyA (fun _ => 0) ([] : List UInt8))) ++ ([(.int .u64 0), (.int .u64 0), (v32 ((0 : UInt64).toUInt32)), (.bool (decide ((0 : UInt64) = 1))), (.int .u16 0), (.int .u16 0), (.int .u16 0), (.string (str ([] : List UInt8)))] : List Value)) 47, blk b1 (bytesV (List.ofFn (n := 20) (fun _ => 0)) ++ ([(.int .u64 0), (.int .u64 0), (.int .u32 0), (.bool false), (.int .u16 0), (.int .u16 0), (.int .u16 0), (.string (str ([] : List UInt8)))] : List Value)) 47] := sl_blk (by kernel_rfl) h58
  refine G.nil ?_
  refine QA.then_normal ?_
  refine C.seq ?_
  refine C.seq ?_
  refine C.region ?_
  refine G.yl (yl_move rfl) rfl rfl rfl ?_
  refine G.yl (yl_eq64 (a := 0) (b := 0) rfl rfl) rfl rfl rfl ?_
  refine G.nil ?_
  refine QA.then_normal ?_
  refine C.cond_t rfl (by decide) ?_
  refine C.seq ?_
  refine C.region ?_
  refine G.yl (yl_move rfl) rfl rfl rfl ?_
  obtain ⟨_, hy59, hm⟩ := sp_bind hm
  refine G.does (does_fn 0 rfl rfl rfl en111 h57 (fun U hU hp hr hs => M_octet_Reader_Num_z_w (width := 2) hp hy59)) rfl rfl rfl ?_
  rintro _ w60 ⟨U63, hb64, rfl, h62⟩
  have h61 : Sat W w60 [blk b4 (bytesV (List.ofFn (n := 20) (copyA (fun _ => 0) ([] : List UInt8))) ++ ([(.int .u64 0), (.int .u64 0), (v32 ((0 : UInt64).toUInt32)), (.bool (decide ((0 : UInt64) = 1))), (.int .u16 0), (.int .u16 0), (.int .u16 0), (.string (str ([] : List UInt8)))] : List Value)) 47, blk b1 (bytesV (List.ofFn (n := 20) (fun _ => 0)) ++ ([(.int .u64 0), (.int .u64 0), (.int .u32 0), (.bool false), (.int .u16 0), (.int .u16 0), (.int .u16 0), (.string (str ([] : List UInt8)))] : List Value)) 47] := hb64 h62
  refine G.yl (yl_64to16 (a := 0) us28 Try.underlying45 rfl) rfl rfl rfl ?_
  refine G.yl (yl_move rfl) rfl rfl rfl ?_
  obtain ⟨_, hy65, hm⟩ := sp_bind hm
  refine G.does (does_fn 0 rfl rfl rfl en111 h61 (fun U hU hp hr hs => M_octet_Reader_Num_z_w (width := 2) hp hy65)) rfl rfl rfl ?_
  rintro _ w66 ⟨U69, hb70, rfl, h68⟩
  have h67 : Sat W w66 [blk b4 (bytesV (List.ofFn (n := 20) (copyA (fun _ => 0) ([] : List UInt8))) ++ ([(.int .u64 0), (.int .u64 0), (v32 ((0 : UInt64).toUInt32)), (.bool (decide ((0 : UInt64) = 1))), (.int .u16 0), (.int .u16 0), (.int .u16 0), (.string (str ([] : List UInt8)))] : List Value)) 47, blk b1 (bytesV (List.ofFn (n := 20) (fun _ => 0)) ++ ([(.int .u64 0), (.int .u64 0), (.int .u32 0), (.bool false), (.int .u16 0), (.int .u16 0), (.int .u16 0), (.string (str ([] : List UInt8)))] : List Value)) 47] := hb70 h68
  refine G.yl (yl_64to16 (a := 0) us28 Try.underlying45 rfl) rfl rfl rfl ?_
  refine G.yl (yl_move rfl) rfl rfl rfl ?_
  obtain ⟨_, hy71, hm⟩ := sp_bind hm
  refine G.does (does_fn 0 rfl rfl rfl en111 h67 (fun U hU hp hr hs => M_octet_Reader_Num_z_w (width := 2) hp hy71)) rfl rfl rfl ?_
  rintro _ w72 ⟨U75, hb76, rfl, h74⟩
  have h73 : Sat W w72 [blk b4 (bytesV (List.ofFn (n := 20) (copyA (fun _ => 0) ([] : List UInt8))) ++ ([(.int .u64 0), (.int .u64 0), (v32 ((0 : UInt64).toUInt32)), (.bool (decide ((0 : UInt64) = 1))), (.int .u16 0), (.int .u16 0), (.int .u16 0), (.string (str ([] : List UInt8)))] : List Value)) 47, blk b1 (bytesV (List.ofFn (n := 20) (fun _ => 0)) ++ ([(.int .u64 0), (.int .u64 0), (.int .u32 0), (.bool false), (.int .u16 0), (.int .u16 0), (.int .u16 0), (.string (str ([] : List UInt8)))] : List Value)) 47] := hb76 h74
  refine G.yl (yl_64to16 (a := 0) us28 Try.underlying45 rfl) rfl rfl rfl ?_
  refine G.yl (yl_fieldAddr fo47_5 rfl) rfl rfl rfl ?_
  refine G.unit (does_store (vs := [(v16 ((0 : UInt64).toUInt16))]) h73 sz45 rfl rfl rfl (by simp [bytesV_length]) (List.forall_mem_cons.2 ⟨rfl, (fun _ hh => by cases hh)⟩) (by simp [bytesV_length])) rfl rfl ?_
  rintro _ w77 h79
  have h78 : Sat W w77 [blk b4 (bytesV (List.ofFn (n := 20) (copyA (fun _ => 0) ([] : List UInt8))) ++ ([(.int .u64 0), (.int .u64 0), (v32 ((0 : UInt64).toUInt32)), (.bool (decide ((0 : UInt64) = 1))), (v16 ((0 : UInt64).toUInt16)), (.int .u16 0), (.int .u16 0), (.string (str ([] : List UInt8)))] : List Value)) 47, blk b1 (bytesV (List.ofFn (n := 20) (fun _ => 0)) ++ ([(.int .u64 0), (.int .u64 0), (.int .u32 0), (.bool false), (.int .u16 0), (.int .u16 0), (.int .u16 0), (.string (str ([] : List UInt8)))] : List Value)) 47] := sl_blk (by kernel_rfl) h79
  refine G.yl (yl_fieldAddr fo47_6 rfl) rfl rfl rfl ?_
  refine G.unit (does_store (vs := [(v16 ((0 : UInt64).toUInt16))]) h78 sz45 rfl rfl rfl (by simp [bytesV_length]) (List.forall_mem_cons.2 ⟨rfl, (fun _ hh => by cases hh)⟩) (by simp [bytesV_length])) rfl rfl ?_
  rintro _ w80 h82
  have h81 : Sat W w80 [blk b4 (bytesV (List.ofFn (n := 20) (copyA (fun _ => 0) ([] : List UInt8))) ++ ([(.int .u64 0), (.int .u64 0), (v32 ((0 : UInt64).toUInt32)), (.bool (decide ((0 : UInt64) = 1))), (v16 ((0 : UInt64).toUInt16)), (v16 ((0 : UInt64).toUInt16)), (.int .u16 0), (.string (str ([] : List UInt8)))] : List Value)) 47, blk b1 (bytesV (List.ofFn (n := 20) (fun _ => 0)) ++ ([(.int .u64 0), (.int .u64 0), (.int .u32 0), (.bool false), (.int .u16 0), (.int .u16 0), (.int .u16 0), (.string (str ([] : List UInt8)))] : List Value)) 47] := sl_blk (by kernel_rfl) h82
  refine G.yl (yl_fieldAddr fo47_7 rfl) rfl rfl rfl ?_
  refine G.unit (does_store (vs := [(v16 ((0 : UInt64).toUInt16))]) h81 sz45 rfl rfl rfl (by simp [bytesV_length]) (List.forall_mem_cons.2 ⟨rfl, (fun _ hh => by cases hh)⟩) (by simp [bytesV_length])) rfl rfl ?_
  rintro _ w83 h85
  have h84 : Sat W w83 [blk b4 (bytesV (List.ofFn (n := 20) (copyA (fun _ => 0) ([] : List UInt8))) ++ ([(.int .u64 0), (.int .u64 0), (v32 ((0 : UInt64).toUInt32)), (.bool (decide ((0 : UInt64) = 1))), (v16 ((0 : UInt64).toUInt16)), (v16 ((0 : UInt64).toUInt16)), (v16 ((0 : UInt64).toUInt16)), (.string (str ([] : List UInt8)))] : List Value)) 47, blk b1 (bytesV (List.ofFn (n := 20) (fun _ => 0)) ++ ([(.int .u64 0), (.int .u64 0), (.int .u32 0), (.bool false), (.int .u16 0), (.int .u16 0), (.int .u16 0), (.string (str ([] : List UInt8)))] : List Value)) 47] := sl_blk (by kernel_rfl) h85
  refine G.nil ?_
  refine QA.then_normal ?_
  refine C.region ?_
  refine G.yl (yl_move rfl) rfl rfl rfl ?_
  obtain ⟨_, hy86, hm⟩ := sp_bind hm
  refine G.does (does_fn 0 rfl rfl rfl en112 h84 (fun U hU hp hr hs => M_octet_Reader_Text_z_w (most := 1024) hp hy86)) rfl rfl rfl ?_
  rintro _ w87 ⟨U90, hb91, rfl, h89⟩
  have h88 : Sat W w87 [blk b4 (bytesV (List.ofFn (n := 20) (copyA (fun _ => 0) ([] : List UInt8))) ++ ([(.int .u64 0), (.int .u64 0), (v32 ((0 : UInt64).toUInt32)), (.bool (decide ((0 : UInt64) = 1))), (v16 ((0 : UInt64).toUInt16)), (v16 ((0 : UInt64).toUInt16)), (v16 ((0 : UInt64).toUInt16)), (.string (str ([] : List UInt8)))] : List Value)) 47, blk b1 (bytesV (List.ofFn (n := 20) (fun _ => 0)) ++ ([(.int .u64 0), (.int .u64 0), (.int .u32 0), (.bool false), (.int .u16 0), (.int .u16 0), (.int .u16 0), (.string (str ([] : List UInt8)))] : List Value)) 47] := hb91 h89
  refine G.yl (yl_fieldAddr fo47_8 rfl) rfl rfl rfl ?_
  refine G.unit (does_store (vs := [(.string (str ([] : List UInt8)))]) h88 sz9 rfl rfl rfl (by simp [bytesV_length]) (List.forall_mem_cons.2 ⟨rfl, (fun _ hh => by cases hh)⟩) (by simp [bytesV_length])) rfl rfl ?_
  rintro _ w92 h94
  have h93 : Sat W w92 [blk b4 (bytesV (List.ofFn (n := 20) (copyA (fun _ => 0) ([] : List UInt8))) ++ ([(.int .u64 0), (.int .u64 0), (v32 ((0 : UInt64).toUInt32)), (.bool (decide ((0 : UInt64) = 1))), (v16 ((0 : UInt64).toUInt16)), (v16 ((0 : UInt64).toUInt16)), (v16 ((0 : UInt64).toUInt16)), (.string (str ([] : List UInt8)))] : List Value)) 47, blk b1 (bytesV (List.ofFn (n := 20) (fun _ => 0)) ++ ([(.int .u64 0), (.int .u64 0), (.int .u32 0), (.bool false), (.int .u16 0), (.int .u16 0), (.int .u16 0), (.string (str ([] : List UInt8)))] : List Value)) 47] := sl_blk (by kernel_rfl) h94
  refine G.nil ?_
  refine QA.then_normal ?_
  refine C.seq ?_
  refine C.seq ?_
  refine C.region ?_
  refine G.yl (yl_move rfl) rfl rfl rfl ?_
  obtain ⟨_, hy95, hm⟩ := sp_bind hm
  refine G.does (does_fn 0 rfl rfl rfl en57 h93 (fun U hU hp hr hs => M_octet_Reader_Bad_z_w hp hy95)) rfl rfl rfl ?_
  rintro _ w96 ⟨U99, hb100, rfl, h98⟩
  have h97 : Sat W w96 [blk b4 (bytesV (List.ofFn (n := 20) (copyA (fun _ => 0) ([] : List UInt8))) ++ ([(.int .u64 0), (.int .u64 0), (v32 ((0 : UInt64).toUInt32)), (.bool (decide ((0 : UInt64) = 1))), (v16 ((0 : UInt64).toUInt16)), (v16 ((0 : UInt64).toUInt16)), (v16 ((0 : UInt64).toUInt16)), (.string (str ([] : List UInt8)))] : List Value)) 47, blk b1 (bytesV (List.ofFn (n := 20) (fun _ => 0)) ++ ([(.int .u64 0), (.int .u64 0), (.int .u32 0), (.bool false), (.int .u16 0), (.int .u16 0), (.int .u16 0), (.string (str ([] : List UInt8)))] : List Value)) 47] := hb100 h98
  refine G.yl (yl_move rfl) rfl rfl rfl ?_
  refine G.offU rfl rfl rfl rfl ?_
  refine G.offU rfl rfl rfl rfl ?_
  refine G.yl (yl_pick_t rfl rfl rfl) rfl rfl rfl ?_
  refine G.yl (yl_move rfl) rfl rfl rfl ?_
  refine G.offU rfl rfl rfl rfl ?_
  refine G.offU rfl rfl rfl rfl ?_
  refine G.offU rfl rfl rfl rfl ?_
  refine G.yl (yl_pick_t rfl rfl rfl) rfl rfl rfl ?_
  refine G.nil ?_
  refine QA.then_normal ?_
  refine C.cond_t rfl rfl ?_
  refine C.seq ?_
  refine C.region ?_
  refine G.yl (yl_move rfl) rfl rfl rfl ?_
  obtain ⟨_, hy101, hm⟩ := sp_bind hm
  refine G.does (does_fn 0 rfl rfl rfl en110 h97 (fun U hU hp hr hs => M_octet_Reader_Take_z_w (n := (-1)) hp hy101)) rfl rfl rfl ?_
  rintro _ w102 ⟨U105, hb106, rfl, h104⟩
  have h103 : Sat W w102 [blk b4 (bytesV (List.ofFn (n := 20) (copyA (fun _ => 0) ([] : List UInt8))) ++ ([(.int .u64 0), (.int .u64 0), (v32 ((0 : UInt64).toUInt32)), (.bool (decide ((0 : UInt64) = 1))), (v16 ((0 : UInt64).toUInt16)), (v16 ((0 : UInt64).toUInt16)), (v16 ((0 : UInt64).toUInt16)), (.string (str ([] : List UInt8)))] : List Value)) 47, blk b1 (bytesV (List.ofFn (n := 20) (fun _ => 0)) ++ ([(.int .u64 0), (.int .u64 0), (.int .u32 0), (.bool false), (.int .u16 0), (.int .u16 0), (.int .u16 0), (.string (str ([] : List UInt8)))] : List Value)) 47] := hb106 h104
  refine G.nil ?_
  refine QA.then_normal ?_
  refine C.seq ?_
  refine C.region ?_
  refine G.yl (yl_build (vs := []) (cells := (bytesV (List.ofFn (n := 20) (fun _ => 0)) ++ ([(.int .u64 0), (.int .u64 0), (.int .u32 0), (.bool false), (.int .u16 0), (.int .u16 0), (.int .u16 0), (.string (str ([] : List UInt8)))] : List Value)).toArray) rfl (by kernel_rfl)) rfl rfl rfl ?_
  refine G.unit (does_store (vs := (bytesV (List.ofFn (n := 20) (fun _ => 0)) ++ ([(.int .u64 0), (.int .u64 0), (.int .u32 0), (.bool false), (.int .u16 0), (.int .u16 0), (.int .u16 0), (.string (str ([] : List UInt8)))] : List Value))) (Sat.pick [1, 0] h103) sz47 rfl rfl rfl (by simp [bytesV_length]) (List.forall_mem_append.2 ⟨(bytesV_one _), (List.forall_mem_cons.2 ⟨rfl, (List.forall_mem_cons.2 ⟨rfl, (List.forall_mem_cons.2 ⟨rfl, (List.forall_mem_cons.2 ⟨rfl, (List.forall_mem_cons.2 ⟨rfl, (List.forall_mem_cons.2 ⟨rfl, (List.forall_mem_cons.2 ⟨rfl, (List.forall_mem_cons.2 ⟨rfl, (fun _ hh => by cases hh)⟩)⟩)⟩)⟩)⟩)⟩)⟩)⟩)⟩) (by simp [bytesV_length])) rfl rfl ?_
  rintro _ w107 h109
  have h108 : Sat W w107 [blk b1 (bytesV (List.ofFn (n := 20) (fun _ => 0)) ++ ([(.int .u64 0), (.int .u64 0), (.int .u32 0), (.bool false), (.int .u16 0), (.int .u16 0), (.int .u16 0), (.string (str ([] : List UInt8)))] : List Value)) 47, blk b4 (bytesV (List.ofFn (n := 20) (copyA (fun _ => 0) ([] : List UInt8))) ++ ([(.int .u64 0), (.int .u64 0), (v32 ((0 : UInt64).toUInt32)), (.bool (decide ((0 : UInt64) = 1))), (v16 ((0 : UInt64).toUInt16)), (v16 ((0 : UInt64).toUInt16)), (v16 ((0 : UInt64).toUInt16)), (.string (str ([] : List UInt8)))] : List Value)) 47] := sl_blk (setN_all _ _ (by simp [bytesV_length])) h109
  refine G.yl (yl_assign rfl) rfl rfl rfl ?_
  refine G.nil ?_
  refine QA.then_normal ?_
  refine C.ret ?_
  refine QA.then_ret ?_
  refine QA.ret_ct rfl (InCell.many (vs := (bytesV (List.ofFn (n := 20) (fun _ => 0)) ++ ([(.int .u64 0), (.int .u64 0), (.int .u32 0), (.bool false), (.int .u16 0), (.int .u16 0), (.int .u16 0), (.string (str ([] : List UInt8)))] : List Value))) rfl ag47 sz47 (by simp [bytesV_length]) (h108.isBlk.view0)) rfl ?_
  exact ⟨rfl, (Sat.pick [] h108)⟩
set_option maxRecDepth 20000 in
set_option maxHeartbeats 1000000 in
theorem M_octet_rest_left_po_w {W : Base} {w : World} {b : Nat} {a : Option Addr} {c : Nat} {b2 : List UInt8} {open_ : Bool} {bad : Bool}  (h : Sat W w [blk b [(.slice a b2.length c), (.bool open_), (.bool bad)] 155, ow elU8 a c 5 b2])  (hm : M_octet_rest_left_po b2 open_ bad = some ()) :
    Calls Try.prog 117 #[(.pointer (some ⟨b, 0, none⟩))] w (Ret fun v w' => v = (vI (b2.length : Int)) ∧ Sat W w' [blk b [(.slice a b2.length c), (.bool open_), (.bool bad)] 155, ow elU8 a c 5 b2]) := by
  unfold M_octet_rest_left_po at hm
  refine C.enter (N := 8) Try.func117 rfl Try.ntmps117 rfl ?_
  show C _ _ _ [(0, (.pointer (some ⟨b, 0, none⟩)))] _ _
  refine C.seq ?_
  refine C.region ?_
  refine G.yl (yl_assign rfl) rfl rfl rfl ?_
  refine G.nil ?_
  refine QA.then_normal ?_
  refine C.seq ?_
  refine C.region ?_
  refine G.yl (yl_move rfl) rfl rfl rfl ?_
  refine G.yl (yl_nilCheck rfl) rfl rfl rfl ?_
  refine G.yl (yl_fieldAddr fo153_0 rfl) rfl rfl rfl ?_
  refine G.yl (yl_load (v := (.slice a b2.length c)) ag49 rfl (View.at0 (j := 0) h.isBlk.view0 rfl)) rfl rfl rfl ?_
  refine G.yl (yl_lenE Try.underlying49 rfl) rfl rfl rfl ?_
  refine G.yl (yl_assign rfl) rfl rfl rfl ?_
  refine G.nil ?_
  refine QA.then_normal ?_
  refine C.ret ?_
  refine QA.ret1 rfl rfl ?_
  exact ⟨rfl, (Sat.pick [0, 0] h)⟩
set_option maxRecDepth 20000 in
set_option maxHeartbeats 1000000 in
theorem M_octet_Reader_Left_po_w {W : Base} {w : World} {b : Nat} {a : Option Addr} {c : Nat} {b2 : List UInt8} {open_ : Bool} {bad : Bool}  (h : Sat W w [blk b [(.slice a b2.length c), (.bool open_), (.bool bad)] 155, ow elU8 a c 5 b2]) {r1 : Int} (hm : M_octet_Reader_Left_po b2 open_ bad = some r1) :
    Calls Try.prog 55 #[(.pointer (some ⟨b, 0, none⟩))] w (Ret fun v w' => v = (vI r1) ∧ Sat W w' [blk b [(.slice a b2.length c), (.bool open_), (.bool bad)] 155, ow elU8 a c 5 b2]) := by
  unfold M_octet_Reader_Left_po at hm
  refine C.enter (N := 9) Try.func55 rfl Try.ntmps55 rfl ?_
  show C _ _ _ [(0, (.pointer (some ⟨b, 0, none⟩)))] _ _
  refine C.seq ?_
  refine C.region ?_
  refine G.yl (yl_assign rfl) rfl rfl rfl ?_
  refine G.nil ?_
  refine QA.then_normal ?_
  refine C.seq ?_
  refine C.seq ?_
  refine C.region ?_
  refine G.yl (yl_move rfl) rfl rfl rfl ?_
  obtain ⟨_, hy1, hm⟩ := sp_bind hm
  refine G.does (does_fn 2 rfl rfl rfl en116 (Sat.pick [0, 0] h) (fun U hU hp hr hs => M_octet_Reader_none_po_w (b2 := b2) (open_ := open_) (bad := bad) hp hy1)) rfl rfl rfl ?_
  rintro _ w2 ⟨U5, hb6, rfl, h4⟩
  have h3 : Sat W w2 [blk b [(.slice a b2.length c), (.bool open_), (.bool bad)] 155, ow elU8 a c 5 b2] := hb6 h4
  refine G.nil ?_
  refine QA.then_normal ?_
  rcases sp_b hm with ⟨hc7, hm⟩ | ⟨hc7, hm⟩
  · refine C.cond_f rfl (not_f hc7) ?_
    refine C.skip ?_
    refine QA.then_normal ?_
    refine C.seq ?_
    refine C.region ?_
    refine G.yl (yl_move rfl) rfl rfl rfl ?_
    refine G.yl (yl_nilCheck rfl) rfl rfl rfl ?_
    refine G.yl (yl_fieldAddr fo155_0 rfl) rfl rfl rfl ?_
    obtain ⟨_, hy8, hm⟩ := sp_bind hm
    refine G.does (does_fn 2 rfl rfl rfl en117 (Sat.pick [0, 0] h3) (fun U hU hp hr hs => M_octet_rest_left_po_w (b2 := b2) (open_ := open_) (bad := bad) hp hy8)) rfl rfl rfl ?_
    rintro _ w9 ⟨U12, hb13, rfl, h11⟩
    have h10 : Sat W w9 [blk b [(.slice a b2.length c), (.bool open_), (.bool bad)] 155, ow elU8 a c 5 b2] := hb13 h11
    refine G.yl (yl_assign rfl) rfl rfl rfl ?_
    refine G.nil ?_
    refine QA.then_normal ?_
    refine C.ret ?_
    refine QA.ret1 rfl rfl ?_
    obtain rfl := sp_ret1 hm
    exact ⟨rfl, (Sat.pick [0, 0] h10)⟩
  · refine C.cond_t rfl (not_t hc7) ?_
    refine C.seq ?_
    refine C.region ?_
    refine G.yl (yl_assign rfl) rfl rfl rfl ?_
    refine G.nil ?_
    refine QA.then_normal ?_
    refine C.ret ?_
    refine QA.then_ret ?_
    refine QA.ret1 rfl rfl ?_
    obtain rfl := sp_ret1 hm
    exact ⟨rfl, (Sat.pick [0, 0] h3)⟩
set_option maxRecDepth 20000 in
set_option maxHeartbeats 1000000 in
theorem M_signpostref01_Reader_Left_pv_w {W : Base} {w : World} {b : Nat} {a : Option Addr} {c : Nat} {B : List UInt8} {At : Int} {Bad : Bool} (hv82 : V W a (elU8.row B)) (hq83 : B.length ≤ c) (h : Sat W w [blk b [(.slice a B.length c), (vI At), (.bool Bad)] 97])  (hm : M_signpostref01_Reader_Left_pv B At Bad = some ()) :
    Calls Try.prog 56 #[(.pointer (some ⟨b, 0, none⟩))] w (Ret fun v w' => v = (vI ((B.length : Int) - At)) ∧ Sat W w' [blk b [(.slice a B.length c), (vI At), (.bool Bad)] 97]) := by
  unfold M_signpostref01_Reader_Left_pv at hm
  refine C.enter (N := 13) Try.func56 rfl Try.ntmps56 rfl ?_
  show C _ _ _ [(0, (.pointer (some ⟨b, 0, none⟩)))] _ _
  refine C.seq ?_
  refine C.region ?_
  refine G.yl (yl_assign rfl) rfl rfl rfl ?_
  refine G.nil ?_
  refine QA.then_normal ?_
  refine C.seq ?_
  refine C.draw (V := fun w' => View w' (some ⟨b, 0, none⟩) [(.slice a B.length c), (vI At), (.bool Bad)]) (nd := [3, 8]) (sp := []) (n := 11) rfl h rfl rfl ?_
  intro w1 h2
  have hS3 : Cls (fun w' => View w' (some ⟨b, 0, none⟩) [(.slice a B.length c), (vI At), (.bool Bad)]) [3, 8] [] #[false, false, false, false, false, false, false, false, false, false, false] w1 := Cls.keep (h2.isBlk.view0) (by kernel_rfl)
  refine GH.yl (i := 0) (listed' := #[true, false, false, false, false, false, false, false, false, false, false]) rfl (by kernel_rfl) rfl (NP.next NP.body) rfl rfl rfl (fun w' => yl_move rfl) hS3 (fun hS4 => ?_)
  refine GH.yl (i := 1) (listed' := #[true, true, false, false, false, false, false, false, false, false, false]) rfl (by kernel_rfl) rfl (NP.next NP.body) rfl rfl rfl (fun w' => yl_nilCheck rfl) hS4 (fun hS5 => ?_)
  refine GH.yl (i := 2) (listed' := #[true, true, true, false, false, false, false, false, false, false, false]) rfl (by kernel_rfl) rfl (NP.next NP.body) rfl rfl rfl (fun w' => yl_fieldAddr fo97_0 rfl) hS5 (fun hS6 => ?_)
  refine GH.yr (i := 3) (listed' := #[true, true, true, true, false, false, false, false, false, false, false]) rfl (by kernel_rfl) rfl rfl (NP.next NP.body) rfl rfl rfl (fun w' hw' => yl_load (v := (.slice a B.length c)) ag49 rfl (View.at0 (j := 0) hw' rfl)) hS6 (fun hS7 => ?_)
  refine GH.yl (i := 4) (listed' := #[true, true, true, true, true, false, false, false, false, false, false]) rfl (by kernel_rfl) rfl (NP.next NP.body) rfl rfl rfl (fun w' => yl_lenE Try.underlying49 rfl) hS7 (fun hS8 => ?_)
  refine GH.yl (i := 5) (listed' := #[true, true, true, true, true, true, false, false, false, false, false]) rfl (by kernel_rfl) rfl (NP.next NP.body) rfl rfl rfl (fun w' => yl_move rfl) hS8 (fun hS9 => ?_)
  refine GH.yl (i := 6) (listed' := #[true, true, true, true, true, true, true, false, false, false, false]) rfl (by kernel_rfl) rfl (NP.next NP.body) rfl rfl rfl (fun w' => yl_nilCheck rfl) hS9 (fun hS10 => ?_)
  refine GH.yl (i := 7) (listed' := #[true, true, true, true, true, true, true, true, false, false, false]) rfl (by kernel_rfl) rfl (NP.next NP.body) rfl rfl rfl (fun w' => yl_fieldAddr fo97_1 rfl) hS10 (fun hS11 => ?_)
  refine GH.yr (i := 8) (listed' := #[true, true, true, true, true, true, true, true, true, false, false]) rfl (by kernel_rfl) rfl rfl (NP.next NP.body) rfl rfl rfl (fun w' hw' => yl_load (v := (vI At)) ag3 rfl (View.at0 (j := 1) hw' rfl)) hS11 (fun hS12 => ?_)
  obtain ⟨hc13, hm⟩ := sp_chk hm
  refine GH.yl (i := 9) (listed' := #[true, true, true, true, true, true, true, true, true, true, false]) rfl (by kernel_rfl) rfl (NP.next NP.body) rfl rfl rfl (fun w' => yl_subI rfl rfl hc13) hS12 (fun hS14 => ?_)
  refine GH.yl (i := 10) (listed' := #[true, true, true, true, true, true, true, true, true, true, true]) rfl (by kernel_rfl) rfl (NP.next NP.body) rfl rfl rfl (fun w' => yl_assign rfl) hS14 (fun hS15 => ?_)
  refine GH.done (by kernel_rfl) ?_
  refine QA.then_normal ?_
  refine C.ret ?_
  refine QA.ret1 rfl rfl ?_
  exact ⟨rfl, (Sat.pick [0] h2)⟩
end Go.Proofs.Ytgabplankmljfaa
