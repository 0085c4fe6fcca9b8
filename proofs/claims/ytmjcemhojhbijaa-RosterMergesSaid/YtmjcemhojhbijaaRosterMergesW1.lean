/-
  That the functions of the program compute what their Lean functions say, part 1. No condition.
-/
import Derived.Test.YtmjcemhojhbijaaRosterMergesW0
namespace Go.Proofs.Ytmjcemhojhbijaa
open Go Go.RowKit
set_option linter.unusedVariables false
set_option linter.unusedSimpArgs false
set_option linter.unnecessarySimpa false
set_option maxRecDepth 20000 in
set_option maxHeartbeats 1000000 in
theorem M_slices_BinarySearchFunc_ID_v_roster_order_w {W : Base} {w : World} {a : Option Addr} {c : Nat} {x : List G_api_Instance} {target : Fin 20 → UInt8} (hv_x : V W a (el_G_api_Instance.row x)) (hq_x : x.length ≤ c) (h : Sat W w []) {r1 : Int} {r2 : Bool} (hm : M_slices_BinarySearchFunc_ID_v_roster_order x target = some (r1, r2)) :
    Calls Try.prog 24 #[(.slice a x.length c), (.agg (bytesV (List.ofFn (n := 20) target)).toArray), (.func (.func 25) #[] #[])] w (Ret fun v w' => v = (.tuple #[(vI r1), (.bool r2)]) ∧ Sat W w' []) := by
  unfold M_slices_BinarySearchFunc_ID_v_roster_order at hm
  refine C.enter (N := 49) Try.func24 rfl Try.ntmps24 rfl ?_
  show C _ _ _ [(0, (.slice a x.length c)), (1, (.agg (bytesV (List.ofFn (n := 20) target)).toArray)), (2, (.func (.func 25) #[] #[]))] _ _
  refine C.seq ?_
  refine C.region ?_
  refine G.does (does_box (cs := (bytesV (List.ofFn (n := 20) target))) h rfl rfl) rfl rfl rfl ?_
  rintro _ w2 ⟨b1, rfl, h3⟩
  refine G.yl (yl_assign rfl) rfl rfl rfl ?_
  refine G.yl (yl_assign rfl) rfl rfl rfl ?_
  refine G.nil ?_
  refine QA.then_normal ?_
  refine C.seq ?_
  refine C.region ?_
  refine G.yl (yl_move rfl) rfl rfl rfl ?_
  refine G.yl (yl_lenE Try.underlying22 rfl) rfl rfl rfl ?_
  refine G.yl (yl_assign rfl) rfl rfl rfl ?_
  refine G.nil ?_
  refine QA.then_normal ?_
  refine C.seq ?_
  refine C.region ?_
  refine G.yl (yl_move rfl) rfl rfl rfl ?_
  refine G.yl (yl_assign rfl) rfl rfl rfl ?_
  refine G.yl (yl_assign rfl) rfl rfl rfl ?_
  refine G.nil ?_
  refine QA.then_normal ?_
  refine C.seq ?_
  refine C.block ?_
  obtain ⟨o, ho4, hm5⟩ := sp_bind hm
  refine C.left (γ := Int) (.exit 0) (fun g => match g with | i_2 => [(0, (.slice a x.length c)), (2, (.func (.func 25) #[] #[])), (4, (.pointer (some ⟨b1, 0, none⟩))), (6, (vI 0)), (7, (.bool false)), (8, (vI (x.length : Int))), (9, (vI i_2))]) (fun g ww => match g with | i_2 => i_2 = o ∧ Sat W ww [blk b1 (bytesV (List.ofFn (n := 20) target)) 26]) ?_ ?_
  · refine C.loopO (γ := Int × Int) (fun g => match g with | (i, j) => [(0, (.slice a x.length c)), (2, (.func (.func 25) #[] #[])), (4, (.pointer (some ⟨b1, 0, none⟩))), (6, (vI 0)), (7, (.bool false)), (8, (vI (x.length : Int))), (9, (vI i)), (10, (vI j))]) (fun g ww => match g with | (i, j) => Sat W ww [blk b1 (bytesV (List.ofFn (n := 20) target)) 26]) (fun g => match g with | (i, j) => (i, j)) (0, (x.length : Int)) ho4 (Sub.of ⟨rfl, rfl, rfl, rfl, rfl, rfl, rfl, rfl, trivial⟩) (Sat.pick [0] h3) ?_
    rintro ⟨i, j⟩ k8 w6 y_ h7 hm hg9
    show C _ _ _ [(0, (.slice a x.length c)), (2, (.func (.func 25) #[] #[])), (4, (.pointer (some ⟨b1, 0, none⟩))), (6, (vI 0)), (7, (.bool false)), (8, (vI (x.length : Int))), (9, (vI i)), (10, (vI j))] _ _
    change M_slices_BinarySearchFunc_ID_v_roster_order_b1 target x i j = some y_ at hm
    unfold M_slices_BinarySearchFunc_ID_v_roster_order_b1 at hm
    refine C.seq ?_
    refine C.seq ?_
    refine C.region ?_
    refine G.yl (yl_move rfl) rfl rfl rfl ?_
    refine G.yl (yl_move rfl) rfl rfl rfl ?_
    refine G.yl (yl_ltI rfl rfl) rfl rfl rfl ?_
    refine G.nil ?_
    refine QA.then_normal ?_
    rcases sp_ite hm with ⟨hc10, hm⟩ | ⟨hc10, hm⟩
    · refine C.cond_t rfl (dec_t hc10) ?_
      refine C.skip ?_
      refine QA.then_normal ?_
      refine C.block ?_
      refine C.seq ?_
      refine C.region ?_
      refine G.yl (yl_move rfl) rfl rfl rfl ?_
      refine G.yl (yl_move rfl) rfl rfl rfl ?_
      obtain ⟨hc11, hm⟩ := sp_chk hm
      refine G.yl (yl_addI rfl rfl hc11) rfl rfl rfl ?_
      refine G.yl (yl_I64 us3 Try.underlying79 rfl) rfl rfl rfl ?_
      refine G.yl (yl_shr64 rfl rfl (by decide)) rfl rfl rfl ?_
      obtain ⟨hc12, hm⟩ := sp_chk hm
      refine G.yl (yl_64I us79 Try.underlying3 rfl hc12) rfl rfl rfl ?_
      refine G.yl (yl_assign rfl) rfl rfl rfl ?_
      refine G.nil ?_
      refine QA.then_normal ?_
      refine C.seq ?_
      refine C.draw (V := fun w' => View w' a (el_G_api_Instance.row x) ∧ View w' (some ⟨b1, 0, none⟩) (bytesV (List.ofFn (n := 20) target))) (nd := [4, 5]) (sp := []) (n := 8) rfl h7 rfl rfl ?_
      intro w13 h14
      have hS15 : Cls (fun w' => View w' a (el_G_api_Instance.row x) ∧ View w' (some ⟨b1, 0, none⟩) (bytesV (List.ofFn (n := 20) target))) [4, 5] [] #[false, false, false, false, false, false, false, false] w13 := Cls.keep (⟨(hv_x.at_ h14), h14.isBlk.view0⟩) (by kernel_rfl)
      refine GH.yl (i := 0) (listed' := #[true, false, false, false, false, false, false, false]) rfl (by kernel_rfl) rfl (NP.next (NP.block (NP.next (NP.left (by simp) (NP.block (NP.next NP.body)))))) rfl rfl rfl (fun w' => yl_move rfl) hS15 (fun hS16 => ?_)
      refine GH.yl (i := 1) (listed' := #[true, true, false, false, false, false, false, false]) rfl (by kernel_rfl) rfl (NP.next (NP.block (NP.next (NP.left (by simp) (NP.block (NP.next NP.body)))))) rfl rfl rfl (fun w' => yl_move rfl) hS16 (fun hS17 => ?_)
      refine GH.yl (i := 2) (listed' := #[true, true, true, false, false, false, false, false]) rfl (by kernel_rfl) rfl (NP.next (NP.block (NP.next (NP.left (by simp) (NP.block (NP.next NP.body)))))) rfl rfl rfl (fun w' => yl_move rfl) hS17 (fun hS18 => ?_)
      obtain ⟨x_2, hy19, hm⟩ := sp_bind hm
      refine GH.yl (i := 3) (listed' := #[true, true, true, true, false, false, false, false]) rfl (by kernel_rfl) rfl (NP.next (NP.block (NP.next (NP.left (by simp) (NP.block (NP.next NP.body)))))) rfl rfl rfl (fun w' => yl_ixP (l := x) sl22 rfl rfl (View.isA (E := el_G_api_Instance) (hv_x.at_ h14) (by decide) (at?_lt hy19)) rfl (at?_lt hy19)) hS18 (fun hS20 => ?_)
      refine GH.yr (i := 4) (listed' := #[true, true, true, true, true, false, false, false]) rfl (by kernel_rfl) rfl rfl (NP.next (NP.block (NP.next (NP.left (by simp) (NP.block (NP.next NP.body)))))) rfl rfl rfl (fun w' hw' => yl_ldE (E := el_G_api_Instance) ag31 sz31 rfl (hw'.1) (at?_some hy19).2) hS20 (fun hS21 => ?_)
      refine GH.yr (i := 5) (listed' := #[true, true, true, true, true, true, false, false]) rfl (by kernel_rfl) rfl rfl (NP.next (NP.block (NP.next (NP.left (by simp) (NP.block (NP.next NP.body)))))) rfl rfl rfl (fun w' hw' => yl_loadN (vs := (bytesV (List.ofFn (n := 20) target))) ag26 sz26 (by simp [bytesV_length]) rfl (hw'.2)) hS21 (fun hS22 => ?_)
      obtain ⟨_, hy23, hm⟩ := sp_bind hm
      refine GH.does (i := 6) (listed' := #[true, true, true, true, true, true, true, false]) rfl (by kernel_rfl) rfl rfl rfl rfl (does_fn 0 rfl rfl rfl en25 h14 (fun U hU hp hr hs => M_roster_order_w (i := x_2) (publisher := target) hp hy23)) ?_
      rintro _ w24 ⟨U27, hb28, rfl, h26⟩
      have h25 : Sat W w24 [blk b1 (bytesV (List.ofFn (n := 20) target)) 26] := hb28 h26
      have hS29 : Cls (fun w' => View w' a (el_G_api_Instance.row x) ∧ View w' (some ⟨b1, 0, none⟩) (bytesV (List.ofFn (n := 20) target))) [4, 5] [] #[true, true, true, true, true, true, true, false] w24 := Cls.keep (⟨(hv_x.at_ h25), h25.isBlk.view0⟩) (by kernel_rfl)
      refine ⟨hS29, ?_⟩
      refine GH.yl (i := 7) (listed' := #[true, true, true, true, true, true, true, true]) rfl (by kernel_rfl) rfl (NP.next (NP.block (NP.next (NP.left (by simp) (NP.block (NP.next NP.body)))))) rfl rfl rfl (fun w' => yl_ltI rfl rfl) hS29 (fun hS30 => ?_)
      refine GH.done (by kernel_rfl) ?_
      refine QA.then_normal ?_
      rcases sp_ite hm with ⟨hc31, hm⟩ | ⟨hc31, hm⟩
      · refine C.cond_t rfl (dec_t hc31) ?_
        refine C.region ?_
        refine G.yl (yl_move rfl) rfl rfl rfl ?_
        obtain ⟨hc32, hm⟩ := sp_chk hm
        refine G.yl (yl_addI rfl rfl hc32) rfl rfl rfl ?_
        refine G.yl (yl_assign rfl) rfl rfl rfl ?_
        refine G.nil ?_
        refine QA.block_normal ?_
        obtain rfl := sp_ret1 hm
        exact QA.againO (((shr64 (UInt64.ofInt (i + j)) 1).toNat : Int) + 1, j) hg9 (Sub.of ⟨rfl, rfl, rfl, rfl, rfl, rfl, rfl, rfl, trivial⟩) (Sat.pick [0] h25)
      · refine C.cond_f rfl (dec_f hc31) ?_
        refine C.region ?_
        refine G.yl (yl_move rfl) rfl rfl rfl ?_
        refine G.yl (yl_assign rfl) rfl rfl rfl ?_
        refine G.nil ?_
        refine QA.block_normal ?_
        obtain rfl := sp_ret1 hm
        exact QA.againO (i, ((shr64 (UInt64.ofInt (i + j)) 1).toNat : Int)) hg9 (Sub.of ⟨rfl, rfl, rfl, rfl, rfl, rfl, rfl, rfl, trivial⟩) (Sat.pick [0] h25)
    · refine C.cond_f rfl (dec_f hc10) ?_
      refine C.exit ?_
      refine QA.then_exit ?_
      refine QA.then_exit ?_
      obtain rfl := sp_ret1 hm
      exact QA.left i (Sub.of ⟨rfl, rfl, rfl, rfl, rfl, rfl, rfl, trivial⟩) ⟨hg9, (Sat.pick [0] h7)⟩
  · rintro i_2 w33 ⟨rfl, h34⟩
    have hm := hm5
    show QA _ _ [(0, (.slice a x.length c)), (2, (.func (.func 25) #[] #[])), (4, (.pointer (some ⟨b1, 0, none⟩))), (6, (vI 0)), (7, (.bool false)), (8, (vI (x.length : Int))), (9, (vI i_2))] _ _
    refine QA.block_here ?_
    refine QA.then_normal ?_
    refine C.seq ?_
    refine C.draw (V := fun w' => View w' a (el_G_api_Instance.row x) ∧ View w' (some ⟨b1, 0, none⟩) (bytesV (List.ofFn (n := 20) target))) (nd := [5, 6, 7, 8, 9, 10, 12]) (sp := []) (n := 16) rfl h34 rfl rfl ?_
    intro w35 h36
    have hS37 : Cls (fun w' => View w' a (el_G_api_Instance.row x) ∧ View w' (some ⟨b1, 0, none⟩) (bytesV (List.ofFn (n := 20) target))) [5, 6, 7, 8, 9, 10, 12] [] #[false, false, false, false, false, false, false, false, false, false, false, false, false, false, false, false] w35 := Cls.keep (⟨(hv_x.at_ h36), h36.isBlk.view0⟩) (by kernel_rfl)
    refine GH.yl (i := 0) (listed' := #[true, false, false, false, false, false, false, false, false, false, false, false, false, false, false, false]) rfl (by kernel_rfl) rfl (NP.next NP.body) rfl rfl rfl (fun w' => yl_move rfl) hS37 (fun hS38 => ?_)
    refine GH.yl (i := 1) (listed' := #[true, true, false, false, false, false, false, false, false, false, false, false, false, false, false, false]) rfl (by kernel_rfl) rfl (NP.next NP.body) rfl rfl rfl (fun w' => yl_move rfl) hS38 (fun hS39 => ?_)
    refine GH.yl (i := 2) (listed' := #[true, true, true, false, false, false, false, false, false, false, false, false, false, false, false, false]) rfl (by kernel_rfl) rfl (NP.next NP.body) rfl rfl rfl (fun w' => yl_move rfl) hS39 (fun hS40 => ?_)
    refine GH.yl (i := 3) (listed' := #[true, true, true, true, false, false, false, false, false, false, false, false, false, false, false, false]) rfl (by kernel_rfl) rfl (NP.next NP.body) rfl rfl rfl (fun w' => yl_ltI rfl rfl) hS40 (fun hS41 => ?_)
    refine GH.yl (i := 4) (listed' := #[true, true, true, true, true, false, false, false, false, false, false, false, false, false, false, false]) rfl (by kernel_rfl) rfl (NP.next NP.body) rfl rfl rfl (fun w' => yl_move rfl) hS41 (fun hS42 => ?_)
    rcases sp_ite hm with ⟨hc43, hm⟩ | ⟨hc43, hm⟩
    · refine GH.on (i := 5) (listed' := #[true, true, true, true, true, true, false, false, false, false, false, false, false, false, false, false]) rfl (by kernel_rfl) rfl rfl (NP.next NP.body) rfl rfl rfl rfl (dec_t hc43) (fun w' hw' => yl_move rfl) hS42 (fun hS44 => ?_)
      refine GH.on (i := 6) (listed' := #[true, true, true, true, true, true, true, false, false, false, false, false, false, false, false, false]) rfl (by kernel_rfl) rfl rfl (NP.next NP.body) rfl rfl rfl rfl (dec_t hc43) (fun w' hw' => yl_move rfl) hS44 (fun hS45 => ?_)
      refine GH.on (i := 7) (listed' := #[true, true, true, true, true, true, true, true, false, false, false, false, false, false, false, false]) rfl (by kernel_rfl) rfl rfl (NP.next NP.body) rfl rfl rfl rfl (dec_t hc43) (fun w' hw' => yl_move rfl) hS45 (fun hS46 => ?_)
      obtain ⟨x_3, hy47, hm⟩ := sp_bind hm
      refine GH.on (i := 8) (listed' := #[true, true, true, true, true, true, true, true, true, false, false, false, false, false, false, false]) rfl (by kernel_rfl) rfl rfl (NP.next NP.body) rfl rfl rfl rfl (dec_t hc43) (fun w' hw' => yl_ixP (l := x) sl22 rfl rfl (View.isA (E := el_G_api_Instance) (hv_x.at_ h36) (by decide) (at?_lt hy47)) rfl (at?_lt hy47)) hS46 (fun hS48 => ?_)
      refine GH.on (i := 9) (listed' := #[true, true, true, true, true, true, true, true, true, true, false, false, false, false, false, false]) rfl (by kernel_rfl) rfl rfl (NP.next NP.body) rfl rfl rfl rfl (dec_t hc43) (fun w' hw' => yl_ldE (E := el_G_api_Instance) ag31 sz31 rfl (hw'.1) (at?_some hy47).2) hS48 (fun hS49 => ?_)
      refine GH.on (i := 10) (listed' := #[true, true, true, true, true, true, true, true, true, true, true, false, false, false, false, false]) rfl (by kernel_rfl) rfl rfl (NP.next NP.body) rfl rfl rfl rfl (dec_t hc43) (fun w' hw' => yl_loadN (vs := (bytesV (List.ofFn (n := 20) target))) ag26 sz26 (by simp [bytesV_length]) rfl (hw'.2)) hS49 (fun hS50 => ?_)
      obtain ⟨_, hy51, hm⟩ := sp_bind hm
      refine GH.doesOn (i := 11) (listed' := #[true, true, true, true, true, true, true, true, true, true, true, true, false, false, false, false]) rfl (by kernel_rfl) rfl rfl rfl (dec_t hc43) rfl rfl (does_fn 0 rfl rfl rfl en25 h36 (fun U hU hp hr hs => M_roster_order_w (i := x_3) (publisher := target) hp hy51)) ?_
      rintro _ w52 ⟨U55, hb56, rfl, h54⟩
      have h53 : Sat W w52 [blk b1 (bytesV (List.ofFn (n := 20) target)) 26] := hb56 h54
      have hS57 : Cls (fun w' => View w' a (el_G_api_Instance.row x) ∧ View w' (some ⟨b1, 0, none⟩) (bytesV (List.ofFn (n := 20) target))) [5, 6, 7, 8, 9, 10, 12] [] #[true, true, true, true, true, true, true, true, true, true, true, true, false, false, false, false] w52 := Cls.keep (⟨(hv_x.at_ h53), h53.isBlk.view0⟩) (by kernel_rfl)
      refine ⟨hS57, ?_⟩
      refine GH.on (i := 12) (listed' := #[true, true, true, true, true, true, true, true, true, true, true, true, true, false, false, false]) rfl (by kernel_rfl) rfl rfl (NP.next NP.body) rfl rfl rfl rfl (dec_t hc43) (fun w' hw' => yl_eqI rfl rfl) hS57 (fun hS58 => ?_)
      refine GH.yl (i := 13) (listed' := #[true, true, true, true, true, true, true, true, true, true, true, true, true, true, false, false]) rfl (by kernel_rfl) rfl (NP.next NP.body) rfl rfl rfl (fun w' => yl_pick_t rfl (dec_t hc43) rfl) hS58 (fun hS59 => ?_)
      refine GH.yl (i := 14) (listed' := #[true, true, true, true, true, true, true, true, true, true, true, true, true, true, true, false]) rfl (by kernel_rfl) rfl (NP.next NP.body) rfl rfl rfl (fun w' => yl_assign rfl) hS59 (fun hS60 => ?_)
      refine GH.yl (i := 15) (listed' := #[true, true, true, true, true, true, true, true, true, true, true, true, true, true, true, true]) rfl (by kernel_rfl) rfl (NP.next NP.body) rfl rfl rfl (fun w' => yl_assign rfl) hS60 (fun hS61 => ?_)
      refine GH.done (by kernel_rfl) ?_
      refine QA.then_normal ?_
      refine C.ret ?_
      refine QA.ret2 rfl rfl rfl ?_
      obtain ⟨rfl, rfl⟩ := sp_ret2 hm
      exact ⟨rfl, (Sat.pick [] h53)⟩
    · refine GH.off (i := 5) (listed' := #[true, true, true, true, true, true, false, false, false, false, false, false, false, false, false, false]) rfl (by kernel_rfl) rfl (NP.next NP.body) rfl rfl rfl rfl (dec_f hc43) hS42 (fun hS62 => ?_)
      refine GH.off (i := 6) (listed' := #[true, true, true, true, true, true, true, false, false, false, false, false, false, false, false, false]) rfl (by kernel_rfl) rfl (NP.next NP.body) rfl rfl rfl rfl (dec_f hc43) hS62 (fun hS63 => ?_)
      refine GH.off (i := 7) (listed' := #[true, true, true, true, true, true, true, true, false, false, false, false, false, false, false, false]) rfl (by kernel_rfl) rfl (NP.next NP.body) rfl rfl rfl rfl (dec_f hc43) hS63 (fun hS64 => ?_)
      refine GH.off (i := 8) (listed' := #[true, true, true, true, true, true, true, true, true, false, false, false, false, false, false, false]) rfl (by kernel_rfl) rfl (NP.next NP.body) rfl rfl rfl rfl (dec_f hc43) hS64 (fun hS65 => ?_)
      refine GH.off (i := 9) (listed' := #[true, true, true, true, true, true, true, true, true, true, false, false, false, false, false, false]) rfl (by kernel_rfl) rfl (NP.next NP.body) rfl rfl rfl rfl (dec_f hc43) hS65 (fun hS66 => ?_)
      refine GH.off (i := 10) (listed' := #[true, true, true, true, true, true, true, true, true, true, true, false, false, false, false, false]) rfl (by kernel_rfl) rfl (NP.next NP.body) rfl rfl rfl rfl (dec_f hc43) hS66 (fun hS67 => ?_)
      refine GH.off (i := 11) (listed' := #[true, true, true, true, true, true, true, true, true, true, true, true, false, false, false, false]) rfl (by kernel_rfl) rfl (NP.next NP.body) rfl rfl rfl rfl (dec_f hc43) hS67 (fun hS68 => ?_)
      refine GH.off (i := 12) (listed' := #[true, true, true, true, true, true, true, true, true, true, true, true, true, false, false, false]) rfl (by kernel_rfl) rfl (NP.next NP.body) rfl rfl rfl rfl (dec_f hc43) hS68 (fun hS69 => ?_)
      refine GH.yl (i := 13) (listed' := #[true, true, true, true, true, true, true, true, true, true, true, true, true, true, false, false]) rfl (by kernel_rfl) rfl (NP.next NP.body) rfl rfl rfl (fun w' => yl_pick_f rfl (dec_f hc43) rfl) hS69 (fun hS70 => ?_)
      refine GH.yl (i := 14) (listed' := #[true, true, true, true, true, true, true, true, true, true, true, true, true, true, true, false]) rfl (by kernel_rfl) rfl (NP.next NP.body) rfl rfl rfl (fun w' => yl_assign rfl) hS70 (fun hS71 => ?_)
      refine GH.yl (i := 15) (listed' := #[true, true, true, true, true, true, true, true, true, true, true, true, true, true, true, true]) rfl (by kernel_rfl) rfl (NP.next NP.body) rfl rfl rfl (fun w' => yl_assign rfl) hS71 (fun hS72 => ?_)
      refine GH.done (by kernel_rfl) ?_
      refine QA.then_normal ?_
      refine C.ret ?_
      refine QA.ret2 rfl rfl rfl ?_
      obtain ⟨rfl, rfl⟩ := sp_ret2 hm
      exact ⟨rfl, (Sat.pick [] h36)⟩
set_option maxRecDepth 20000 in
set_option maxHeartbeats 1000000 in
theorem M_cmp_isNaN_uint64_w {W : Base} {w : World} {x : UInt64}  (h : Sat W w [])  (hm : M_cmp_isNaN_uint64 x = some ()) :
    Calls Try.prog 52 #[(v64 x)] w (Ret fun v w' => v = (.bool (!(decide (x = x)))) ∧ Sat W w' []) := by
  unfold M_cmp_isNaN_uint64 at hm
  refine C.enter (N := 6) Try.func52 rfl Try.ntmps52 rfl ?_
  show C _ _ _ [(0, (v64 x))] _ _
  refine C.seq ?_
  refine C.region ?_
  refine G.yl (yl_assign rfl) rfl rfl rfl ?_
  refine G.nil ?_
  refine QA.then_normal ?_
  refine C.seq ?_
  refine C.region ?_
  refine G.yl (yl_move rfl) rfl rfl rfl ?_
  refine G.yl (yl_move rfl) rfl rfl rfl ?_
  refine G.yl (yl_ne64 rfl rfl) rfl rfl rfl ?_
  refine G.yl (yl_assign rfl) rfl rfl rfl ?_
  refine G.nil ?_
  refine QA.then_normal ?_
  refine C.ret ?_
  refine QA.ret1 rfl rfl ?_
  exact ⟨rfl, (Sat.pick [] h)⟩
set_option maxRecDepth 20000 in
set_option maxHeartbeats 1000000 in
theorem M_cmp_Compare_uint64_w {W : Base} {w : World} {x : UInt64} {y_ : UInt64}  (h : Sat W w []) {r1 : Int} (hm : M_cmp_Compare_uint64 x y_ = some r1) :
    Calls Try.prog 30 #[(v64 x), (v64 y_)] w (Ret fun v w' => v = (vI r1) ∧ Sat W w' []) := by
  unfold M_cmp_Compare_uint64 at hm
  refine C.enter (N := 20) Try.func30 rfl Try.ntmps30 rfl ?_
  show C _ _ _ [(0, (v64 x)), (1, (v64 y_))] _ _
  refine C.seq ?_
  refine C.region ?_
  refine G.yl (yl_assign rfl) rfl rfl rfl ?_
  refine G.nil ?_
  refine QA.then_normal ?_
  refine C.seq ?_
  refine C.region ?_
  refine G.yl (yl_move rfl) rfl rfl rfl ?_
  obtain ⟨_, hy1, hm⟩ := sp_bind hm
  refine G.does (does_fn 0 rfl rfl rfl en52 h (fun U hU hp hr hs => M_cmp_isNaN_uint64_w (x := x) hp hy1)) rfl rfl rfl ?_
  rintro _ w2 ⟨U5, hb6, rfl, h4⟩
  have h3 : Sat W w2 [] := hb6 h4
  refine G.yl (yl_assign rfl) rfl rfl rfl ?_
  refine G.nil ?_
  refine QA.then_normal ?_
  refine C.seq ?_
  refine C.region ?_
  refine G.yl (yl_move rfl) rfl rfl rfl ?_
  obtain ⟨_, hy7, hm⟩ := sp_bind hm
  refine G.does (does_fn 0 rfl rfl rfl en52 h3 (fun U hU hp hr hs => M_cmp_isNaN_uint64_w (x := y_) hp hy7)) rfl rfl rfl ?_
  rintro _ w8 ⟨U11, hb12, rfl, h10⟩
  have h9 : Sat W w8 [] := hb12 h10
  refine G.yl (yl_assign rfl) rfl rfl rfl ?_
  refine G.nil ?_
  refine QA.then_normal ?_
  refine C.seq ?_
  refine C.seq ?_
  refine C.region ?_
  refine G.yl (yl_move rfl) rfl rfl rfl ?_
  refine G.nil ?_
  refine QA.then_normal ?_
  refine C.cond_f rfl (not_f (dec_t rfl)) ?_
  refine C.skip ?_
  refine QA.then_normal ?_
  refine C.seq ?_
  refine C.seq ?_
  refine C.region ?_
  refine G.yl (yl_move rfl) rfl rfl rfl ?_
  refine G.nil ?_
  refine QA.then_normal ?_
  refine C.cond_f rfl (not_f (dec_t rfl)) ?_
  refine C.skip ?_
  refine QA.then_normal ?_
  refine C.seq ?_
  refine C.seq ?_
  refine C.region ?_
  refine G.yl (yl_move rfl) rfl rfl rfl ?_
  refine G.yl (yl_move rfl) rfl rfl rfl ?_
  refine G.yl (yl_lt64 rfl rfl) rfl rfl rfl ?_
  refine G.nil ?_
  refine QA.then_normal ?_
  rcases sp_ite hm with ⟨hc13, hm⟩ | ⟨hc13, hm⟩
  · refine C.cond_t rfl (dec_t hc13) ?_
    refine C.seq ?_
    refine C.region ?_
    refine G.yl (yl_assign rfl) rfl rfl rfl ?_
    refine G.nil ?_
    refine QA.then_normal ?_
    refine C.ret ?_
    refine QA.then_ret ?_
    refine QA.ret1 rfl rfl ?_
    obtain rfl := sp_ret1 hm
    exact ⟨rfl, (Sat.pick [] h9)⟩
  · refine C.cond_f rfl (dec_f hc13) ?_
    refine C.skip ?_
    refine QA.then_normal ?_
    refine C.seq ?_
    refine C.seq ?_
    refine C.region ?_
    refine G.yl (yl_move rfl) rfl rfl rfl ?_
    refine G.yl (yl_move rfl) rfl rfl rfl ?_
    refine G.yl (yl_gt64 rfl rfl) rfl rfl rfl ?_
    refine G.nil ?_
    refine QA.then_normal ?_
    rcases sp_ite hm with ⟨hc14, hm⟩ | ⟨hc14, hm⟩
    · refine C.cond_t rfl (dec_t hc14) ?_
      refine C.seq ?_
      refine C.region ?_
      refine G.yl (yl_assign rfl) rfl rfl rfl ?_
      refine G.nil ?_
      refine QA.then_normal ?_
      refine C.ret ?_
      refine QA.then_ret ?_
      refine QA.ret1 rfl rfl ?_
      obtain rfl := sp_ret1 hm
      exact ⟨rfl, (Sat.pick [] h9)⟩
    · refine C.cond_f rfl (dec_f hc14) ?_
      refine C.skip ?_
      refine QA.then_normal ?_
      refine C.seq ?_
      refine C.region ?_
      refine G.yl (yl_assign rfl) rfl rfl rfl ?_
      refine G.nil ?_
      refine QA.then_normal ?_
      refine C.ret ?_
      refine QA.ret1 rfl rfl ?_
      obtain rfl := sp_ret1 hm
      exact ⟨rfl, (Sat.pick [] h9)⟩
set_option maxRecDepth 20000 in
set_option maxHeartbeats 1000000 in
theorem M_inst_bit_w {W : Base} {w : World} {is : Bool}  (h : Sat W w []) {r1 : Int} (hm : M_inst_bit is = some r1) :
    Calls Try.prog 32 #[(.bool is)] w (Ret fun v w' => v = (vI r1) ∧ Sat W w' []) := by
  unfold M_inst_bit at hm
  refine C.enter (N := 4) Try.func32 rfl Try.ntmps32 rfl ?_
  show C _ _ _ [(0, (.bool is))] _ _
  refine C.seq ?_
  refine C.region ?_
  refine G.yl (yl_assign rfl) rfl rfl rfl ?_
  refine G.nil ?_
  refine QA.then_normal ?_
  refine C.seq ?_
  refine C.seq ?_
  refine C.region ?_
  refine G.yl (yl_move rfl) rfl rfl rfl ?_
  refine G.nil ?_
  refine QA.then_normal ?_
  rcases sp_b hm with ⟨hc1, hm⟩ | ⟨hc1, hm⟩
  · refine C.cond_t rfl hc1 ?_
    refine C.seq ?_
    refine C.region ?_
    refine G.yl (yl_assign rfl) rfl rfl rfl ?_
    refine G.nil ?_
    refine QA.then_normal ?_
    refine C.ret ?_
    refine QA.then_ret ?_
    refine QA.ret1 rfl rfl ?_
    obtain rfl := sp_ret1 hm
    exact ⟨rfl, (Sat.pick [] h)⟩
  · refine C.cond_f rfl hc1 ?_
    refine C.skip ?_
    refine QA.then_normal ?_
    refine C.seq ?_
    refine C.region ?_
    refine G.yl (yl_assign rfl) rfl rfl rfl ?_
    refine G.nil ?_
    refine QA.then_normal ?_
    refine C.ret ?_
    refine QA.ret1 rfl rfl ?_
    obtain rfl := sp_ret1 hm
    exact ⟨rfl, (Sat.pick [] h)⟩
set_option maxRecDepth 20000 in
set_option maxHeartbeats 1000000 in
theorem M_cmp_isNaN_int_w {W : Base} {w : World} {x : Int}  (h : Sat W w [])  (hm : M_cmp_isNaN_int x = some ()) :
    Calls Try.prog 53 #[(vI x)] w (Ret fun v w' => v = (.bool (!(decide (x = x)))) ∧ Sat W w' []) := by
  unfold M_cmp_isNaN_int at hm
  refine C.enter (N := 6) Try.func53 rfl Try.ntmps53 rfl ?_
  show C _ _ _ [(0, (vI x))] _ _
  refine C.seq ?_
  refine C.region ?_
  refine G.yl (yl_assign rfl) rfl rfl rfl ?_
  refine G.nil ?_
  refine QA.then_normal ?_
  refine C.seq ?_
  refine C.region ?_
  refine G.yl (yl_move rfl) rfl rfl rfl ?_
  refine G.yl (yl_move rfl) rfl rfl rfl ?_
  refine G.yl (yl_neI rfl rfl) rfl rfl rfl ?_
  refine G.yl (yl_assign rfl) rfl rfl rfl ?_
  refine G.nil ?_
  refine QA.then_normal ?_
  refine C.ret ?_
  refine QA.ret1 rfl rfl ?_
  exact ⟨rfl, (Sat.pick [] h)⟩
set_option maxRecDepth 20000 in
set_option maxHeartbeats 1000000 in
theorem M_cmp_Compare_int_w {W : Base} {w : World} {x : Int} {y_ : Int}  (h : Sat W w []) {r1 : Int} (hm : M_cmp_Compare_int x y_ = some r1) :
    Calls Try.prog 31 #[(vI x), (vI y_)] w (Ret fun v w' => v = (vI r1) ∧ Sat W w' []) := by
  unfold M_cmp_Compare_int at hm
  refine C.enter (N := 20) Try.func31 rfl Try.ntmps31 rfl ?_
  show C _ _ _ [(0, (vI x)), (1, (vI y_))] _ _
  refine C.seq ?_
  refine C.region ?_
  refine G.yl (yl_assign rfl) rfl rfl rfl ?_
  refine G.nil ?_
  refine QA.then_normal ?_
  refine C.seq ?_
  refine C.region ?_
  refine G.yl (yl_move rfl) rfl rfl rfl ?_
  obtain ⟨_, hy1, hm⟩ := sp_bind hm
  refine G.does (does_fn 0 rfl rfl rfl en53 h (fun U hU hp hr hs => M_cmp_isNaN_int_w (x := x) hp hy1)) rfl rfl rfl ?_
  rintro _ w2 ⟨U5, hb6, rfl, h4⟩
  have h3 : Sat W w2 [] := hb6 h4
  refine G.yl (yl_assign rfl) rfl rfl rfl ?_
  refine G.nil ?_
  refine QA.then_normal ?_
  refine C.seq ?_
  refine C.region ?_
  refine G.yl (yl_move rfl) rfl rfl rfl ?_
  obtain ⟨_, hy7, hm⟩ := sp_bind hm
  refine G.does (does_fn 0 rfl rfl rfl en53 h3 (fun U hU hp hr hs => M_cmp_isNaN_int_w (x := y_) hp hy7)) rfl rfl rfl ?_
  rintro _ w8 ⟨U11, hb12, rfl, h10⟩
  have h9 : Sat W w8 [] := hb12 h10
  refine G.yl (yl_assign rfl) rfl rfl rfl ?_
  refine G.nil ?_
  refine QA.then_normal ?_
  refine C.seq ?_
  refine C.seq ?_
  refine C.region ?_
  refine G.yl (yl_move rfl) rfl rfl rfl ?_
  refine G.nil ?_
  refine QA.then_normal ?_
  refine C.cond_f rfl (not_f (dec_t rfl)) ?_
  refine C.skip ?_
  refine QA.then_normal ?_
  refine C.seq ?_
  refine C.seq ?_
  refine C.region ?_
  refine G.yl (yl_move rfl) rfl rfl rfl ?_
  refine G.nil ?_
  refine QA.then_normal ?_
  refine C.cond_f rfl (not_f (dec_t rfl)) ?_
  refine C.skip ?_
  refine QA.then_normal ?_
  refine C.seq ?_
  refine C.seq ?_
  refine C.region ?_
  refine G.yl (yl_move rfl) rfl rfl rfl ?_
  refine G.yl (yl_move rfl) rfl rfl rfl ?_
  refine G.yl (yl_ltI rfl rfl) rfl rfl rfl ?_
  refine G.nil ?_
  refine QA.then_normal ?_
  rcases sp_ite hm with ⟨hc13, hm⟩ | ⟨hc13, hm⟩
  · refine C.cond_t rfl (dec_t hc13) ?_
    refine C.seq ?_
    refine C.region ?_
    refine G.yl (yl_assign rfl) rfl rfl rfl ?_
    refine G.nil ?_
    refine QA.then_normal ?_
    refine C.ret ?_
    refine QA.then_ret ?_
    refine QA.ret1 rfl rfl ?_
    obtain rfl := sp_ret1 hm
    exact ⟨rfl, (Sat.pick [] h9)⟩
  · refine C.cond_f rfl (dec_f hc13) ?_
    refine C.skip ?_
    refine QA.then_normal ?_
    refine C.seq ?_
    refine C.seq ?_
    refine C.region ?_
    refine G.yl (yl_move rfl) rfl rfl rfl ?_
    refine G.yl (yl_move rfl) rfl rfl rfl ?_
    refine G.yl (yl_gtI rfl rfl) rfl rfl rfl ?_
    refine G.nil ?_
    refine QA.then_normal ?_
    rcases sp_ite hm with ⟨hc14, hm⟩ | ⟨hc14, hm⟩
    · refine C.cond_t rfl (dec_t hc14) ?_
      refine C.seq ?_
      refine C.region ?_
      refine G.yl (yl_assign rfl) rfl rfl rfl ?_
      refine G.nil ?_
      refine QA.then_normal ?_
      refine C.ret ?_
      refine QA.then_ret ?_
      refine QA.ret1 rfl rfl ?_
      obtain rfl := sp_ret1 hm
      exact ⟨rfl, (Sat.pick [] h9)⟩
    · refine C.cond_f rfl (dec_f hc14) ?_
      refine C.skip ?_
      refine QA.then_normal ?_
      refine C.seq ?_
      refine C.region ?_
      refine G.yl (yl_assign rfl) rfl rfl rfl ?_
      refine G.nil ?_
      refine QA.then_normal ?_
      refine C.ret ?_
      refine QA.ret1 rfl rfl ?_
      obtain rfl := sp_ret1 hm
      exact ⟨rfl, (Sat.pick [] h9)⟩
set_option maxRecDepth 20000 in
set_option maxHeartbeats 1000000 in
theorem M_cmp_isNaN_uint32_w {W : Base} {w : World} {x : UInt32}  (h : Sat W w [])  (hm : M_cmp_isNaN_uint32 x = some ()) :
    Calls Try.prog 54 #[(v32 x)] w (Ret fun v w' => v = (.bool (!(decide (x = x)))) ∧ Sat W w' []) := by
  unfold M_cmp_isNaN_uint32 at hm
  refine C.enter (N := 6) Try.func54 rfl Try.ntmps54 rfl ?_
  show C _ _ _ [(0, (v32 x))] _ _
  refine C.seq ?_
  refine C.region ?_
  refine G.yl (yl_assign rfl) rfl rfl rfl ?_
  refine G.nil ?_
  refine QA.then_normal ?_
  refine C.seq ?_
  refine C.region ?_
  refine G.yl (yl_move rfl) rfl rfl rfl ?_
  refine G.yl (yl_move rfl) rfl rfl rfl ?_
  refine G.yl (yl_ne32 rfl rfl) rfl rfl rfl ?_
  refine G.yl (yl_assign rfl) rfl rfl rfl ?_
  refine G.nil ?_
  refine QA.then_normal ?_
  refine C.ret ?_
  refine QA.ret1 rfl rfl ?_
  exact ⟨rfl, (Sat.pick [] h)⟩
set_option maxRecDepth 20000 in
set_option maxHeartbeats 1000000 in
theorem M_cmp_Compare_uint32_w {W : Base} {w : World} {x : UInt32} {y_ : UInt32}  (h : Sat W w []) {r1 : Int} (hm : M_cmp_Compare_uint32 x y_ = some r1) :
    Calls Try.prog 33 #[(v32 x), (v32 y_)] w (Ret fun v w' => v = (vI r1) ∧ Sat W w' []) := by
  unfold M_cmp_Compare_uint32 at hm
  refine C.enter (N := 20) Try.func33 rfl Try.ntmps33 rfl ?_
  show C _ _ _ [(0, (v32 x)), (1, (v32 y_))] _ _
  refine C.seq ?_
  refine C.region ?_
  refine G.yl (yl_assign rfl) rfl rfl rfl ?_
  refine G.nil ?_
  refine QA.then_normal ?_
  refine C.seq ?_
  refine C.region ?_
  refine G.yl (yl_move rfl) rfl rfl rfl ?_
  obtain ⟨_, hy1, hm⟩ := sp_bind hm
  refine G.does (does_fn 0 rfl rfl rfl en54 h (fun U hU hp hr hs => M_cmp_isNaN_uint32_w (x := x) hp hy1)) rfl rfl rfl ?_
  rintro _ w2 ⟨U5, hb6, rfl, h4⟩
  have h3 : Sat W w2 [] := hb6 h4
  refine G.yl (yl_assign rfl) rfl rfl rfl ?_
  refine G.nil ?_
  refine QA.then_normal ?_
  refine C.seq ?_
  refine C.region ?_
  refine G.yl (yl_move rfl) rfl rfl rfl ?_
  obtain ⟨_, hy7, hm⟩ := sp_bind hm
  refine G.does (does_fn 0 rfl rfl rfl en54 h3 (fun U hU hp hr hs => M_cmp_isNaN_uint32_w (x := y_) hp hy7)) rfl rfl rfl ?_
  rintro _ w8 ⟨U11, hb12, rfl, h10⟩
  have h9 : Sat W w8 [] := hb12 h10
  refine G.yl (yl_assign rfl) rfl rfl rfl ?_
  refine G.nil ?_
  refine QA.then_normal ?_
  refine C.seq ?_
  refine C.seq ?_
  refine C.region ?_
  refine G.yl (yl_move rfl) rfl rfl rfl ?_
  refine G.nil ?_
  refine QA.then_normal ?_
  refine C.cond_f rfl (not_f (dec_t rfl)) ?_
  refine C.skip ?_
  refine QA.then_normal ?_
  refine C.seq ?_
  refine C.seq ?_
  refine C.region ?_
  refine G.yl (yl_move rfl) rfl rfl rfl ?_
  refine G.nil ?_
  refine QA.then_normal ?_
  refine C.cond_f rfl (not_f (dec_t rfl)) ?_
  refine C.skip ?_
  refine QA.then_normal ?_
  refine C.seq ?_
  refine C.seq ?_
  refine C.region ?_
  refine G.yl (yl_move rfl) rfl rfl rfl ?_
  refine G.yl (yl_move rfl) rfl rfl rfl ?_
  refine G.yl (yl_lt32 rfl rfl) rfl rfl rfl ?_
  refine G.nil ?_
  refine QA.then_normal ?_
  rcases sp_ite hm with ⟨hc13, hm⟩ | ⟨hc13, hm⟩
  · refine C.cond_t rfl (dec_t hc13) ?_
    refine C.seq ?_
    refine C.region ?_
    refine G.yl (yl_assign rfl) rfl rfl rfl ?_
    refine G.nil ?_
    refine QA.then_normal ?_
    refine C.ret ?_
    refine QA.then_ret ?_
    refine QA.ret1 rfl rfl ?_
    obtain rfl := sp_ret1 hm
    exact ⟨rfl, (Sat.pick [] h9)⟩
  · refine C.cond_f rfl (dec_f hc13) ?_
    refine C.skip ?_
    refine QA.then_normal ?_
    refine C.seq ?_
    refine C.seq ?_
    refine C.region ?_
    refine G.yl (yl_move rfl) rfl rfl rfl ?_
    refine G.yl (yl_move rfl) rfl rfl rfl ?_
    refine G.yl (yl_gt32 rfl rfl) rfl rfl rfl ?_
    refine G.nil ?_
    refine QA.then_normal ?_
    rcases sp_ite hm with ⟨hc14, hm⟩ | ⟨hc14, hm⟩
    · refine C.cond_t rfl (dec_t hc14) ?_
      refine C.seq ?_
      refine C.region ?_
      refine G.yl (yl_assign rfl) rfl rfl rfl ?_
      refine G.nil ?_
      refine QA.then_normal ?_
      refine C.ret ?_
      refine QA.then_ret ?_
      refine QA.ret1 rfl rfl ?_
      obtain rfl := sp_ret1 hm
      exact ⟨rfl, (Sat.pick [] h9)⟩
    · refine C.cond_f rfl (dec_f hc14) ?_
      refine C.skip ?_
      refine QA.then_normal ?_
      refine C.seq ?_
      refine C.region ?_
      refine G.yl (yl_assign rfl) rfl rfl rfl ?_
      refine G.nil ?_
      refine QA.then_normal ?_
      refine C.ret ?_
      refine QA.ret1 rfl rfl ?_
      obtain rfl := sp_ret1 hm
      exact ⟨rfl, (Sat.pick [] h9)⟩
set_option maxRecDepth 20000 in
set_option maxHeartbeats 1000000 in
theorem M_cmp_isNaN_uint16_w {W : Base} {w : World} {x : UInt16}  (h : Sat W w [])  (hm : M_cmp_isNaN_uint16 x = some ()) :
    Calls Try.prog 56 #[(v16 x)] w (Ret fun v w' => v = (.bool (!(decide (x = x)))) ∧ Sat W w' []) := by
  unfold M_cmp_isNaN_uint16 at hm
  refine C.enter (N := 6) Try.func56 rfl Try.ntmps56 rfl ?_
  show C _ _ _ [(0, (v16 x))] _ _
  refine C.seq ?_
  refine C.region ?_
  refine G.yl (yl_assign rfl) rfl rfl rfl ?_
  refine G.nil ?_
  refine QA.then_normal ?_
  refine C.seq ?_
  refine C.region ?_
  refine G.yl (yl_move rfl) rfl rfl rfl ?_
  refine G.yl (yl_move rfl) rfl rfl rfl ?_
  refine G.yl (yl_ne16 rfl rfl) rfl rfl rfl ?_
  refine G.yl (yl_assign rfl) rfl rfl rfl ?_
  refine G.nil ?_
  refine QA.then_normal ?_
  refine C.ret ?_
  refine QA.ret1 rfl rfl ?_
  exact ⟨rfl, (Sat.pick [] h)⟩
set_option maxRecDepth 20000 in
set_option maxHeartbeats 1000000 in
theorem M_cmp_Compare_uint16_w {W : Base} {w : World} {x : UInt16} {y_ : UInt16}  (h : Sat W w []) {r1 : Int} (hm : M_cmp_Compare_uint16 x y_ = some r1) :
    Calls Try.prog 35 #[(v16 x), (v16 y_)] w (Ret fun v w' => v = (vI r1) ∧ Sat W w' []) := by
  unfold M_cmp_Compare_uint16 at hm
  refine C.enter (N := 20) Try.func35 rfl Try.ntmps35 rfl ?_
  show C _ _ _ [(0, (v16 x)), (1, (v16 y_))] _ _
  refine C.seq ?_
  refine C.region ?_
  refine G.yl (yl_assign rfl) rfl rfl rfl ?_
  refine G.nil ?_
  refine QA.then_normal ?_
  refine C.seq ?_
  refine C.region ?_
  refine G.yl (yl_move rfl) rfl rfl rfl ?_
  obtain ⟨_, hy1, hm⟩ := sp_bind hm
  refine G.does (does_fn 0 rfl rfl rfl en56 h (fun U hU hp hr hs => M_cmp_isNaN_uint16_w (x := x) hp hy1)) rfl rfl rfl ?_
  rintro _ w2 ⟨U5, hb6, rfl, h4⟩
  have h3 : Sat W w2 [] := hb6 h4
  refine G.yl (yl_assign rfl) rfl rfl rfl ?_
  refine G.nil ?_
  refine QA.then_normal ?_
  refine C.seq ?_
  refine C.region ?_
  refine G.yl (yl_move rfl) rfl rfl rfl ?_
  obtain ⟨_, hy7, hm⟩ := sp_bind hm
  refine G.does (does_fn 0 rfl rfl rfl en56 h3 (fun U hU hp hr hs => M_cmp_isNaN_uint16_w (x := y_) hp hy7)) rfl rfl rfl ?_
  rintro _ w8 ⟨U11, hb12, rfl, h10⟩
  have h9 : Sat W w8 [] := hb12 h10
  refine G.yl (yl_assign rfl) rfl rfl rfl ?_
  refine G.nil ?_
  refine QA.then_normal ?_
  refine C.seq ?_
  refine C.seq ?_
  refine C.region ?_
  refine G.yl (yl_move rfl) rfl rfl rfl ?_
  refine G.nil ?_
  refine QA.then_normal ?_
  refine C.cond_f rfl (not_f (dec_t rfl)) ?_
  refine C.skip ?_
  refine QA.then_normal ?_
  refine C.seq ?_
  refine C.seq ?_
  refine C.region ?_
  refine G.yl (yl_move rfl) rfl rfl rfl ?_
  refine G.nil ?_
  refine QA.then_normal ?_
  refine C.cond_f rfl (not_f (dec_t rfl)) ?_
  refine C.skip ?_
  refine QA.then_normal ?_
  refine C.seq ?_
  refine C.seq ?_
  refine C.region ?_
  refine G.yl (yl_move rfl) rfl rfl rfl ?_
  refine G.yl (yl_move rfl) rfl rfl rfl ?_
  refine G.yl (yl_lt16 rfl rfl) rfl rfl rfl ?_
  refine G.nil ?_
  refine QA.then_normal ?_
  rcases sp_ite hm with ⟨hc13, hm⟩ | ⟨hc13, hm⟩
  · refine C.cond_t rfl (dec_t hc13) ?_
    refine C.seq ?_
    refine C.region ?_
    refine G.yl (yl_assign rfl) rfl rfl rfl ?_
    refine G.nil ?_
    refine QA.then_normal ?_
    refine C.ret ?_
    refine QA.then_ret ?_
    refine QA.ret1 rfl rfl ?_
    obtain rfl := sp_ret1 hm
    exact ⟨rfl, (Sat.pick [] h9)⟩
  · refine C.cond_f rfl (dec_f hc13) ?_
    refine C.skip ?_
    refine QA.then_normal ?_
    refine C.seq ?_
    refine C.seq ?_
    refine C.region ?_
    refine G.yl (yl_move rfl) rfl rfl rfl ?_
    refine G.yl (yl_move rfl) rfl rfl rfl ?_
    refine G.yl (yl_gt16 rfl rfl) rfl rfl rfl ?_
    refine G.nil ?_
    refine QA.then_normal ?_
    rcases sp_ite hm with ⟨hc14, hm⟩ | ⟨hc14, hm⟩
    · refine C.cond_t rfl (dec_t hc14) ?_
      refine C.seq ?_
      refine C.region ?_
      refine G.yl (yl_assign rfl) rfl rfl rfl ?_
      refine G.nil ?_
      refine QA.then_normal ?_
      refine C.ret ?_
      refine QA.then_ret ?_
      refine QA.ret1 rfl rfl ?_
      obtain rfl := sp_ret1 hm
      exact ⟨rfl, (Sat.pick [] h9)⟩
    · refine C.cond_f rfl (dec_f hc14) ?_
      refine C.skip ?_
      refine QA.then_normal ?_
      refine C.seq ?_
      refine C.region ?_
      refine G.yl (yl_assign rfl) rfl rfl rfl ?_
      refine G.nil ?_
      refine QA.then_normal ?_
      refine C.ret ?_
      refine QA.ret1 rfl rfl ?_
      obtain rfl := sp_ret1 hm
      exact ⟨rfl, (Sat.pick [] h9)⟩
set_option maxRecDepth 20000 in
set_option maxHeartbeats 1000000 in
theorem M_cmp_isNaN_string_w {W : Base} {w : World} {x : List UInt8}  (h : Sat W w [])  (hm : M_cmp_isNaN_string x = some ()) :
    Calls Try.prog 57 #[(.string (str x))] w (Ret fun v w' => v = (.bool (!(decide (x = x)))) ∧ Sat W w' []) := by
  unfold M_cmp_isNaN_string at hm
  refine C.enter (N := 6) Try.func57 rfl Try.ntmps57 rfl ?_
  show C _ _ _ [(0, (.string (str x)))] _ _
  refine C.seq ?_
  refine C.region ?_
  refine G.yl (yl_assign rfl) rfl rfl rfl ?_
  refine G.nil ?_
  refine QA.then_normal ?_
  refine C.seq ?_
  refine C.region ?_
  refine G.yl (yl_move rfl) rfl rfl rfl ?_
  refine G.yl (yl_move rfl) rfl rfl rfl ?_
  refine G.yl (yl_neS rfl rfl) rfl rfl rfl ?_
  refine G.yl (yl_assign rfl) rfl rfl rfl ?_
  refine G.nil ?_
  refine QA.then_normal ?_
  refine C.ret ?_
  refine QA.ret1 rfl rfl ?_
  exact ⟨rfl, (Sat.pick [] h)⟩
set_option maxRecDepth 20000 in
set_option maxHeartbeats 1000000 in
theorem M_cmp_Compare_string_w {W : Base} {w : World} {x : List UInt8} {y_ : List UInt8}  (h : Sat W w []) {r1 : Int} (hm : M_cmp_Compare_string x y_ = some r1) :
    Calls Try.prog 36 #[(.string (str x)), (.string (str y_))] w (Ret fun v w' => v = (vI r1) ∧ Sat W w' []) := by
  unfold M_cmp_Compare_string at hm
  refine C.enter (N := 20) Try.func36 rfl Try.ntmps36 rfl ?_
  show C _ _ _ [(0, (.string (str x))), (1, (.string (str y_)))] _ _
  refine C.seq ?_
  refine C.region ?_
  refine G.yl (yl_assign rfl) rfl rfl rfl ?_
  refine G.nil ?_
  refine QA.then_normal ?_
  refine C.seq ?_
  refine C.region ?_
  refine G.yl (yl_move rfl) rfl rfl rfl ?_
  obtain ⟨_, hy1, hm⟩ := sp_bind hm
  refine G.does (does_fn 0 rfl rfl rfl en57 h (fun U hU hp hr hs => M_cmp_isNaN_string_w (x := x) hp hy1)) rfl rfl rfl ?_
  rintro _ w2 ⟨U5, hb6, rfl, h4⟩
  have h3 : Sat W w2 [] := hb6 h4
  refine G.yl (yl_assign rfl) rfl rfl rfl ?_
  refine G.nil ?_
  refine QA.then_normal ?_
  refine C.seq ?_
  refine C.region ?_
  refine G.yl (yl_move rfl) rfl rfl rfl ?_
  obtain ⟨_, hy7, hm⟩ := sp_bind hm
  refine G.does (does_fn 0 rfl rfl rfl en57 h3 (fun U hU hp hr hs => M_cmp_isNaN_string_w (x := y_) hp hy7)) rfl rfl rfl ?_
  rintro _ w8 ⟨U11, hb12, rfl, h10⟩
  have h9 : Sat W w8 [] := hb12 h10
  refine G.yl (yl_assign rfl) rfl rfl rfl ?_
  refine G.nil ?_
  refine QA.then_normal ?_
  refine C.seq ?_
  refine C.seq ?_
  refine C.region ?_
  refine G.yl (yl_move rfl) rfl rfl rfl ?_
  refine G.nil ?_
  refine QA.then_normal ?_
  refine C.cond_f rfl (not_f (dec_t rfl)) ?_
  refine C.skip ?_
  refine QA.then_normal ?_
  refine C.seq ?_
  refine C.seq ?_
  refine C.region ?_
  refine G.yl (yl_move rfl) rfl rfl rfl ?_
  refine G.nil ?_
  refine QA.then_normal ?_
  refine C.cond_f rfl (not_f (dec_t rfl)) ?_
  refine C.skip ?_
  refine QA.then_normal ?_
  refine C.seq ?_
  refine C.seq ?_
  refine C.region ?_
  refine G.yl (yl_move rfl) rfl rfl rfl ?_
  refine G.yl (yl_move rfl) rfl rfl rfl ?_
  refine G.yl (yl_ltS rfl rfl) rfl rfl rfl ?_
  refine G.nil ?_
  refine QA.then_normal ?_
  rcases sp_b hm with ⟨hc13, hm⟩ | ⟨hc13, hm⟩
  · refine C.cond_t rfl hc13 ?_
    refine C.seq ?_
    refine C.region ?_
    refine G.yl (yl_assign rfl) rfl rfl rfl ?_
    refine G.nil ?_
    refine QA.then_normal ?_
    refine C.ret ?_
    refine QA.then_ret ?_
    refine QA.ret1 rfl rfl ?_
    obtain rfl := sp_ret1 hm
    exact ⟨rfl, (Sat.pick [] h9)⟩
  · refine C.cond_f rfl hc13 ?_
    refine C.skip ?_
    refine QA.then_normal ?_
    refine C.seq ?_
    refine C.seq ?_
    refine C.region ?_
    refine G.yl (yl_move rfl) rfl rfl rfl ?_
    refine G.yl (yl_move rfl) rfl rfl rfl ?_
    refine G.yl (yl_gtS rfl rfl) rfl rfl rfl ?_
    refine G.nil ?_
    refine QA.then_normal ?_
    rcases sp_b hm with ⟨hc14, hm⟩ | ⟨hc14, hm⟩
    · refine C.cond_f rfl (not_f hc14) ?_
      refine C.skip ?_
      refine QA.then_normal ?_
      refine C.seq ?_
      refine C.region ?_
      refine G.yl (yl_assign rfl) rfl rfl rfl ?_
      refine G.nil ?_
      refine QA.then_normal ?_
      refine C.ret ?_
      refine QA.ret1 rfl rfl ?_
      obtain rfl := sp_ret1 hm
      exact ⟨rfl, (Sat.pick [] h9)⟩
    · refine C.cond_t rfl (not_t hc14) ?_
      refine C.seq ?_
      refine C.region ?_
      refine G.yl (yl_assign rfl) rfl rfl rfl ?_
      refine G.nil ?_
      refine QA.then_normal ?_
      refine C.ret ?_
      refine QA.then_ret ?_
      refine QA.ret1 rfl rfl ?_
      obtain rfl := sp_ret1 hm
      exact ⟨rfl, (Sat.pick [] h9)⟩
set_option maxRecDepth 20000 in
set_option maxHeartbeats 1000000 in
theorem M_cmp_Or_int_v_w {W : Base} {w : World} {a : Option Addr} {c : Nat} {vals : List Int} (hv_vals : V W a (elInt.row vals)) (hq_vals : vals.length ≤ c) (h : Sat W w []) {r1 : Int} (hm : M_cmp_Or_int_v vals = some r1) :
    Calls Try.prog 29 #[(.slice a vals.length c)] w (Ret fun v w' => v = (vI r1) ∧ Sat W w' []) := by
  unfold M_cmp_Or_int_v at hm
  refine C.enter (N := 18) Try.func29 rfl Try.ntmps29 rfl ?_
  show C _ _ _ [(0, (.slice a vals.length c))] _ _
  refine C.seq ?_
  refine C.region ?_
  refine G.yl (yl_assign rfl) rfl rfl rfl ?_
  refine G.nil ?_
  refine QA.then_normal ?_
  refine C.seq ?_
  refine C.region ?_
  refine G.yl (yl_assign rfl) rfl rfl rfl ?_
  refine G.nil ?_
  refine QA.then_normal ?_
  refine C.seq ?_
  refine C.seq ?_
  refine C.region ?_
  refine G.yl (yl_move rfl) rfl rfl rfl ?_
  refine G.yl (yl_lenE Try.underlying82 rfl) rfl rfl rfl ?_
  refine G.yl (yl_move rfl) rfl rfl rfl ?_
  refine G.nil ?_
  refine QA.then_normal ?_
  refine C.block ?_
  obtain ⟨o, ho1, hm2⟩ := sp_bind hm
  refine C.left (γ := Unit) (.exit 0) (fun g => match g with | () => [(2, (vI 0)), (3, (vI 0))]) (fun g ww => match g with | () => .inl () = o ∧ Sat W ww []) ?_ ?_
  · refine C.loopO (γ := Int) (fun g => match g with | t8 => [(2, (vI 0)), (3, (vI 0)), (6, (.slice a vals.length c)), (7, (vI (vals.length : Int))), (8, (vI t8))]) (fun g ww => match g with | t8 => Sat W ww []) (fun g => match g with | t8 => t8) 0 ho1 (Sub.of ⟨rfl, rfl, rfl, rfl, rfl, trivial⟩) (Sat.pick [] h) ?_
    rintro t8 k5 w3 y_ h4 hm hg6
    show C _ _ _ [(2, (vI 0)), (3, (vI 0)), (6, (.slice a vals.length c)), (7, (vI (vals.length : Int))), (8, (vI t8))] _ _
    change M_cmp_Or_int_v_b1 vals t8 = some y_ at hm
    unfold M_cmp_Or_int_v_b1 at hm
    refine C.seq ?_
    refine C.region ?_
    refine G.yl (yl_ltI rfl rfl) rfl rfl rfl ?_
    refine G.nil ?_
    refine QA.then_normal ?_
    refine C.seq ?_
    rcases sp_ite hm with ⟨hc7, hm⟩ | ⟨hc7, hm⟩
    · refine C.cond_t rfl (dec_t hc7) ?_
      refine C.skip ?_
      refine QA.then_normal ?_
      refine C.seq ?_
      refine C.block ?_
      refine C.seq ?_
      refine C.region ?_
      obtain ⟨x, hy8, hm⟩ := sp_bind hm
      refine G.yl (yl_ixP (l := vals) sl82 rfl rfl (View.isA (E := elInt) (hv_vals.at_ h4) (by decide) (at?_lt hy8)) rfl (at?_lt hy8)) rfl rfl rfl ?_
      refine G.yl (yl_ld1 (E := elInt) (v := (vI x)) ag3 rfl (hv_vals.at_ h4) (at?_some hy8).2 rfl) rfl rfl rfl ?_
      refine G.yl (yl_assign rfl) rfl rfl rfl ?_
      refine G.nil ?_
      refine QA.then_normal ?_
      refine C.seq ?_
      refine C.region ?_
      refine G.yl (yl_move rfl) rfl rfl rfl ?_
      refine G.yl (yl_move rfl) rfl rfl rfl ?_
      refine G.yl (yl_neI rfl rfl) rfl rfl rfl ?_
      refine G.nil ?_
      refine QA.then_normal ?_
      rcases sp_ite hm with ⟨hc9, hm⟩ | ⟨hc9, hm⟩
      · refine C.cond_f rfl (not_f (dec_t hc9)) ?_
        refine C.skip ?_
        refine QA.block_normal ?_
        refine QA.then_normal ?_
        refine C.region ?_
        obtain ⟨hc10, hm⟩ := sp_chk hm
        refine G.yl (yl_addI rfl rfl hc10) rfl rfl rfl ?_
        refine G.yl (yl_move rfl) rfl rfl rfl ?_
        refine G.nil ?_
        obtain rfl := sp_ret1 hm
        exact QA.againO (t8 + 1) hg6 (Sub.of ⟨rfl, rfl, rfl, rfl, rfl, trivial⟩) (Sat.pick [] h4)
      · refine C.cond_t rfl (not_t (dec_f hc9)) ?_
        refine C.seq ?_
        refine C.region ?_
        refine G.yl (yl_move rfl) rfl rfl rfl ?_
        refine G.yl (yl_assign rfl) rfl rfl rfl ?_
        refine G.nil ?_
        refine QA.then_normal ?_
        refine C.ret ?_
        refine QA.block_ret ?_
        refine QA.then_ret ?_
        refine QA.then_ret ?_
        refine QA.past (by simp) ?_
        refine QA.block_ret ?_
        refine QA.then_ret ?_
        refine QA.ret1 rfl rfl ?_
        obtain rfl := sp_ret1 hm
        obtain rfl : .inr x = o := hg6
        have hm : some x = some r1 := hm2
        obtain rfl := sp_ret1 hm
        exact ⟨rfl, (Sat.pick [] h4)⟩
    · refine C.cond_f rfl (dec_f hc7) ?_
      refine C.exit ?_
      refine QA.then_exit ?_
      refine QA.then_exit ?_
      obtain rfl := sp_ret1 hm
      exact QA.left () (Sub.of ⟨rfl, rfl, trivial⟩) ⟨hg6, (Sat.pick [] h4)⟩
  · rintro _ w11 ⟨rfl, h12⟩
    have hm := hm2
    show QA _ _ [(2, (vI 0)), (3, (vI 0))] _ _
    refine QA.block_here ?_
    refine QA.then_normal ?_
    refine C.seq ?_
    refine C.region ?_
    refine G.yl (yl_move rfl) rfl rfl rfl ?_
    refine G.yl (yl_assign rfl) rfl rfl rfl ?_
    refine G.nil ?_
    refine QA.then_normal ?_
    refine C.ret ?_
    refine QA.ret1 rfl rfl ?_
    obtain rfl := sp_ret1 hm
    exact ⟨rfl, (Sat.pick [] h12)⟩
set_option maxRecDepth 20000 in
set_option maxHeartbeats 1000000 in
theorem M_inst_Cmp_w {W : Base} {w : World} {a : G_api_Instance} {b : G_api_Instance}  (h : Sat W w []) {r1 : Int} (hm : M_inst_Cmp a b = some r1) :
    Calls Try.prog 12 #[(.agg (bytesV (List.ofFn (n := 20) a.Publisher) ++ ([(v64 a.Seq), (v64 a.Born), (v32 a.Life), (.bool a.Gone), (v16 a.Priority), (v16 a.Weight), (v16 a.Port), (.string (str a.Target))] : List Value)).toArray), (.agg (bytesV (List.ofFn (n := 20) b.Publisher) ++ ([(v64 b.Seq), (v64 b.Born), (v32 b.Life), (.bool b.Gone), (v16 b.Priority), (v16 b.Weight), (v16 b.Port), (.string (str b.Target))] : List Value)).toArray)] w (Ret fun v w' => v = (vI r1) ∧ Sat W w' []) := by
  unfold M_inst_Cmp at hm
  refine C.enter (N := 54) Try.func12 rfl Try.ntmps12 rfl ?_
  show C _ _ _ [(0, (.agg (bytesV (List.ofFn (n := 20) a.Publisher) ++ ([(v64 a.Seq), (v64 a.Born), (v32 a.Life), (.bool a.Gone), (v16 a.Priority), (v16 a.Weight), (v16 a.Port), (.string (str a.Target))] : List Value)).toArray)), (1, (.agg (bytesV (List.ofFn (n := 20) b.Publisher) ++ ([(v64 b.Seq), (v64 b.Born), (v32 b.Life), (.bool b.Gone), (v16 b.Priority), (v16 b.Weight), (v16 b.Port), (.string (str b.Target))] : List Value)).toArray))] _ _
  refine C.seq ?_
  refine C.region ?_
  refine G.does (does_box (cs := (bytesV (List.ofFn (n := 20) a.Publisher) ++ ([(v64 a.Seq), (v64 a.Born), (v32 a.Life), (.bool a.Gone), (v16 a.Priority), (v16 a.Weight), (v16 a.Port), (.string (str a.Target))] : List Value))) h rfl rfl) rfl rfl rfl ?_
  rintro _ w2 ⟨b1, rfl, h3⟩
  refine G.does (does_box (cs := (bytesV (List.ofFn (n := 20) b.Publisher) ++ ([(v64 b.Seq), (v64 b.Born), (v32 b.Life), (.bool b.Gone), (v16 b.Priority), (v16 b.Weight), (v16 b.Port), (.string (str b.Target))] : List Value))) h3 rfl rfl) rfl rfl rfl ?_
  rintro _ w5 ⟨b4, rfl, h6⟩
  refine G.yl (yl_assign rfl) rfl rfl rfl ?_
  refine G.nil ?_
  refine QA.then_normal ?_
  refine C.seq ?_
  refine C.draw (V := fun w' => View w' (some ⟨b1, 0, none⟩) (bytesV (List.ofFn (n := 20) a.Publisher) ++ ([(v64 a.Seq), (v64 a.Born), (v32 a.Life), (.bool a.Gone), (v16 a.Priority), (v16 a.Weight), (v16 a.Port), (.string (str a.Target))] : List Value)) ∧ View w' (some ⟨b4, 0, none⟩) (bytesV (List.ofFn (n := 20) b.Publisher) ++ ([(v64 b.Seq), (v64 b.Born), (v32 b.Life), (.bool b.Gone), (v16 b.Priority), (v16 b.Weight), (v16 b.Port), (.string (str b.Target))] : List Value))) (nd := [1, 3, 6, 9, 13, 15, 18, 20, 28, 30, 33, 35, 38, 40, 43, 45]) (sp := []) (n := 50) rfl h6 rfl rfl ?_
  intro w7 h8
  have hS9 : Cls (fun w' => View w' (some ⟨b1, 0, none⟩) (bytesV (List.ofFn (n := 20) a.Publisher) ++ ([(v64 a.Seq), (v64 a.Born), (v32 a.Life), (.bool a.Gone), (v16 a.Priority), (v16 a.Weight), (v16 a.Port), (.string (str a.Target))] : List Value)) ∧ View w' (some ⟨b4, 0, none⟩) (bytesV (List.ofFn (n := 20) b.Publisher) ++ ([(v64 b.Seq), (v64 b.Born), (v32 b.Life), (.bool b.Gone), (v16 b.Priority), (v16 b.Weight), (v16 b.Port), (.string (str b.Target))] : List Value))) [1, 3, 6, 9, 13, 15, 18, 20, 28, 30, 33, 35, 38, 40, 43, 45] [] #[nn, nn, nn, nn, nn, nn, nn, nn, nn, nn, nn, nn, nn, nn, nn, nn, nn, nn, nn, nn, nn, nn, nn, nn, nn, nn, nn, nn, nn, nn, nn, nn, nn, nn, nn, nn, nn, nn, nn, nn, nn, nn, nn, nn, nn, nn, nn, nn, nn, nn] w7 := Cls.keep (⟨((Sat.pick [1] h8).isBlk.view0), h8.isBlk.view0⟩) (by kernel_rfl)
  refine GH.yl (i := 0) (listed' := #[yy, nn, nn, nn, nn, nn, nn, nn, nn, nn, nn, nn, nn, nn, nn, nn, nn, nn, nn, nn, nn, nn, nn, nn, nn, nn, nn, nn, nn, nn, nn, nn, nn, nn, nn, nn, nn, nn, nn, nn, nn, nn, nn, nn, nn, nn, nn, nn, nn, nn]) rfl (by kernel_rfl) rfl (NP.next NP.body) rfl rfl rfl (fun w' => yl_fieldAddr fo31_1 rfl) hS9 (fun hS10 => ?_)
  refine GH.yr (i := 1) (listed' := #[yy, yy, nn, nn, nn, nn, nn, nn, nn, nn, nn, nn, nn, nn, nn, nn, nn, nn, nn, nn, nn, nn, nn, nn, nn, nn, nn, nn, nn, nn, nn, nn, nn, nn, nn, nn, nn, nn, nn, nn, nn, nn, nn, nn, nn, nn, nn, nn, nn, nn]) rfl (by kernel_rfl) rfl rfl (NP.next NP.body) rfl rfl rfl (fun w' hw' => yl_load (v := (v64 a.Seq)) ag27 rfl (View.at_ (j := 0) (View.span_tail hw'.1) rfl)) hS10 (fun hS11 => ?_)
  refine GH.yl (i := 2) (listed' := #[yy, yy, yy, nn, nn, nn, nn, nn, nn, nn, nn, nn, nn, nn, nn, nn, nn, nn, nn, nn, nn, nn, nn, nn, nn, nn, nn, nn, nn, nn, nn, nn, nn, nn, nn, nn, nn, nn, nn, nn, nn, nn, nn, nn, nn, nn, nn, nn, nn, nn]) rfl (by kernel_rfl) rfl (NP.next NP.body) rfl rfl rfl (fun w' => yl_fieldAddr fo31_1 rfl) hS11 (fun hS12 => ?_)
  refine GH.yr (i := 3) (listed' := #[yy, yy, yy, yy, nn, nn, nn, nn, nn, nn, nn, nn, nn, nn, nn, nn, nn, nn, nn, nn, nn, nn, nn, nn, nn, nn, nn, nn, nn, nn, nn, nn, nn, nn, nn, nn, nn, nn, nn, nn, nn, nn, nn, nn, nn, nn, nn, nn, nn, nn]) rfl (by kernel_rfl) rfl rfl (NP.next NP.body) rfl rfl rfl (fun w' hw' => yl_load (v := (v64 b.Seq)) ag27 rfl (View.at_ (j := 0) (View.span_tail hw'.2) rfl)) hS12 (fun hS13 => ?_)
  refine GH.yl (i := 5) (listed' := #[yy, yy, yy, yy, nn, yy, nn, nn, nn, nn, nn, nn, nn, nn, nn, nn, nn, nn, nn, nn, nn, nn, nn, nn, nn, nn, nn, nn, nn, nn, nn, nn, nn, nn, nn, nn, nn, nn, nn, nn, nn, nn, nn, nn, nn, nn, nn, nn, nn, nn]) rfl (by kernel_rfl) rfl (NP.next NP.body) rfl rfl rfl (fun w' => yl_fieldAddr fo31_4 rfl) hS13 (fun hS14 => ?_)
  refine GH.yr (i := 6) (listed' := #[yy, yy, yy, yy, nn, yy, yy, nn, nn, nn, nn, nn, nn, nn, nn, nn, nn, nn, nn, nn, nn, nn, nn, nn, nn, nn, nn, nn, nn, nn, nn, nn, nn, nn, nn, nn, nn, nn, nn, nn, nn, nn, nn, nn, nn, nn, nn, nn, nn, nn]) rfl (by kernel_rfl) rfl rfl (NP.next NP.body) rfl rfl rfl (fun w' hw' => yl_load (v := (.bool a.Gone)) ag4 rfl (View.at_ (j := 3) (View.span_tail hw'.1) rfl)) hS14 (fun hS15 => ?_)
  refine GH.yl (i := 8) (listed' := #[yy, yy, yy, yy, nn, yy, yy, nn, yy, nn, nn, nn, nn, nn, nn, nn, nn, nn, nn, nn, nn, nn, nn, nn, nn, nn, nn, nn, nn, nn, nn, nn, nn, nn, nn, nn, nn, nn, nn, nn, nn, nn, nn, nn, nn, nn, nn, nn, nn, nn]) rfl (by kernel_rfl) rfl (NP.next NP.body) rfl rfl rfl (fun w' => yl_fieldAddr fo31_4 rfl) hS15 (fun hS16 => ?_)
  refine GH.yr (i := 9) (listed' := #[yy, yy, yy, yy, nn, yy, yy, nn, yy, yy, nn, nn, nn, nn, nn, nn, nn, nn, nn, nn, nn, nn, nn, nn, nn, nn, nn, nn, nn, nn, nn, nn, nn, nn, nn, nn, nn, nn, nn, nn, nn, nn, nn, nn, nn, nn, nn, nn, nn, nn]) rfl (by kernel_rfl) rfl rfl (NP.next NP.body) rfl rfl rfl (fun w' hw' => yl_load (v := (.bool b.Gone)) ag4 rfl (View.at_ (j := 3) (View.span_tail hw'.2) rfl)) hS16 (fun hS17 => ?_)
  refine GH.yl (i := 12) (listed' := #[yy, yy, yy, yy, nn, yy, yy, nn, yy, yy, nn, nn, yy, nn, nn, nn, nn, nn, nn, nn, nn, nn, nn, nn, nn, nn, nn, nn, nn, nn, nn, nn, nn, nn, nn, nn, nn, nn, nn, nn, nn, nn, nn, nn, nn, nn, nn, nn, nn, nn]) rfl (by kernel_rfl) rfl (NP.next NP.body) rfl rfl rfl (fun w' => yl_fieldAddr fo31_2 rfl) hS17 (fun hS18 => ?_)
  refine GH.yr (i := 13) (listed' := #[yy, yy, yy, yy, nn, yy, yy, nn, yy, yy, nn, nn, yy, yy, nn, nn, nn, nn, nn, nn, nn, nn, nn, nn, nn, nn, nn, nn, nn, nn, nn, nn, nn, nn, nn, nn, nn, nn, nn, nn, nn, nn, nn, nn, nn, nn, nn, nn, nn, nn]) rfl (by kernel_rfl) rfl rfl (NP.next NP.body) rfl rfl rfl (fun w' hw' => yl_load (v := (v64 a.Born)) ag27 rfl (View.at_ (j := 1) (View.span_tail hw'.1) rfl)) hS18 (fun hS19 => ?_)
  refine GH.yl (i := 14) (listed' := #[yy, yy, yy, yy, nn, yy, yy, nn, yy, yy, nn, nn, yy, yy, yy, nn, nn, nn, nn, nn, nn, nn, nn, nn, nn, nn, nn, nn, nn, nn, nn, nn, nn, nn, nn, nn, nn, nn, nn, nn, nn, nn, nn, nn, nn, nn, nn, nn, nn, nn]) rfl (by kernel_rfl) rfl (NP.next NP.body) rfl rfl rfl (fun w' => yl_fieldAddr fo31_2 rfl) hS19 (fun hS20 => ?_)
  refine GH.yr (i := 15) (listed' := #[yy, yy, yy, yy, nn, yy, yy, nn, yy, yy, nn, nn, yy, yy, yy, yy, nn, nn, nn, nn, nn, nn, nn, nn, nn, nn, nn, nn, nn, nn, nn, nn, nn, nn, nn, nn, nn, nn, nn, nn, nn, nn, nn, nn, nn, nn, nn, nn, nn, nn]) rfl (by kernel_rfl) rfl rfl (NP.next NP.body) rfl rfl rfl (fun w' hw' => yl_load (v := (v64 b.Born)) ag27 rfl (View.at_ (j := 1) (View.span_tail hw'.2) rfl)) hS20 (fun hS21 => ?_)
  refine GH.yl (i := 17) (listed' := #[yy, yy, yy, yy, nn, yy, yy, nn, yy, yy, nn, nn, yy, yy, yy, yy, nn, yy, nn, nn, nn, nn, nn, nn, nn, nn, nn, nn, nn, nn, nn, nn, nn, nn, nn, nn, nn, nn, nn, nn, nn, nn, nn, nn, nn, nn, nn, nn, nn, nn]) rfl (by kernel_rfl) rfl (NP.next NP.body) rfl rfl rfl (fun w' => yl_fieldAddr fo31_3 rfl) hS21 (fun hS22 => ?_)
  refine GH.yr (i := 18) (listed' := #[yy, yy, yy, yy, nn, yy, yy, nn, yy, yy, nn, nn, yy, yy, yy, yy, nn, yy, yy, nn, nn, nn, nn, nn, nn, nn, nn, nn, nn, nn, nn, nn, nn, nn, nn, nn, nn, nn, nn, nn, nn, nn, nn, nn, nn, nn, nn, nn, nn, nn]) rfl (by kernel_rfl) rfl rfl (NP.next NP.body) rfl rfl rfl (fun w' hw' => yl_load (v := (v32 a.Life)) ag28 rfl (View.at_ (j := 2) (View.span_tail hw'.1) rfl)) hS22 (fun hS23 => ?_)
  refine GH.yl (i := 19) (listed' := #[yy, yy, yy, yy, nn, yy, yy, nn, yy, yy, nn, nn, yy, yy, yy, yy, nn, yy, yy, yy, nn, nn, nn, nn, nn, nn, nn, nn, nn, nn, nn, nn, nn, nn, nn, nn, nn, nn, nn, nn, nn, nn, nn, nn, nn, nn, nn, nn, nn, nn]) rfl (by kernel_rfl) rfl (NP.next NP.body) rfl rfl rfl (fun w' => yl_fieldAddr fo31_3 rfl) hS23 (fun hS24 => ?_)
  refine GH.yr (i := 20) (listed' := #[yy, yy, yy, yy, nn, yy, yy, nn, yy, yy, nn, nn, yy, yy, yy, yy, nn, yy, yy, yy, yy, nn, nn, nn, nn, nn, nn, nn, nn, nn, nn, nn, nn, nn, nn, nn, nn, nn, nn, nn, nn, nn, nn, nn, nn, nn, nn, nn, nn, nn]) rfl (by kernel_rfl) rfl rfl (NP.next NP.body) rfl rfl rfl (fun w' hw' => yl_load (v := (v32 b.Life)) ag28 rfl (View.at_ (j := 2) (View.span_tail hw'.2) rfl)) hS24 (fun hS25 => ?_)
  refine GH.yl (i := 22) (listed' := #[yy, yy, yy, yy, nn, yy, yy, nn, yy, yy, nn, nn, yy, yy, yy, yy, nn, yy, yy, yy, yy, nn, yy, nn, nn, nn, nn, nn, nn, nn, nn, nn, nn, nn, nn, nn, nn, nn, nn, nn, nn, nn, nn, nn, nn, nn, nn, nn, nn, nn]) rfl (by kernel_rfl) rfl (NP.next NP.body) rfl rfl rfl (fun w' => yl_fieldAddr fo31_0 rfl) hS25 (fun hS26 => ?_)
  refine GH.yl (i := 23) (listed' := #[yy, yy, yy, yy, nn, yy, yy, nn, yy, yy, nn, nn, yy, yy, yy, yy, nn, yy, yy, yy, yy, nn, yy, yy, nn, nn, nn, nn, nn, nn, nn, nn, nn, nn, nn, nn, nn, nn, nn, nn, nn, nn, nn, nn, nn, nn, nn, nn, nn, nn]) rfl (by kernel_rfl) rfl (NP.next NP.body) rfl rfl rfl (fun w' => yl_slice_arr (n := 20) (l := 0) (h := 20) (s := 1) (v := (.slice (some ⟨b1, 0, none⟩) 20 20)) Try.underlying26 (by kernel_rfl) (by kernel_rfl) rfl rfl rfl (by decide) (by decide) rfl) hS26 (fun hS27 => ?_)
  refine GH.yl (i := 24) (listed' := #[yy, yy, yy, yy, nn, yy, yy, nn, yy, yy, nn, nn, yy, yy, yy, yy, nn, yy, yy, yy, yy, nn, yy, yy, yy, nn, nn, nn, nn, nn, nn, nn, nn, nn, nn, nn, nn, nn, nn, nn, nn, nn, nn, nn, nn, nn, nn, nn, nn, nn]) rfl (by kernel_rfl) rfl (NP.next NP.body) rfl rfl rfl (fun w' => yl_fieldAddr fo31_0 rfl) hS27 (fun hS28 => ?_)
  refine GH.yl (i := 25) (listed' := #[yy, yy, yy, yy, nn, yy, yy, nn, yy, yy, nn, nn, yy, yy, yy, yy, nn, yy, yy, yy, yy, nn, yy, yy, yy, yy, nn, nn, nn, nn, nn, nn, nn, nn, nn, nn, nn, nn, nn, nn, nn, nn, nn, nn, nn, nn, nn, nn, nn, nn]) rfl (by kernel_rfl) rfl (NP.next NP.body) rfl rfl rfl (fun w' => yl_slice_arr (n := 20) (l := 0) (h := 20) (s := 1) (v := (.slice (some ⟨b4, 0, none⟩) 20 20)) Try.underlying26 (by kernel_rfl) (by kernel_rfl) rfl rfl rfl (by decide) (by decide) rfl) hS28 (fun hS29 => ?_)
  refine GH.yl (i := 27) (listed' := #[yy, yy, yy, yy, nn, yy, yy, nn, yy, yy, nn, nn, yy, yy, yy, yy, nn, yy, yy, yy, yy, nn, yy, yy, yy, yy, nn, yy, nn, nn, nn, nn, nn, nn, nn, nn, nn, nn, nn, nn, nn, nn, nn, nn, nn, nn, nn, nn, nn, nn]) rfl (by kernel_rfl) rfl (NP.next NP.body) rfl rfl rfl (fun w' => yl_fieldAddr fo31_5 rfl) hS29 (fun hS30 => ?_)
  refine GH.yr (i := 28) (listed' := #[yy, yy, yy, yy, nn, yy, yy, nn, yy, yy, nn, nn, yy, yy, yy, yy, nn, yy, yy, yy, yy, nn, yy, yy, yy, yy, nn, yy, yy, nn, nn, nn, nn, nn, nn, nn, nn, nn, nn, nn, nn, nn, nn, nn, nn, nn, nn, nn, nn, nn]) rfl (by kernel_rfl) rfl rfl (NP.next NP.body) rfl rfl rfl (fun w' hw' => yl_load (v := (v16 a.Priority)) ag29 rfl (View.at_ (j := 4) (View.span_tail hw'.1) rfl)) hS30 (fun hS31 => ?_)
  refine GH.yl (i := 29) (listed' := #[yy, yy, yy, yy, nn, yy, yy, nn, yy, yy, nn, nn, yy, yy, yy, yy, nn, yy, yy, yy, yy, nn, yy, yy, yy, yy, nn, yy, yy, yy, nn, nn, nn, nn, nn, nn, nn, nn, nn, nn, nn, nn, nn, nn, nn, nn, nn, nn, nn, nn]) rfl (by kernel_rfl) rfl (NP.next NP.body) rfl rfl rfl (fun w' => yl_fieldAddr fo31_5 rfl) hS31 (fun hS32 => ?_)
  refine GH.yr (i := 30) (listed' := #[yy, yy, yy, yy, nn, yy, yy, nn, yy, yy, nn, nn, yy, yy, yy, yy, nn, yy, yy, yy, yy, nn, yy, yy, yy, yy, nn, yy, yy, yy, yy, nn, nn, nn, nn, nn, nn, nn, nn, nn, nn, nn, nn, nn, nn, nn, nn, nn, nn, nn]) rfl (by kernel_rfl) rfl rfl (NP.next NP.body) rfl rfl rfl (fun w' hw' => yl_load (v := (v16 b.Priority)) ag29 rfl (View.at_ (j := 4) (View.span_tail hw'.2) rfl)) hS32 (fun hS33 => ?_)
  refine GH.yl (i := 32) (listed' := #[yy, yy, yy, yy, nn, yy, yy, nn, yy, yy, nn, nn, yy, yy, yy, yy, nn, yy, yy, yy, yy, nn, yy, yy, yy, yy, nn, yy, yy, yy, yy, nn, yy, nn, nn, nn, nn, nn, nn, nn, nn, nn, nn, nn, nn, nn, nn, nn, nn, nn]) rfl (by kernel_rfl) rfl (NP.next NP.body) rfl rfl rfl (fun w' => yl_fieldAddr fo31_6 rfl) hS33 (fun hS34 => ?_)
  refine GH.yr (i := 33) (listed' := #[yy, yy, yy, yy, nn, yy, yy, nn, yy, yy, nn, nn, yy, yy, yy, yy, nn, yy, yy, yy, yy, nn, yy, yy, yy, yy, nn, yy, yy, yy, yy, nn, yy, yy, nn, nn, nn, nn, nn, nn, nn, nn, nn, nn, nn, nn, nn, nn, nn, nn]) rfl (by kernel_rfl) rfl rfl (NP.next NP.body) rfl rfl rfl (fun w' hw' => yl_load (v := (v16 a.Weight)) ag29 rfl (View.at_ (j := 5) (View.span_tail hw'.1) rfl)) hS34 (fun hS35 => ?_)
  refine GH.yl (i := 34) (listed' := #[yy, yy, yy, yy, nn, yy, yy, nn, yy, yy, nn, nn, yy, yy, yy, yy, nn, yy, yy, yy, yy, nn, yy, yy, yy, yy, nn, yy, yy, yy, yy, nn, yy, yy, yy, nn, nn, nn, nn, nn, nn, nn, nn, nn, nn, nn, nn, nn, nn, nn]) rfl (by kernel_rfl) rfl (NP.next NP.body) rfl rfl rfl (fun w' => yl_fieldAddr fo31_6 rfl) hS35 (fun hS36 => ?_)
  refine GH.yr (i := 35) (listed' := #[yy, yy, yy, yy, nn, yy, yy, nn, yy, yy, nn, nn, yy, yy, yy, yy, nn, yy, yy, yy, yy, nn, yy, yy, yy, yy, nn, yy, yy, yy, yy, nn, yy, yy, yy, yy, nn, nn, nn, nn, nn, nn, nn, nn, nn, nn, nn, nn, nn, nn]) rfl (by kernel_rfl) rfl rfl (NP.next NP.body) rfl rfl rfl (fun w' hw' => yl_load (v := (v16 b.Weight)) ag29 rfl (View.at_ (j := 5) (View.span_tail hw'.2) rfl)) hS36 (fun hS37 => ?_)
  refine GH.yl (i := 37) (listed' := #[yy, yy, yy, yy, nn, yy, yy, nn, yy, yy, nn, nn, yy, yy, yy, yy, nn, yy, yy, yy, yy, nn, yy, yy, yy, yy, nn, yy, yy, yy, yy, nn, yy, yy, yy, yy, nn, yy, nn, nn, nn, nn, nn, nn, nn, nn, nn, nn, nn, nn]) rfl (by kernel_rfl) rfl (NP.next NP.body) rfl rfl rfl (fun w' => yl_fieldAddr fo31_7 rfl) hS37 (fun hS38 => ?_)
  refine GH.yr (i := 38) (listed' := #[yy, yy, yy, yy, nn, yy, yy, nn, yy, yy, nn, nn, yy, yy, yy, yy, nn, yy, yy, yy, yy, nn, yy, yy, yy, yy, nn, yy, yy, yy, yy, nn, yy, yy, yy, yy, nn, yy, yy, nn, nn, nn, nn, nn, nn, nn, nn, nn, nn, nn]) rfl (by kernel_rfl) rfl rfl (NP.next NP.body) rfl rfl rfl (fun w' hw' => yl_load (v := (v16 a.Port)) ag29 rfl (View.at_ (j := 6) (View.span_tail hw'.1) rfl)) hS38 (fun hS39 => ?_)
  refine GH.yl (i := 39) (listed' := #[yy, yy, yy, yy, nn, yy, yy, nn, yy, yy, nn, nn, yy, yy, yy, yy, nn, yy, yy, yy, yy, nn, yy, yy, yy, yy, nn, yy, yy, yy, yy, nn, yy, yy, yy, yy, nn, yy, yy, yy, nn, nn, nn, nn, nn, nn, nn, nn, nn, nn]) rfl (by kernel_rfl) rfl (NP.next NP.body) rfl rfl rfl (fun w' => yl_fieldAddr fo31_7 rfl) hS39 (fun hS40 => ?_)
  refine GH.yr (i := 40) (listed' := #[yy, yy, yy, yy, nn, yy, yy, nn, yy, yy, nn, nn, yy, yy, yy, yy, nn, yy, yy, yy, yy, nn, yy, yy, yy, yy, nn, yy, yy, yy, yy, nn, yy, yy, yy, yy, nn, yy, yy, yy, yy, nn, nn, nn, nn, nn, nn, nn, nn, nn]) rfl (by kernel_rfl) rfl rfl (NP.next NP.body) rfl rfl rfl (fun w' hw' => yl_load (v := (v16 b.Port)) ag29 rfl (View.at_ (j := 6) (View.span_tail hw'.2) rfl)) hS40 (fun hS41 => ?_)
  refine GH.yl (i := 42) (listed' := #[yy, yy, yy, yy, nn, yy, yy, nn, yy, yy, nn, nn, yy, yy, yy, yy, nn, yy, yy, yy, yy, nn, yy, yy, yy, yy, nn, yy, yy, yy, yy, nn, yy, yy, yy, yy, nn, yy, yy, yy, yy, nn, yy, nn, nn, nn, nn, nn, nn, nn]) rfl (by kernel_rfl) rfl (NP.next NP.body) rfl rfl rfl (fun w' => yl_fieldAddr fo31_8 rfl) hS41 (fun hS42 => ?_)
  refine GH.yr (i := 43) (listed' := #[yy, yy, yy, yy, nn, yy, yy, nn, yy, yy, nn, nn, yy, yy, yy, yy, nn, yy, yy, yy, yy, nn, yy, yy, yy, yy, nn, yy, yy, yy, yy, nn, yy, yy, yy, yy, nn, yy, yy, yy, yy, nn, yy, yy, nn, nn, nn, nn, nn, nn]) rfl (by kernel_rfl) rfl rfl (NP.next NP.body) rfl rfl rfl (fun w' hw' => yl_load (v := (.string (str a.Target))) ag9 rfl (View.at_ (j := 7) (View.span_tail hw'.1) rfl)) hS42 (fun hS43 => ?_)
  refine GH.yl (i := 44) (listed' := #[yy, yy, yy, yy, nn, yy, yy, nn, yy, yy, nn, nn, yy, yy, yy, yy, nn, yy, yy, yy, yy, nn, yy, yy, yy, yy, nn, yy, yy, yy, yy, nn, yy, yy, yy, yy, nn, yy, yy, yy, yy, nn, yy, yy, yy, nn, nn, nn, nn, nn]) rfl (by kernel_rfl) rfl (NP.next NP.body) rfl rfl rfl (fun w' => yl_fieldAddr fo31_8 rfl) hS43 (fun hS44 => ?_)
  refine GH.yr (i := 45) (listed' := #[yy, yy, yy, yy, nn, yy, yy, nn, yy, yy, nn, nn, yy, yy, yy, yy, nn, yy, yy, yy, yy, nn, yy, yy, yy, yy, nn, yy, yy, yy, yy, nn, yy, yy, yy, yy, nn, yy, yy, yy, yy, nn, yy, yy, yy, yy, nn, nn, nn, nn]) rfl (by kernel_rfl) rfl rfl (NP.next NP.body) rfl rfl rfl (fun w' hw' => yl_load (v := (.string (str b.Target))) ag9 rfl (View.at_ (j := 7) (View.span_tail hw'.2) rfl)) hS44 (fun hS45 => ?_)
  obtain ⟨r1_2, hy46, hm⟩ := sp_bind hm
  refine GH.does (i := 4) (listed' := #[yy, yy, yy, yy, yy, yy, yy, nn, yy, yy, nn, nn, yy, yy, yy, yy, nn, yy, yy, yy, yy, nn, yy, yy, yy, yy, nn, yy, yy, yy, yy, nn, yy, yy, yy, yy, nn, yy, yy, yy, yy, nn, yy, yy, yy, yy, nn, nn, nn, nn]) rfl (by kernel_rfl) rfl rfl rfl rfl (does_fn 0 rfl rfl rfl en30 h8 (fun U hU hp hr hs => M_cmp_Compare_uint64_w (x := a.Seq) (y_ := b.Seq) hp hy46)) ?_
  rintro _ w47 ⟨U50, hb51, rfl, h49⟩
  have h48 : Sat W w47 [blk b4 (bytesV (List.ofFn (n := 20) b.Publisher) ++ ([(v64 b.Seq), (v64 b.Born), (v32 b.Life), (.bool b.Gone), (v16 b.Priority), (v16 b.Weight), (v16 b.Port), (.string (str b.Target))] : List Value)) 31, blk b1 (bytesV (List.ofFn (n := 20) a.Publisher) ++ ([(v64 a.Seq), (v64 a.Born), (v32 a.Life), (.bool a.Gone), (v16 a.Priority), (v16 a.Weight), (v16 a.Port), (.string (str a.Target))] : List Value)) 31] := hb51 h49
  have hS52 : Cls (fun w' => View w' (some ⟨b1, 0, none⟩) (bytesV (List.ofFn (n := 20) a.Publisher) ++ ([(v64 a.Seq), (v64 a.Born), (v32 a.Life), (.bool a.Gone), (v16 a.Priority), (v16 a.Weight), (v16 a.Port), (.string (str a.Target))] : List Value)) ∧ View w' (some ⟨b4, 0, none⟩) (bytesV (List.ofFn (n := 20) b.Publisher) ++ ([(v64 b.Seq), (v64 b.Born), (v32 b.Life), (.bool b.Gone), (v16 b.Priority), (v16 b.Weight), (v16 b.Port), (.string (str b.Target))] : List Value))) [1, 3, 6, 9, 13, 15, 18, 20, 28, 30, 33, 35, 38, 40, 43, 45] [] #[yy, yy, yy, yy, yy, yy, yy, nn, yy, yy, nn, nn, yy, yy, yy, yy, nn, yy, yy, yy, yy, nn, yy, yy, yy, yy, nn, yy, yy, yy, yy, nn, yy, yy, yy, yy, nn, yy, yy, yy, yy, nn, yy, yy, yy, yy, nn, nn, nn, nn] w47 := Cls.keep (⟨((Sat.pick [1] h48).isBlk.view0), h48.isBlk.view0⟩) (by kernel_rfl)
  refine ⟨hS52, ?_⟩
  obtain ⟨r1_3, hy53, hm⟩ := sp_bind hm
  refine GH.does (i := 7) (listed' := #[yy, yy, yy, yy, yy, yy, yy, yy, yy, yy, nn, nn, yy, yy, yy, yy, nn, yy, yy, yy, yy, nn, yy, yy, yy, yy, nn, yy, yy, yy, yy, nn, yy, yy, yy, yy, nn, yy, yy, yy, yy, nn, yy, yy, yy, yy, nn, nn, nn, nn]) rfl (by kernel_rfl) rfl rfl rfl rfl (does_fn 0 rfl rfl rfl en32 h48 (fun U hU hp hr hs => M_inst_bit_w (is := a.Gone) hp hy53)) ?_
  rintro _ w54 ⟨U57, hb58, rfl, h56⟩
  have h55 : Sat W w54 [blk b4 (bytesV (List.ofFn (n := 20) b.Publisher) ++ ([(v64 b.Seq), (v64 b.Born), (v32 b.Life), (.bool b.Gone), (v16 b.Priority), (v16 b.Weight), (v16 b.Port), (.string (str b.Target))] : List Value)) 31, blk b1 (bytesV (List.ofFn (n := 20) a.Publisher) ++ ([(v64 a.Seq), (v64 a.Born), (v32 a.Life), (.bool a.Gone), (v16 a.Priority), (v16 a.Weight), (v16 a.Port), (.string (str a.Target))] : List Value)) 31] := hb58 h56
  have hS59 : Cls (fun w' => View w' (some ⟨b1, 0, none⟩) (bytesV (List.ofFn (n := 20) a.Publisher) ++ ([(v64 a.Seq), (v64 a.Born), (v32 a.Life), (.bool a.Gone), (v16 a.Priority), (v16 a.Weight), (v16 a.Port), (.string (str a.Target))] : List Value)) ∧ View w' (some ⟨b4, 0, none⟩) (bytesV (List.ofFn (n := 20) b.Publisher) ++ ([(v64 b.Seq), (v64 b.Born), (v32 b.Life), (.bool b.Gone), (v16 b.Priority), (v16 b.Weight), (v16 b.Port), (.string (str b.Target))] : List Value))) [1, 3, 6, 9, 13, 15, 18, 20, 28, 30, 33, 35, 38, 40, 43, 45] [] #[yy, yy, yy, yy, yy, yy, yy, yy, yy, yy, nn, nn, yy, yy, yy, yy, nn, yy, yy, yy, yy, nn, yy, yy, yy, yy, nn, yy, yy, yy, yy, nn, yy, yy, yy, yy, nn, yy, yy, yy, yy, nn, yy, yy, yy, yy, nn, nn, nn, nn] w54 := Cls.keep (⟨((Sat.pick [1] h55).isBlk.view0), h55.isBlk.view0⟩) (by kernel_rfl)
  refine ⟨hS59, ?_⟩
  obtain ⟨r1_4, hy60, hm⟩ := sp_bind hm
  refine GH.does (i := 10) (listed' := #[yy, yy, yy, yy, yy, yy, yy, yy, yy, yy, yy, nn, yy, yy, yy, yy, nn, yy, yy, yy, yy, nn, yy, yy, yy, yy, nn, yy, yy, yy, yy, nn, yy, yy, yy, yy, nn, yy, yy, yy, yy, nn, yy, yy, yy, yy, nn, nn, nn, nn]) rfl (by kernel_rfl) rfl rfl rfl rfl (does_fn 0 rfl rfl rfl en32 h55 (fun U hU hp hr hs => M_inst_bit_w (is := b.Gone) hp hy60)) ?_
  rintro _ w61 ⟨U64, hb65, rfl, h63⟩
  have h62 : Sat W w61 [blk b4 (bytesV (List.ofFn (n := 20) b.Publisher) ++ ([(v64 b.Seq), (v64 b.Born), (v32 b.Life), (.bool b.Gone), (v16 b.Priority), (v16 b.Weight), (v16 b.Port), (.string (str b.Target))] : List Value)) 31, blk b1 (bytesV (List.ofFn (n := 20) a.Publisher) ++ ([(v64 a.Seq), (v64 a.Born), (v32 a.Life), (.bool a.Gone), (v16 a.Priority), (v16 a.Weight), (v16 a.Port), (.string (str a.Target))] : List Value)) 31] := hb65 h63
  have hS66 : Cls (fun w' => View w' (some ⟨b1, 0, none⟩) (bytesV (List.ofFn (n := 20) a.Publisher) ++ ([(v64 a.Seq), (v64 a.Born), (v32 a.Life), (.bool a.Gone), (v16 a.Priority), (v16 a.Weight), (v16 a.Port), (.string (str a.Target))] : List Value)) ∧ View w' (some ⟨b4, 0, none⟩) (bytesV (List.ofFn (n := 20) b.Publisher) ++ ([(v64 b.Seq), (v64 b.Born), (v32 b.Life), (.bool b.Gone), (v16 b.Priority), (v16 b.Weight), (v16 b.Port), (.string (str b.Target))] : List Value))) [1, 3, 6, 9, 13, 15, 18, 20, 28, 30, 33, 35, 38, 40, 43, 45] [] #[yy, yy, yy, yy, yy, yy, yy, yy, yy, yy, yy, nn, yy, yy, yy, yy, nn, yy, yy, yy, yy, nn, yy, yy, yy, yy, nn, yy, yy, yy, yy, nn, yy, yy, yy, yy, nn, yy, yy, yy, yy, nn, yy, yy, yy, yy, nn, nn, nn, nn] w61 := Cls.keep (⟨((Sat.pick [1] h62).isBlk.view0), h62.isBlk.view0⟩) (by kernel_rfl)
  refine ⟨hS66, ?_⟩
  obtain ⟨r1_5, hy67, hm⟩ := sp_bind hm
  refine GH.does (i := 11) (listed' := #[yy, yy, yy, yy, yy, yy, yy, yy, yy, yy, yy, yy, yy, yy, yy, yy, nn, yy, yy, yy, yy, nn, yy, yy, yy, yy, nn, yy, yy, yy, yy, nn, yy, yy, yy, yy, nn, yy, yy, yy, yy, nn, yy, yy, yy, yy, nn, nn, nn, nn]) rfl (by kernel_rfl) rfl rfl rfl rfl (does_fn 0 rfl rfl rfl en31 h62 (fun U hU hp hr hs => M_cmp_Compare_int_w (x := r1_3) (y_ := r1_4) hp hy67)) ?_
  rintro _ w68 ⟨U71, hb72, rfl, h70⟩
  have h69 : Sat W w68 [blk b4 (bytesV (List.ofFn (n := 20) b.Publisher) ++ ([(v64 b.Seq), (v64 b.Born), (v32 b.Life), (.bool b.Gone), (v16 b.Priority), (v16 b.Weight), (v16 b.Port), (.string (str b.Target))] : List Value)) 31, blk b1 (bytesV (List.ofFn (n := 20) a.Publisher) ++ ([(v64 a.Seq), (v64 a.Born), (v32 a.Life), (.bool a.Gone), (v16 a.Priority), (v16 a.Weight), (v16 a.Port), (.string (str a.Target))] : List Value)) 31] := hb72 h70
  have hS73 : Cls (fun w' => View w' (some ⟨b1, 0, none⟩) (bytesV (List.ofFn (n := 20) a.Publisher) ++ ([(v64 a.Seq), (v64 a.Born), (v32 a.Life), (.bool a.Gone), (v16 a.Priority), (v16 a.Weight), (v16 a.Port), (.string (str a.Target))] : List Value)) ∧ View w' (some ⟨b4, 0, none⟩) (bytesV (List.ofFn (n := 20) b.Publisher) ++ ([(v64 b.Seq), (v64 b.Born), (v32 b.Life), (.bool b.Gone), (v16 b.Priority), (v16 b.Weight), (v16 b.Port), (.string (str b.Target))] : List Value))) [1, 3, 6, 9, 13, 15, 18, 20, 28, 30, 33, 35, 38, 40, 43, 45] [] #[yy, yy, yy, yy, yy, yy, yy, yy, yy, yy, yy, yy, yy, yy, yy, yy, nn, yy, yy, yy, yy, nn, yy, yy, yy, yy, nn, yy, yy, yy, yy, nn, yy, yy, yy, yy, nn, yy, yy, yy, yy, nn, yy, yy, yy, yy, nn, nn, nn, nn] w68 := Cls.keep (⟨((Sat.pick [1] h69).isBlk.view0), h69.isBlk.view0⟩) (by kernel_rfl)
  refine ⟨hS73, ?_⟩
  obtain ⟨r1_6, hy74, hm⟩ := sp_bind hm
  refine GH.does (i := 16) (listed' := #[yy, yy, yy, yy, yy, yy, yy, yy, yy, yy, yy, yy, yy, yy, yy, yy, yy, yy, yy, yy, yy, nn, yy, yy, yy, yy, nn, yy, yy, yy, yy, nn, yy, yy, yy, yy, nn, yy, yy, yy, yy, nn, yy, yy, yy, yy, nn, nn, nn, nn]) rfl (by kernel_rfl) rfl rfl rfl rfl (does_fn 0 rfl rfl rfl en30 h69 (fun U hU hp hr hs => M_cmp_Compare_uint64_w (x := a.Born) (y_ := b.Born) hp hy74)) ?_
  rintro _ w75 ⟨U78, hb79, rfl, h77⟩
  have h76 : Sat W w75 [blk b4 (bytesV (List.ofFn (n := 20) b.Publisher) ++ ([(v64 b.Seq), (v64 b.Born), (v32 b.Life), (.bool b.Gone), (v16 b.Priority), (v16 b.Weight), (v16 b.Port), (.string (str b.Target))] : List Value)) 31, blk b1 (bytesV (List.ofFn (n := 20) a.Publisher) ++ ([(v64 a.Seq), (v64 a.Born), (v32 a.Life), (.bool a.Gone), (v16 a.Priority), (v16 a.Weight), (v16 a.Port), (.string (str a.Target))] : List Value)) 31] := hb79 h77
  have hS80 : Cls (fun w' => View w' (some ⟨b1, 0, none⟩) (bytesV (List.ofFn (n := 20) a.Publisher) ++ ([(v64 a.Seq), (v64 a.Born), (v32 a.Life), (.bool a.Gone), (v16 a.Priority), (v16 a.Weight), (v16 a.Port), (.string (str a.Target))] : List Value)) ∧ View w' (some ⟨b4, 0, none⟩) (bytesV (List.ofFn (n := 20) b.Publisher) ++ ([(v64 b.Seq), (v64 b.Born), (v32 b.Life), (.bool b.Gone), (v16 b.Priority), (v16 b.Weight), (v16 b.Port), (.string (str b.Target))] : List Value))) [1, 3, 6, 9, 13, 15, 18, 20, 28, 30, 33, 35, 38, 40, 43, 45] [] #[yy, yy, yy, yy, yy, yy, yy, yy, yy, yy, yy, yy, yy, yy, yy, yy, yy, yy, yy, yy, yy, nn, yy, yy, yy, yy, nn, yy, yy, yy, yy, nn, yy, yy, yy, yy, nn, yy, yy, yy, yy, nn, yy, yy, yy, yy, nn, nn, nn, nn] w75 := Cls.keep (⟨((Sat.pick [1] h76).isBlk.view0), h76.isBlk.view0⟩) (by kernel_rfl)
  refine ⟨hS80, ?_⟩
  obtain ⟨r1_7, hy81, hm⟩ := sp_bind hm
  refine GH.does (i := 21) (listed' := #[yy, yy, yy, yy, yy, yy, yy, yy, yy, yy, yy, yy, yy, yy, yy, yy, yy, yy, yy, yy, yy, yy, yy, yy, yy, yy, nn, yy, yy, yy, yy, nn, yy, yy, yy, yy, nn, yy, yy, yy, yy, nn, yy, yy, yy, yy, nn, nn, nn, nn]) rfl (by kernel_rfl) rfl rfl rfl rfl (does_fn 0 rfl rfl rfl en33 h76 (fun U hU hp hr hs => M_cmp_Compare_uint32_w (x := a.Life) (y_ := b.Life) hp hy81)) ?_
  rintro _ w82 ⟨U85, hb86, rfl, h84⟩
  have h83 : Sat W w82 [blk b4 (bytesV (List.ofFn (n := 20) b.Publisher) ++ ([(v64 b.Seq), (v64 b.Born), (v32 b.Life), (.bool b.Gone), (v16 b.Priority), (v16 b.Weight), (v16 b.Port), (.string (str b.Target))] : List Value)) 31, blk b1 (bytesV (List.ofFn (n := 20) a.Publisher) ++ ([(v64 a.Seq), (v64 a.Born), (v32 a.Life), (.bool a.Gone), (v16 a.Priority), (v16 a.Weight), (v16 a.Port), (.string (str a.Target))] : List Value)) 31] := hb86 h84
  have hS87 : Cls (fun w' => View w' (some ⟨b1, 0, none⟩) (bytesV (List.ofFn (n := 20) a.Publisher) ++ ([(v64 a.Seq), (v64 a.Born), (v32 a.Life), (.bool a.Gone), (v16 a.Priority), (v16 a.Weight), (v16 a.Port), (.string (str a.Target))] : List Value)) ∧ View w' (some ⟨b4, 0, none⟩) (bytesV (List.ofFn (n := 20) b.Publisher) ++ ([(v64 b.Seq), (v64 b.Born), (v32 b.Life), (.bool b.Gone), (v16 b.Priority), (v16 b.Weight), (v16 b.Port), (.string (str b.Target))] : List Value))) [1, 3, 6, 9, 13, 15, 18, 20, 28, 30, 33, 35, 38, 40, 43, 45] [] #[yy, yy, yy, yy, yy, yy, yy, yy, yy, yy, yy, yy, yy, yy, yy, yy, yy, yy, yy, yy, yy, yy, yy, yy, yy, yy, nn, yy, yy, yy, yy, nn, yy, yy, yy, yy, nn, yy, yy, yy, yy, nn, yy, yy, yy, yy, nn, nn, nn, nn] w82 := Cls.keep (⟨((Sat.pick [1] h83).isBlk.view0), h83.isBlk.view0⟩) (by kernel_rfl)
  refine ⟨hS87, ?_⟩
  obtain ⟨_, hy88, hm⟩ := sp_bind hm
  refine GH.does (i := 26) (listed' := #[yy, yy, yy, yy, yy, yy, yy, yy, yy, yy, yy, yy, yy, yy, yy, yy, yy, yy, yy, yy, yy, yy, yy, yy, yy, yy, yy, yy, yy, yy, yy, nn, yy, yy, yy, yy, nn, yy, yy, yy, yy, nn, yy, yy, yy, yy, nn, nn, nn, nn]) rfl (by kernel_rfl) rfl rfl rfl rfl (does_fn 0 rfl rfl rfl en34 h83 (fun U hU hp hr hs => M_bytes_Compare_vv_w (a2 := List.ofFn a.Publisher) (b := List.ofFn b.Publisher) (V.of_bytes (V.span_head (Rest.blk (Rest.front 1 hr) 0))) (by simp) (V.of_bytes (V.span_head (Rest.blk hr 0))) (by simp) hp hy88)) ?_
  rintro _ w89 ⟨U92, hb93, rfl, h91⟩
  have h90 : Sat W w89 [blk b4 (bytesV (List.ofFn (n := 20) b.Publisher) ++ ([(v64 b.Seq), (v64 b.Born), (v32 b.Life), (.bool b.Gone), (v16 b.Priority), (v16 b.Weight), (v16 b.Port), (.string (str b.Target))] : List Value)) 31, blk b1 (bytesV (List.ofFn (n := 20) a.Publisher) ++ ([(v64 a.Seq), (v64 a.Born), (v32 a.Life), (.bool a.Gone), (v16 a.Priority), (v16 a.Weight), (v16 a.Port), (.string (str a.Target))] : List Value)) 31] := hb93 h91
  have hS94 : Cls (fun w' => View w' (some ⟨b1, 0, none⟩) (bytesV (List.ofFn (n := 20) a.Publisher) ++ ([(v64 a.Seq), (v64 a.Born), (v32 a.Life), (.bool a.Gone), (v16 a.Priority), (v16 a.Weight), (v16 a.Port), (.string (str a.Target))] : List Value)) ∧ View w' (some ⟨b4, 0, none⟩) (bytesV (List.ofFn (n := 20) b.Publisher) ++ ([(v64 b.Seq), (v64 b.Born), (v32 b.Life), (.bool b.Gone), (v16 b.Priority), (v16 b.Weight), (v16 b.Port), (.string (str b.Target))] : List Value))) [1, 3, 6, 9, 13, 15, 18, 20, 28, 30, 33, 35, 38, 40, 43, 45] [] #[yy, yy, yy, yy, yy, yy, yy, yy, yy, yy, yy, yy, yy, yy, yy, yy, yy, yy, yy, yy, yy, yy, yy, yy, yy, yy, yy, yy, yy, yy, yy, nn, yy, yy, yy, yy, nn, yy, yy, yy, yy, nn, yy, yy, yy, yy, nn, nn, nn, nn] w89 := Cls.keep (⟨((Sat.pick [1] h90).isBlk.view0), h90.isBlk.view0⟩) (by kernel_rfl)
  refine ⟨hS94, ?_⟩
  obtain ⟨r1_8, hy95, hm⟩ := sp_bind hm
  refine GH.does (i := 31) (listed' := #[yy, yy, yy, yy, yy, yy, yy, yy, yy, yy, yy, yy, yy, yy, yy, yy, yy, yy, yy, yy, yy, yy, yy, yy, yy, yy, yy, yy, yy, yy, yy, yy, yy, yy, yy, yy, nn, yy, yy, yy, yy, nn, yy, yy, yy, yy, nn, nn, nn, nn]) rfl (by kernel_rfl) rfl rfl rfl rfl (does_fn 0 rfl rfl rfl en35 h90 (fun U hU hp hr hs => M_cmp_Compare_uint16_w (x := a.Priority) (y_ := b.Priority) hp hy95)) ?_
  rintro _ w96 ⟨U99, hb100, rfl, h98⟩
  have h97 : Sat W w96 [blk b4 (bytesV (List.ofFn (n := 20) b.Publisher) ++ ([(v64 b.Seq), (v64 b.Born), (v32 b.Life), (.bool b.Gone), (v16 b.Priority), (v16 b.Weight), (v16 b.Port), (.string (str b.Target))] : List Value)) 31, blk b1 (bytesV (List.ofFn (n := 20) a.Publisher) ++ ([(v64 a.Seq), (v64 a.Born), (v32 a.Life), (.bool a.Gone), (v16 a.Priority), (v16 a.Weight), (v16 a.Port), (.string (str a.Target))] : List Value)) 31] := hb100 h98
  have hS101 : Cls (fun w' => View w' (some ⟨b1, 0, none⟩) (bytesV (List.ofFn (n := 20) a.Publisher) ++ ([(v64 a.Seq), (v64 a.Born), (v32 a.Life), (.bool a.Gone), (v16 a.Priority), (v16 a.Weight), (v16 a.Port), (.string (str a.Target))] : List Value)) ∧ View w' (some ⟨b4, 0, none⟩) (bytesV (List.ofFn (n := 20) b.Publisher) ++ ([(v64 b.Seq), (v64 b.Born), (v32 b.Life), (.bool b.Gone), (v16 b.Priority), (v16 b.Weight), (v16 b.Port), (.string (str b.Target))] : List Value))) [1, 3, 6, 9, 13, 15, 18, 20, 28, 30, 33, 35, 38, 40, 43, 45] [] #[yy, yy, yy, yy, yy, yy, yy, yy, yy, yy, yy, yy, yy, yy, yy, yy, yy, yy, yy, yy, yy, yy, yy, yy, yy, yy, yy, yy, yy, yy, yy, yy, yy, yy, yy, yy, nn, yy, yy, yy, yy, nn, yy, yy, yy, yy, nn, nn, nn, nn] w96 := Cls.keep (⟨((Sat.pick [1] h97).isBlk.view0), h97.isBlk.view0⟩) (by kernel_rfl)
  refine ⟨hS101, ?_⟩
  obtain ⟨r1_9, hy102, hm⟩ := sp_bind hm
  refine GH.does (i := 36) (listed' := #[yy, yy, yy, yy, yy, yy, yy, yy, yy, yy, yy, yy, yy, yy, yy, yy, yy, yy, yy, yy, yy, yy, yy, yy, yy, yy, yy, yy, yy, yy, yy, yy, yy, yy, yy, yy, yy, yy, yy, yy, yy, nn, yy, yy, yy, yy, nn, nn, nn, nn]) rfl (by kernel_rfl) rfl rfl rfl rfl (does_fn 0 rfl rfl rfl en35 h97 (fun U hU hp hr hs => M_cmp_Compare_uint16_w (x := a.Weight) (y_ := b.Weight) hp hy102)) ?_
  rintro _ w103 ⟨U106, hb107, rfl, h105⟩
  have h104 : Sat W w103 [blk b4 (bytesV (List.ofFn (n := 20) b.Publisher) ++ ([(v64 b.Seq), (v64 b.Born), (v32 b.Life), (.bool b.Gone), (v16 b.Priority), (v16 b.Weight), (v16 b.Port), (.string (str b.Target))] : List Value)) 31, blk b1 (bytesV (List.ofFn (n := 20) a.Publisher) ++ ([(v64 a.Seq), (v64 a.Born), (v32 a.Life), (.bool a.Gone), (v16 a.Priority), (v16 a.Weight), (v16 a.Port), (.string (str a.Target))] : List Value)) 31] := hb107 h105
  have hS108 : Cls (fun w' => View w' (some ⟨b1, 0, none⟩) (bytesV (List.ofFn (n := 20) a.Publisher) ++ ([(v64 a.Seq), (v64 a.Born), (v32 a.Life), (.bool a.Gone), (v16 a.Priority), (v16 a.Weight), (v16 a.Port), (.string (str a.Target))] : List Value)) ∧ View w' (some ⟨b4, 0, none⟩) (bytesV (List.ofFn (n := 20) b.Publisher) ++ ([(v64 b.Seq), (v64 b.Born), (v32 b.Life), (.bool b.Gone), (v16 b.Priority), (v16 b.Weight), (v16 b.Port), (.string (str b.Target))] : List Value))) [1, 3, 6, 9, 13, 15, 18, 20, 28, 30, 33, 35, 38, 40, 43, 45] [] #[yy, yy, yy, yy, yy, yy, yy, yy, yy, yy, yy, yy, yy, yy, yy, yy, yy, yy, yy, yy, yy, yy, yy, yy, yy, yy, yy, yy, yy, yy, yy, yy, yy, yy, yy, yy, yy, yy, yy, yy, yy, nn, yy, yy, yy, yy, nn, nn, nn, nn] w103 := Cls.keep (⟨((Sat.pick [1] h104).isBlk.view0), h104.isBlk.view0⟩) (by kernel_rfl)
  refine ⟨hS108, ?_⟩
  obtain ⟨r1_10, hy109, hm⟩ := sp_bind hm
  refine GH.does (i := 41) (listed' := #[yy, yy, yy, yy, yy, yy, yy, yy, yy, yy, yy, yy, yy, yy, yy, yy, yy, yy, yy, yy, yy, yy, yy, yy, yy, yy, yy, yy, yy, yy, yy, yy, yy, yy, yy, yy, yy, yy, yy, yy, yy, yy, yy, yy, yy, yy, nn, nn, nn, nn]) rfl (by kernel_rfl) rfl rfl rfl rfl (does_fn 0 rfl rfl rfl en35 h104 (fun U hU hp hr hs => M_cmp_Compare_uint16_w (x := a.Port) (y_ := b.Port) hp hy109)) ?_
  rintro _ w110 ⟨U113, hb114, rfl, h112⟩
  have h111 : Sat W w110 [blk b4 (bytesV (List.ofFn (n := 20) b.Publisher) ++ ([(v64 b.Seq), (v64 b.Born), (v32 b.Life), (.bool b.Gone), (v16 b.Priority), (v16 b.Weight), (v16 b.Port), (.string (str b.Target))] : List Value)) 31, blk b1 (bytesV (List.ofFn (n := 20) a.Publisher) ++ ([(v64 a.Seq), (v64 a.Born), (v32 a.Life), (.bool a.Gone), (v16 a.Priority), (v16 a.Weight), (v16 a.Port), (.string (str a.Target))] : List Value)) 31] := hb114 h112
  have hS115 : Cls (fun w' => View w' (some ⟨b1, 0, none⟩) (bytesV (List.ofFn (n := 20) a.Publisher) ++ ([(v64 a.Seq), (v64 a.Born), (v32 a.Life), (.bool a.Gone), (v16 a.Priority), (v16 a.Weight), (v16 a.Port), (.string (str a.Target))] : List Value)) ∧ View w' (some ⟨b4, 0, none⟩) (bytesV (List.ofFn (n := 20) b.Publisher) ++ ([(v64 b.Seq), (v64 b.Born), (v32 b.Life), (.bool b.Gone), (v16 b.Priority), (v16 b.Weight), (v16 b.Port), (.string (str b.Target))] : List Value))) [1, 3, 6, 9, 13, 15, 18, 20, 28, 30, 33, 35, 38, 40, 43, 45] [] #[yy, yy, yy, yy, yy, yy, yy, yy, yy, yy, yy, yy, yy, yy, yy, yy, yy, yy, yy, yy, yy, yy, yy, yy, yy, yy, yy, yy, yy, yy, yy, yy, yy, yy, yy, yy, yy, yy, yy, yy, yy, yy, yy, yy, yy, yy, nn, nn, nn, nn] w110 := Cls.keep (⟨((Sat.pick [1] h111).isBlk.view0), h111.isBlk.view0⟩) (by kernel_rfl)
  refine ⟨hS115, ?_⟩
  obtain ⟨r1_11, hy116, hm⟩ := sp_bind hm
  refine GH.does (i := 46) (listed' := #[yy, yy, yy, yy, yy, yy, yy, yy, yy, yy, yy, yy, yy, yy, yy, yy, yy, yy, yy, yy, yy, yy, yy, yy, yy, yy, yy, yy, yy, yy, yy, yy, yy, yy, yy, yy, yy, yy, yy, yy, yy, yy, yy, yy, yy, yy, yy, nn, nn, nn]) rfl (by kernel_rfl) rfl rfl rfl rfl (does_fn 0 rfl rfl rfl en36 h111 (fun U hU hp hr hs => M_cmp_Compare_string_w (x := a.Target) (y_ := b.Target) hp hy116)) ?_
  rintro _ w117 ⟨U120, hb121, rfl, h119⟩
  have h118 : Sat W w117 [blk b4 (bytesV (List.ofFn (n := 20) b.Publisher) ++ ([(v64 b.Seq), (v64 b.Born), (v32 b.Life), (.bool b.Gone), (v16 b.Priority), (v16 b.Weight), (v16 b.Port), (.string (str b.Target))] : List Value)) 31, blk b1 (bytesV (List.ofFn (n := 20) a.Publisher) ++ ([(v64 a.Seq), (v64 a.Born), (v32 a.Life), (.bool a.Gone), (v16 a.Priority), (v16 a.Weight), (v16 a.Port), (.string (str a.Target))] : List Value)) 31] := hb121 h119
  have hS122 : Cls (fun w' => View w' (some ⟨b1, 0, none⟩) (bytesV (List.ofFn (n := 20) a.Publisher) ++ ([(v64 a.Seq), (v64 a.Born), (v32 a.Life), (.bool a.Gone), (v16 a.Priority), (v16 a.Weight), (v16 a.Port), (.string (str a.Target))] : List Value)) ∧ View w' (some ⟨b4, 0, none⟩) (bytesV (List.ofFn (n := 20) b.Publisher) ++ ([(v64 b.Seq), (v64 b.Born), (v32 b.Life), (.bool b.Gone), (v16 b.Priority), (v16 b.Weight), (v16 b.Port), (.string (str b.Target))] : List Value))) [1, 3, 6, 9, 13, 15, 18, 20, 28, 30, 33, 35, 38, 40, 43, 45] [] #[yy, yy, yy, yy, yy, yy, yy, yy, yy, yy, yy, yy, yy, yy, yy, yy, yy, yy, yy, yy, yy, yy, yy, yy, yy, yy, yy, yy, yy, yy, yy, yy, yy, yy, yy, yy, yy, yy, yy, yy, yy, yy, yy, yy, yy, yy, yy, nn, nn, nn] w117 := Cls.keep (⟨((Sat.pick [1] h118).isBlk.view0), h118.isBlk.view0⟩) (by kernel_rfl)
  refine ⟨hS122, ?_⟩
  refine GH.does (i := 47) (listed' := #[yy, yy, yy, yy, yy, yy, yy, yy, yy, yy, yy, yy, yy, yy, yy, yy, yy, yy, yy, yy, yy, yy, yy, yy, yy, yy, yy, yy, yy, yy, yy, yy, yy, yy, yy, yy, yy, yy, yy, yy, yy, yy, yy, yy, yy, yy, yy, yy, nn, nn]) rfl (by kernel_rfl) rfl rfl rfl rfl (does_lit (E := elInt) (l := [r1_2, r1_5, r1_6, r1_7, Lib.compareBytes (List.ofFn a.Publisher) (List.ofFn b.Publisher), r1_8, r1_9, r1_10, r1_11]) (vs := [(vI r1_2), (vI r1_5), (vI r1_6), (vI r1_7), (vI (Lib.compareBytes (List.ofFn a.Publisher) (List.ofFn b.Publisher))), (vI r1_8), (vI r1_9), (vI r1_10), (vI r1_11)]) (cs := [(vI r1_2), (vI r1_5), (vI r1_6), (vI r1_7), (vI (Lib.compareBytes (List.ofFn a.Publisher) (List.ofFn b.Publisher))), (vI r1_8), (vI r1_9), (vI r1_10), (vI r1_11)]) (e := 3) h118 rfl (by kernel_rfl) rfl rfl (by decide)) ?_
  rintro _ w124 ⟨a123, rfl, h125⟩
  have hS126 : Cls (fun w' => View w' (some ⟨b1, 0, none⟩) (bytesV (List.ofFn (n := 20) a.Publisher) ++ ([(v64 a.Seq), (v64 a.Born), (v32 a.Life), (.bool a.Gone), (v16 a.Priority), (v16 a.Weight), (v16 a.Port), (.string (str a.Target))] : List Value)) ∧ View w' (some ⟨b4, 0, none⟩) (bytesV (List.ofFn (n := 20) b.Publisher) ++ ([(v64 b.Seq), (v64 b.Born), (v32 b.Life), (.bool b.Gone), (v16 b.Priority), (v16 b.Weight), (v16 b.Port), (.string (str b.Target))] : List Value))) [1, 3, 6, 9, 13, 15, 18, 20, 28, 30, 33, 35, 38, 40, 43, 45] [] #[yy, yy, yy, yy, yy, yy, yy, yy, yy, yy, yy, yy, yy, yy, yy, yy, yy, yy, yy, yy, yy, yy, yy, yy, yy, yy, yy, yy, yy, yy, yy, yy, yy, yy, yy, yy, yy, yy, yy, yy, yy, yy, yy, yy, yy, yy, yy, yy, nn, nn] w124 := Cls.keep (⟨((Sat.pick [2] h125).isBlk.view0), ((Sat.pick [1] h125).isBlk.view0)⟩) (by kernel_rfl)
  refine ⟨hS126, ?_⟩
  obtain ⟨r1_12, hy127, hm⟩ := sp_bind hm
  refine GH.does (i := 48) (listed' := #[yy, yy, yy, yy, yy, yy, yy, yy, yy, yy, yy, yy, yy, yy, yy, yy, yy, yy, yy, yy, yy, yy, yy, yy, yy, yy, yy, yy, yy, yy, yy, yy, yy, yy, yy, yy, yy, yy, yy, yy, yy, yy, yy, yy, yy, yy, yy, yy, yy, nn]) rfl (by kernel_rfl) rfl rfl rfl rfl (does_fn 0 rfl rfl rfl en29 h125 (fun U hU hp hr hs => M_cmp_Or_int_v_w (Rest.view hr) (Sat.own_cap h125).1 hp hy127)) ?_
  rintro _ w128 ⟨U131, hb132, rfl, h130⟩
  have h129 : Sat W w128 [ow elInt a123 9 3 [r1_2, r1_5, r1_6, r1_7, Lib.compareBytes (List.ofFn a.Publisher) (List.ofFn b.Publisher), r1_8, r1_9, r1_10, r1_11], blk b4 (bytesV (List.ofFn (n := 20) b.Publisher) ++ ([(v64 b.Seq), (v64 b.Born), (v32 b.Life), (.bool b.Gone), (v16 b.Priority), (v16 b.Weight), (v16 b.Port), (.string (str b.Target))] : List Value)) 31, blk b1 (bytesV (List.ofFn (n := 20) a.Publisher) ++ ([(v64 a.Seq), (v64 a.Born), (v32 a.Life), (.bool a.Gone), (v16 a.Priority), (v16 a.Weight), (v16 a.Port), (.string (str a.Target))] : List Value)) 31] := hb132 h130
  have hS133 : Cls (fun w' => View w' (some ⟨b1, 0, none⟩) (bytesV (List.ofFn (n := 20) a.Publisher) ++ ([(v64 a.Seq), (v64 a.Born), (v32 a.Life), (.bool a.Gone), (v16 a.Priority), (v16 a.Weight), (v16 a.Port), (.string (str a.Target))] : List Value)) ∧ View w' (some ⟨b4, 0, none⟩) (bytesV (List.ofFn (n := 20) b.Publisher) ++ ([(v64 b.Seq), (v64 b.Born), (v32 b.Life), (.bool b.Gone), (v16 b.Priority), (v16 b.Weight), (v16 b.Port), (.string (str b.Target))] : List Value))) [1, 3, 6, 9, 13, 15, 18, 20, 28, 30, 33, 35, 38, 40, 43, 45] [] #[yy, yy, yy, yy, yy, yy, yy, yy, yy, yy, yy, yy, yy, yy, yy, yy, yy, yy, yy, yy, yy, yy, yy, yy, yy, yy, yy, yy, yy, yy, yy, yy, yy, yy, yy, yy, yy, yy, yy, yy, yy, yy, yy, yy, yy, yy, yy, yy, yy, nn] w128 := Cls.keep (⟨((Sat.pick [2] h129).isBlk.view0), ((Sat.pick [1] h129).isBlk.view0)⟩) (by kernel_rfl)
  refine ⟨hS133, ?_⟩
  refine GH.yl (i := 49) (listed' := #[yy, yy, yy, yy, yy, yy, yy, yy, yy, yy, yy, yy, yy, yy, yy, yy, yy, yy, yy, yy, yy, yy, yy, yy, yy, yy, yy, yy, yy, yy, yy, yy, yy, yy, yy, yy, yy, yy, yy, yy, yy, yy, yy, yy, yy, yy, yy, yy, yy, yy]) rfl (by kernel_rfl) rfl (NP.next NP.body) rfl rfl rfl (fun w' => yl_assign rfl) hS133 (fun hS134 => ?_)
  refine GH.done (by kernel_rfl) ?_
  refine QA.then_normal ?_
  refine C.ret ?_
  refine QA.ret1 rfl rfl ?_
  obtain rfl := sp_ret1 hm
  exact ⟨rfl, (Sat.pick [] h129)⟩
set_option maxRecDepth 20000 in
set_option maxHeartbeats 1000000 in
theorem M_slices_Insert_Instance_ov_w {W : Base} {w : World} {a : Option Addr} {c : Nat} {s : List G_api_Instance} {i : Int} {a2 : Option Addr} {c2 : Nat} {v : List G_api_Instance} {n_s : Nat} (hn_s : n_s = s.length) (ht_c : c = s.length) (hv_v : V W a2 (el_G_api_Instance.row v)) (hq_v : v.length ≤ c2) (h : Sat W w [ow el_G_api_Instance a c 31 s]) {r3 : List G_api_Instance} (hm : M_slices_Insert_Instance_ov s i v = some r3) :
    Calls Try.prog 26 #[(.slice a n_s c), (vI i), (.slice a2 v.length c2)] w (Ret fun v w' => ∃ r1 : Option Addr, ∃ r2 : Nat, v = (.slice r1 r3.length r2) ∧ Sat W w' [ow el_G_api_Instance r1 r2 31 r3]) := by
  subst hn_s
  unfold M_slices_Insert_Instance_ov at hm
  refine C.enter (N := 95) Try.func26 rfl Try.ntmps26 rfl ?_
  show C _ _ _ [(0, (.slice a s.length c)), (1, (vI i)), (2, (.slice a2 v.length c2))] _ _
  refine C.seq ?_
  refine C.region ?_
  refine G.yl (yl_assign rfl) rfl rfl rfl ?_
  refine G.nil ?_
  refine QA.then_normal ?_
  refine C.seq ?_
  refine C.region ?_
  refine G.yl (yl_move rfl) rfl rfl rfl ?_
  refine G.yl (yl_move rfl) rfl rfl rfl ?_
  obtain ⟨a1, ha2⟩ : ∃ p', Cut p' a c i.toNat 28 := Cut.mk _ _ _ _
  obtain ⟨hc3, hm⟩ := sp_chk hm
  refine G.yl (yl_slL (E := el_G_api_Instance) (l := s) sl22 rfl rfl rfl hc3 ha2) rfl rfl rfl ?_
  refine G.nil ?_
  refine QA.then_normal ?_
  refine C.seq ?_
  refine C.region ?_
  refine G.yl (yl_move rfl) rfl rfl rfl ?_
  refine G.yl (yl_lenE Try.underlying22 rfl) rfl rfl rfl ?_
  refine G.yl (yl_assign rfl) rfl rfl rfl ?_
  refine G.nil ?_
  refine QA.then_normal ?_
  refine C.seq ?_
  refine C.seq ?_
  refine C.region ?_
  refine G.yl (yl_move rfl) rfl rfl rfl ?_
  refine G.yl (yl_eqI rfl rfl) rfl rfl rfl ?_
  refine G.nil ?_
  refine QA.then_normal ?_
  rcases sp_ite hm with ⟨hc4, hm⟩ | ⟨hc4, hm⟩
  · refine C.cond_t rfl (dec_t hc4) ?_
    refine C.seq ?_
    refine C.region ?_
    refine G.yl (yl_move rfl) rfl rfl rfl ?_
    refine G.yl (yl_assign rfl) rfl rfl rfl ?_
    refine G.nil ?_
    refine QA.then_normal ?_
    refine C.ret ?_
    refine QA.then_ret ?_
    refine QA.ret1 rfl rfl ?_
    obtain rfl := sp_ret1 hm
    exact ⟨a, c, rfl, (Sat.pick [0] h)⟩
  · refine C.cond_f rfl (dec_f hc4) ?_
    refine C.skip ?_
    refine QA.then_normal ?_
    refine C.seq ?_
    refine C.region ?_
    refine G.yl (yl_move rfl) rfl rfl rfl ?_
    refine G.yl (yl_lenE Try.underlying22 rfl) rfl rfl rfl ?_
    refine G.yl (yl_assign rfl) rfl rfl rfl ?_
    refine G.nil ?_
    refine QA.then_normal ?_
    refine C.seq ?_
    refine C.seq ?_
    refine C.region ?_
    refine G.yl (yl_move rfl) rfl rfl rfl ?_
    refine G.yl (yl_move rfl) rfl rfl rfl ?_
    refine G.yl (yl_eqI rfl rfl) rfl rfl rfl ?_
    refine G.nil ?_
    refine QA.then_normal ?_
    rcases sp_ite hm with ⟨hc5, hm⟩ | ⟨hc5, hm⟩
    · refine C.cond_t rfl (dec_t hc5) ?_
      refine C.seq ?_
      refine C.region ?_
      refine G.yl (yl_move rfl) rfl rfl rfl ?_
      refine G.yl (yl_move rfl) rfl rfl rfl ?_
      obtain ⟨hc6, hm⟩ := sp_chk hm
      refine G.does (does_app (E := el_G_api_Instance) (l := s) (l2 := v) Try.underlying22 el31 h rfl rfl rfl rfl (by decide) (hv_v.at_ h) hc6 (by decide)) rfl rfl rfl ?_
      rintro _ w9 ⟨a7, c8, rfl, h10⟩
      refine G.yl (yl_assign rfl) rfl rfl rfl ?_
      refine G.nil ?_
      refine QA.then_normal ?_
      refine C.ret ?_
      refine QA.then_ret ?_
      refine QA.ret1 rfl rfl ?_
      obtain rfl := sp_ret1 hm
      exact ⟨a7, c8, rfl, (Sat.pick [0] h10)⟩
    · refine C.cond_f rfl (dec_f hc5) ?_
      refine C.skip ?_
      refine QA.then_normal ?_
      refine C.seq ?_
      refine C.seq ?_
      refine C.region ?_
      refine G.yl (yl_move rfl) rfl rfl rfl ?_
      refine G.yl (yl_move rfl) rfl rfl rfl ?_
      obtain ⟨hc11, hm⟩ := sp_chk hm
      refine G.yl (yl_addI rfl rfl hc11) rfl rfl rfl ?_
      refine G.yl (yl_move rfl) rfl rfl rfl ?_
      refine G.yl (yl_cap Try.underlying22 rfl) rfl rfl rfl ?_
      refine G.yl (yl_gtI rfl rfl) rfl rfl rfl ?_
      refine G.nil ?_
      refine QA.then_normal ?_
      refine C.cond_t rfl (decide_eq_true (by omega)) ?_
      refine C.seq ?_
      refine C.region ?_
      refine G.yl (yl_move rfl) rfl rfl rfl ?_
      refine G.yl (yl_move rfl) rfl rfl rfl ?_
      obtain ⟨hc12, hm⟩ := sp_chk hm
      refine G.yl (yl_slH (E := el_G_api_Instance) (l := s) sl22 rfl rfl rfl hc12 (Sat.own_cap h).1) rfl rfl rfl ?_
      refine G.yl (yl_move rfl) rfl rfl rfl ?_
      refine G.yl (yl_move rfl) rfl rfl rfl ?_
      obtain ⟨hc13, hm⟩ := sp_chk hm
      refine G.yl (yl_addI rfl rfl hc13) rfl rfl rfl ?_
      refine G.yl (yl_move rfl) rfl rfl rfl ?_
      obtain ⟨hc14, hm⟩ := sp_chk hm
      refine G.yl (yl_subI rfl rfl hc14) rfl rfl rfl ?_
      obtain ⟨hc15, hm⟩ := sp_chk hm
      refine G.does (does_app0G (E := el_G_api_Instance) (l := s.take i.toNat) (r := (G_api_Instance.mk (fun _ => 0) 0 0 0 false 0 0 0 ([] : List UInt8))) Try.underlying22 Try.underlying3 el31 z31 rfl (by decide) h (View.rtake (Sat.own_view h) i.toNat) rfl rfl rfl hc15 (by decide) (by first | omega | (simp only [List.length_take]; omega))) rfl rfl rfl ?_
      rintro _ w18 ⟨a16, c17, rfl, h19⟩
      refine G.yl (yl_assign rfl) rfl rfl rfl ?_
      refine G.nil ?_
      refine QA.then_normal ?_
      refine C.seq ?_
      refine C.region ?_
      refine G.yl (yl_move rfl) rfl rfl rfl ?_
      refine G.yl (yl_move rfl) rfl rfl rfl ?_
      obtain ⟨a20, ha21⟩ : ∃ p', Cut p' a16 c17 i.toNat 28 := Cut.mk _ _ _ _
      obtain ⟨hc22, hm⟩ := sp_chk hm
      refine G.yl (yl_slL (E := el_G_api_Instance) (l := (s.take i.toNat) ++ (List.replicate ((((s.length : Int) + (v.length : Int)) - i).toNat) (G_api_Instance.mk (fun _ => 0) 0 0 0 false 0 0 0 ([] : List UInt8)))) sl22 rfl rfl rfl hc22 ha21) rfl rfl rfl ?_
      refine G.yl (yl_move rfl) rfl rfl rfl ?_
      refine G.does (does_cpE (E := el_G_api_Instance) (l := (s.take i.toNat) ++ (List.replicate ((((s.length : Int) + (v.length : Int)) - i).toNat) (G_api_Instance.mk (fun _ => 0) 0 0 0 false 0 0 0 ([] : List UInt8)))) (l2 := v) (X := ((s.take i.toNat) ++ (List.replicate ((((s.length : Int) + (v.length : Int)) - i).toNat) (G_api_Instance.mk (fun _ => 0) 0 0 0 false 0 0 0 ([] : List UInt8)))).drop i.toNat) (m := i.toNat) h19 Try.underlying22 sz31 rfl rfl rfl rfl (by decide) (hv_v.at_ h19) (.inr ha21) (by simp [copyL_length] <;> omega)) rfl rfl rfl ?_
      rintro _ w23 ⟨rfl, h24⟩
      refine G.nil ?_
      refine QA.then_normal ?_
      refine C.seq ?_
      refine C.draw (V := fun w' => True) (nd := []) (sp := []) (n := 9) rfl h24 rfl rfl ?_
      intro w25 h26
      have hS27 : Cls (fun w' => True) [] [] #[false, false, false, false, false, false, false, false, false] w25 := Cls.keep (trivial) (by kernel_rfl)
      refine GH.yl (i := 0) (listed' := #[true, false, false, false, false, false, false, false, false]) rfl (by kernel_rfl) rfl (NP.next (NP.next NP.body)) rfl rfl rfl (fun w' => yl_move rfl) hS27 (fun hS28 => ?_)
      refine GH.yl (i := 1) (listed' := #[true, true, false, false, false, false, false, false, false]) rfl (by kernel_rfl) rfl (NP.next (NP.next NP.body)) rfl rfl rfl (fun w' => yl_move rfl) hS28 (fun hS29 => ?_)
      refine GH.yl (i := 2) (listed' := #[true, true, true, false, false, false, false, false, false]) rfl (by kernel_rfl) rfl (NP.next (NP.next NP.body)) rfl rfl rfl (fun w' => yl_move rfl) hS29 (fun hS30 => ?_)
      obtain ⟨hc31, hm⟩ := sp_chk hm
      refine GH.yl (i := 3) (listed' := #[true, true, true, true, false, false, false, false, false]) rfl (by kernel_rfl) rfl (NP.next (NP.next NP.body)) rfl rfl rfl (fun w' => yl_addI rfl rfl hc31) hS30 (fun hS32 => ?_)
      obtain ⟨a33, ha34⟩ : ∃ p', Cut p' a16 c17 ((i + (v.length : Int)).toNat) 28 := Cut.mk _ _ _ _
      obtain ⟨hc35, hm⟩ := sp_chk hm
      refine GH.yl (i := 4) (listed' := #[true, true, true, true, true, false, false, false, false]) rfl (by kernel_rfl) rfl (NP.next (NP.next NP.body)) rfl rfl rfl (fun w' => yl_slL (E := el_G_api_Instance) (l := copyL ((s.take i.toNat) ++ (List.replicate ((((s.length : Int) + (v.length : Int)) - i).toNat) (G_api_Instance.mk (fun _ => 0) 0 0 0 false 0 0 0 ([] : List UInt8)))) i.toNat (v.take (min v.length ((((s.take i.toNat) ++ (List.replicate ((((s.length : Int) + (v.length : Int)) - i).toNat) (G_api_Instance.mk (fun _ => 0) 0 0 0 false 0 0 0 ([] : List UInt8)))).drop i.toNat).length)))) sl22 rfl rfl (by simp [copyL_length]) (by simpa [copyL_length] using hc35) ha34) hS32 (fun hS36 => ?_)
      refine GH.yl (i := 5) (listed' := #[true, true, true, true, true, true, false, false, false]) rfl (by kernel_rfl) rfl (NP.next (NP.next NP.body)) rfl rfl rfl (fun w' => yl_move rfl) hS36 (fun hS37 => ?_)
      refine GH.yl (i := 6) (listed' := #[true, true, true, true, true, true, true, false, false]) rfl (by kernel_rfl) rfl (NP.next (NP.next NP.body)) rfl rfl rfl (fun w' => yl_move rfl) hS37 (fun hS38 => ?_)
      obtain ⟨a39, ha40⟩ : ∃ p', Cut p' a c i.toNat 28 := Cut.mk _ _ _ _
      obtain ⟨hc41, hm⟩ := sp_chk hm
      refine GH.yl (i := 7) (listed' := #[true, true, true, true, true, true, true, true, false]) rfl (by kernel_rfl) rfl (NP.next (NP.next NP.body)) rfl rfl rfl (fun w' => yl_slL (E := el_G_api_Instance) (l := s) sl22 rfl rfl rfl hc41 ha40) hS38 (fun hS42 => ?_)
      refine GH.does (i := 8) (listed' := #[true, true, true, true, true, true, true, true, true]) rfl (by kernel_rfl) rfl rfl rfl rfl (does_cpE (E := el_G_api_Instance) (l := copyL ((s.take i.toNat) ++ (List.replicate ((((s.length : Int) + (v.length : Int)) - i).toNat) (G_api_Instance.mk (fun _ => 0) 0 0 0 false 0 0 0 ([] : List UInt8)))) i.toNat (v.take (min v.length ((((s.take i.toNat) ++ (List.replicate ((((s.length : Int) + (v.length : Int)) - i).toNat) (G_api_Instance.mk (fun _ => 0) 0 0 0 false 0 0 0 ([] : List UInt8)))).drop i.toNat).length)))) (l2 := s.drop i.toNat) (X := (copyL ((s.take i.toNat) ++ (List.replicate ((((s.length : Int) + (v.length : Int)) - i).toNat) (G_api_Instance.mk (fun _ => 0) 0 0 0 false 0 0 0 ([] : List UInt8)))) i.toNat (v.take (min v.length ((((s.take i.toNat) ++ (List.replicate ((((s.length : Int) + (v.length : Int)) - i).toNat) (G_api_Instance.mk (fun _ => 0) 0 0 0 false 0 0 0 ([] : List UInt8)))).drop i.toNat).length)))).drop ((i + (v.length : Int)).toNat)) (m := (i + (v.length : Int)).toNat) h26 Try.underlying22 sz31 rfl rfl (by simp [copyL_length]) rfl (by decide) (View.cut (Sat.own_view (Sat.pick [1] h26)) ha40 (Sat.own_cap (Sat.pick [1] h26)).1) (.inr ha34) (by simp [copyL_length] <;> omega)) ?_
      rintro _ w43 ⟨rfl, h44⟩
      have hS45 : Cls (fun w' => True) [] [] #[true, true, true, true, true, true, true, true, true] w43 := Cls.keep (trivial) (by kernel_rfl)
      refine ⟨hS45, ?_⟩
      refine GH.done (by kernel_rfl) ?_
      refine QA.then_normal ?_
      refine C.seq ?_
      refine C.region ?_
      refine G.yl (yl_move rfl) rfl rfl rfl ?_
      refine G.yl (yl_assign rfl) rfl rfl rfl ?_
      refine G.nil ?_
      refine QA.then_normal ?_
      refine C.ret ?_
      refine QA.then_ret ?_
      refine QA.ret1 rfl rfl ?_
      obtain rfl := sp_ret1 hm
      exact ⟨a16, c17, (by simp [copyL_length]), (Sat.pick [0] h44)⟩
set_option maxRecDepth 20000 in
set_option maxHeartbeats 1000000 in
theorem M_inst_End_w {W : Base} {w : World} {i : G_api_Instance}  (h : Sat W w []) {r1 : UInt64} (hm : M_inst_End i = some r1) :
    Calls Try.prog 51 #[(.agg (bytesV (List.ofFn (n := 20) i.Publisher) ++ ([(v64 i.Seq), (v64 i.Born), (v32 i.Life), (.bool i.Gone), (v16 i.Priority), (v16 i.Weight), (v16 i.Port), (.string (str i.Target))] : List Value)).toArray)] w (Ret fun v w' => v = (v64 r1) ∧ Sat W w' []) := by
  unfold M_inst_End at hm
  refine C.enter (N := 16) Try.func51 rfl Try.ntmps51 rfl ?_
  show C _ _ _ [(0, (.agg (bytesV (List.ofFn (n := 20) i.Publisher) ++ ([(v64 i.Seq), (v64 i.Born), (v32 i.Life), (.bool i.Gone), (v16 i.Priority), (v16 i.Weight), (v16 i.Port), (.string (str i.Target))] : List Value)).toArray))] _ _
  refine C.seq ?_
  refine C.region ?_
  refine G.does (does_box (cs := (bytesV (List.ofFn (n := 20) i.Publisher) ++ ([(v64 i.Seq), (v64 i.Born), (v32 i.Life), (.bool i.Gone), (v16 i.Priority), (v16 i.Weight), (v16 i.Port), (.string (str i.Target))] : List Value))) h rfl rfl) rfl rfl rfl ?_
  rintro _ w2 ⟨b1, rfl, h3⟩
  refine G.yl (yl_assign rfl) rfl rfl rfl ?_
  refine G.nil ?_
  refine QA.then_normal ?_
  refine C.seq ?_
  refine C.seq ?_
  refine C.region ?_
  refine G.yl (yl_fieldAddr fo31_2 rfl) rfl rfl rfl ?_
  refine G.yl (yl_load (v := (v64 i.Born)) ag27 rfl (View.at_ (j := 1) (View.span_tail h3.isBlk.view0) rfl)) rfl rfl rfl ?_
  refine G.yl (yl_fieldAddr fo31_3 rfl) rfl rfl rfl ?_
  refine G.yl (yl_load (v := (v32 i.Life)) ag28 rfl (View.at_ (j := 2) (View.span_tail h3.isBlk.view0) rfl)) rfl rfl rfl ?_
  refine G.yl (yl_32to64 us28 Try.underlying27 rfl) rfl rfl rfl ?_
  refine G.yl (yl_sub64 (a := 18446744073709551615) rfl rfl) rfl rfl rfl ?_
  refine G.yl (yl_gt64 rfl rfl) rfl rfl rfl ?_
  refine G.nil ?_
  refine QA.then_normal ?_
  rcases sp_ite hm with ⟨hc4, hm⟩ | ⟨hc4, hm⟩
  · refine C.cond_t rfl (dec_t hc4) ?_
    refine C.seq ?_
    refine C.region ?_
    refine G.yl (yl_assign rfl) rfl rfl rfl ?_
    refine G.nil ?_
    refine QA.then_normal ?_
    refine C.ret ?_
    refine QA.then_ret ?_
    refine QA.ret1 rfl rfl ?_
    obtain rfl := sp_ret1 hm
    exact ⟨rfl, (Sat.pick [] h3)⟩
  · refine C.cond_f rfl (dec_f hc4) ?_
    refine C.skip ?_
    refine QA.then_normal ?_
    refine C.seq ?_
    refine C.region ?_
    refine G.yl (yl_fieldAddr fo31_2 rfl) rfl rfl rfl ?_
    refine G.yl (yl_load (v := (v64 i.Born)) ag27 rfl (View.at_ (j := 1) (View.span_tail h3.isBlk.view0) rfl)) rfl rfl rfl ?_
    refine G.yl (yl_fieldAddr fo31_3 rfl) rfl rfl rfl ?_
    refine G.yl (yl_load (v := (v32 i.Life)) ag28 rfl (View.at_ (j := 2) (View.span_tail h3.isBlk.view0) rfl)) rfl rfl rfl ?_
    refine G.yl (yl_32to64 us28 Try.underlying27 rfl) rfl rfl rfl ?_
    refine G.yl (yl_add64 rfl rfl) rfl rfl rfl ?_
    refine G.yl (yl_assign rfl) rfl rfl rfl ?_
    refine G.nil ?_
    refine QA.then_normal ?_
    refine C.ret ?_
    refine QA.ret1 rfl rfl ?_
    obtain rfl := sp_ret1 hm
    exact ⟨rfl, (Sat.pick [] h3)⟩
set_option maxRecDepth 20000 in
set_option maxHeartbeats 1000000 in
theorem M_roster_first_v_w {W : Base} {w : World} {a : Option Addr} {c : Nat} {l : List G_api_Instance} (hv_l : V W a (el_G_api_Instance.row l)) (hq_l : l.length ≤ c) (h : Sat W w []) {r1 : Int} (hm : M_roster_first_v l = some r1) :
    Calls Try.prog 27 #[(.slice a l.length c)] w (Ret fun v w' => v = (vI r1) ∧ Sat W w' []) := by
  unfold M_roster_first_v at hm
  refine C.enter (N := 24) Try.func27 rfl Try.ntmps27 rfl ?_
  show C _ _ _ [(0, (.slice a l.length c))] _ _
  refine C.seq ?_
  refine C.region ?_
  refine G.yl (yl_assign rfl) rfl rfl rfl ?_
  refine G.nil ?_
  refine QA.then_normal ?_
  refine C.seq ?_
  refine C.region ?_
  refine G.yl (yl_assign rfl) rfl rfl rfl ?_
  refine G.nil ?_
  refine QA.then_normal ?_
  refine C.seq ?_
  refine C.seq ?_
  refine C.region ?_
  refine G.yl (yl_move rfl) rfl rfl rfl ?_
  refine G.yl (yl_lenE Try.underlying22 rfl) rfl rfl rfl ?_
  refine G.yl (yl_move rfl) rfl rfl rfl ?_
  refine G.nil ?_
  refine QA.then_normal ?_
  refine C.block ?_
  obtain ⟨o, ho1, hm2⟩ := sp_bind hm
  refine C.left (γ := Int) (.exit 0) (fun g => match g with | at__2 => [(2, (vI 0)), (3, (vI at__2))]) (fun g ww => match g with | at__2 => at__2 = o ∧ Sat W ww []) ?_ ?_
  · refine C.loopO (γ := Int × Int) (fun g => match g with | (at_, t8) => [(0, (.slice a l.length c)), (2, (vI 0)), (3, (vI at_)), (6, (.slice a l.length c)), (7, (vI (l.length : Int))), (8, (vI t8))]) (fun g ww => match g with | (at_, t8) => Sat W ww []) (fun g => match g with | (at_, t8) => (at_, t8)) (0, 0) ho1 (Sub.of ⟨rfl, rfl, rfl, rfl, rfl, rfl, trivial⟩) (Sat.pick [] h) ?_
    rintro ⟨at_, t8⟩ k5 w3 y_ h4 hm hg6
    show C _ _ _ [(0, (.slice a l.length c)), (2, (vI 0)), (3, (vI at_)), (6, (.slice a l.length c)), (7, (vI (l.length : Int))), (8, (vI t8))] _ _
    change M_roster_first_v_b1 l at_ t8 = some y_ at hm
    unfold M_roster_first_v_b1 at hm
    refine C.seq ?_
    refine C.region ?_
    refine G.yl (yl_ltI rfl rfl) rfl rfl rfl ?_
    refine G.nil ?_
    refine QA.then_normal ?_
    refine C.seq ?_
    rcases sp_ite hm with ⟨hc7, hm⟩ | ⟨hc7, hm⟩
    · refine C.cond_t rfl (dec_t hc7) ?_
      refine C.skip ?_
      refine QA.then_normal ?_
      refine C.seq ?_
      refine C.block ?_
      refine C.seq ?_
      refine C.region ?_
      refine G.yl (yl_move rfl) rfl rfl rfl ?_
      obtain ⟨x, hy8, hm⟩ := sp_bind hm
      refine G.yl (yl_ixP (l := l) sl22 rfl rfl (View.isA (E := el_G_api_Instance) (hv_l.at_ h4) (by decide) (at?_lt hy8)) rfl (at?_lt hy8)) rfl rfl rfl ?_
      refine G.yl (yl_ldE (E := el_G_api_Instance) ag31 sz31 rfl (hv_l.at_ h4) (at?_some hy8).2) rfl rfl rfl ?_
      refine G.does (does_alloc (cs := (bytesV (List.ofFn (n := 20) (fun _ => 0)) ++ ([(.int .u64 0), (.int .u64 0), (.int .u32 0), (.bool false), (.int .u16 0), (.int .u16 0), (.int .u16 0), (.string (str ([] : List UInt8)))] : List Value))) h4 z31 rfl) rfl rfl rfl ?_
      rintro _ w10 ⟨b9, rfl, h11⟩
      refine G.yl (yl_assign rfl) rfl rfl rfl ?_
      refine G.unit (does_store (vs := (bytesV (List.ofFn (n := 20) x.Publisher) ++ ([(v64 x.Seq), (v64 x.Born), (v32 x.Life), (.bool x.Gone), (v16 x.Priority), (v16 x.Weight), (v16 x.Port), (.string (str x.Target))] : List Value))) h11 sz31 rfl rfl rfl (by simp [bytesV_length]) (List.forall_mem_append.2 ⟨(bytesV_one _), (List.forall_mem_cons.2 ⟨rfl, (List.forall_mem_cons.2 ⟨rfl, (List.forall_mem_cons.2 ⟨rfl, (List.forall_mem_cons.2 ⟨rfl, (List.forall_mem_cons.2 ⟨rfl, (List.forall_mem_cons.2 ⟨rfl, (List.forall_mem_cons.2 ⟨rfl, (List.forall_mem_cons.2 ⟨rfl, (fun _ hh => by cases hh)⟩)⟩)⟩)⟩)⟩)⟩)⟩)⟩)⟩) (by simp [bytesV_length])) rfl rfl ?_
      rintro _ w12 h14
      have h13 : Sat W w12 [blk b9 (bytesV (List.ofFn (n := 20) x.Publisher) ++ ([(v64 x.Seq), (v64 x.Born), (v32 x.Life), (.bool x.Gone), (v16 x.Priority), (v16 x.Weight), (v16 x.Port), (.string (str x.Target))] : List Value)) 31] := sl_blk (setN_all _ _ (by simp [bytesV_length])) h14
      refine G.nil ?_
      refine QA.then_normal ?_
      refine C.seq ?_
      refine C.draw (V := fun w' => View w' (some ⟨b9, 0, none⟩) (bytesV (List.ofFn (n := 20) x.Publisher) ++ ([(v64 x.Seq), (v64 x.Born), (v32 x.Life), (.bool x.Gone), (v16 x.Priority), (v16 x.Weight), (v16 x.Port), (.string (str x.Target))] : List Value)) ∧ View w' a (el_G_api_Instance.row l)) (nd := [0, 5]) (sp := []) (n := 8) rfl h13 rfl rfl ?_
      intro w15 h16
      have hS17 : Cls (fun w' => View w' (some ⟨b9, 0, none⟩) (bytesV (List.ofFn (n := 20) x.Publisher) ++ ([(v64 x.Seq), (v64 x.Born), (v32 x.Life), (.bool x.Gone), (v16 x.Priority), (v16 x.Weight), (v16 x.Port), (.string (str x.Target))] : List Value)) ∧ View w' a (el_G_api_Instance.row l)) [0, 5] [] #[false, false, false, false, false, false, false, false] w15 := Cls.keep (⟨h16.isBlk.view0, (hv_l.at_ h16)⟩) (by kernel_rfl)
      refine GH.yr (i := 0) (listed' := #[true, false, false, false, false, false, false, false]) rfl (by kernel_rfl) rfl rfl (NP.next (NP.block (NP.next (NP.next (NP.left (by simp) (NP.block (NP.next NP.body))))))) rfl rfl rfl (fun w' hw' => yl_loadN (vs := (bytesV (List.ofFn (n := 20) x.Publisher) ++ ([(v64 x.Seq), (v64 x.Born), (v32 x.Life), (.bool x.Gone), (v16 x.Priority), (v16 x.Weight), (v16 x.Port), (.string (str x.Target))] : List Value))) ag31 sz31 (by simp [bytesV_length]) rfl (hw'.1)) hS17 (fun hS18 => ?_)
      refine GH.yl (i := 2) (listed' := #[true, false, true, false, false, false, false, false]) rfl (by kernel_rfl) rfl (NP.next (NP.block (NP.next (NP.next (NP.left (by simp) (NP.block (NP.next NP.body))))))) rfl rfl rfl (fun w' => yl_move rfl) hS18 (fun hS19 => ?_)
      refine GH.yl (i := 3) (listed' := #[true, false, true, true, false, false, false, false]) rfl (by kernel_rfl) rfl (NP.next (NP.block (NP.next (NP.next (NP.left (by simp) (NP.block (NP.next NP.body))))))) rfl rfl rfl (fun w' => yl_move rfl) hS19 (fun hS20 => ?_)
      obtain ⟨x_2, hy21, hm⟩ := sp_bind hm
      refine GH.yl (i := 4) (listed' := #[true, false, true, true, true, false, false, false]) rfl (by kernel_rfl) rfl (NP.next (NP.block (NP.next (NP.next (NP.left (by simp) (NP.block (NP.next NP.body))))))) rfl rfl rfl (fun w' => yl_ixP (l := l) sl22 rfl rfl (View.isA (E := el_G_api_Instance) (hv_l.at_ h16) (by decide) (at?_lt hy21)) rfl (at?_lt hy21)) hS20 (fun hS22 => ?_)
      refine GH.yr (i := 5) (listed' := #[true, false, true, true, true, true, false, false]) rfl (by kernel_rfl) rfl rfl (NP.next (NP.block (NP.next (NP.next (NP.left (by simp) (NP.block (NP.next NP.body))))))) rfl rfl rfl (fun w' hw' => yl_ldE (E := el_G_api_Instance) ag31 sz31 rfl (hw'.2) (at?_some hy21).2) hS22 (fun hS23 => ?_)
      obtain ⟨r1_2, hy24, hm⟩ := sp_bind hm
      refine GH.does (i := 1) (listed' := #[true, true, true, true, true, true, false, false]) rfl (by kernel_rfl) rfl rfl rfl rfl (does_fn 0 rfl rfl rfl en51 h16 (fun U hU hp hr hs => M_inst_End_w (i := x) hp hy24)) ?_
      rintro _ w25 ⟨U28, hb29, rfl, h27⟩
      have h26 : Sat W w25 [blk b9 (bytesV (List.ofFn (n := 20) x.Publisher) ++ ([(v64 x.Seq), (v64 x.Born), (v32 x.Life), (.bool x.Gone), (v16 x.Priority), (v16 x.Weight), (v16 x.Port), (.string (str x.Target))] : List Value)) 31] := hb29 h27
      have hS30 : Cls (fun w' => View w' (some ⟨b9, 0, none⟩) (bytesV (List.ofFn (n := 20) x.Publisher) ++ ([(v64 x.Seq), (v64 x.Born), (v32 x.Life), (.bool x.Gone), (v16 x.Priority), (v16 x.Weight), (v16 x.Port), (.string (str x.Target))] : List Value)) ∧ View w' a (el_G_api_Instance.row l)) [0, 5] [] #[true, true, true, true, true, true, false, false] w25 := Cls.keep (⟨h26.isBlk.view0, (hv_l.at_ h26)⟩) (by kernel_rfl)
      refine ⟨hS30, ?_⟩
      obtain ⟨r1_3, hy31, hm⟩ := sp_bind hm
      refine GH.does (i := 6) (listed' := #[true, true, true, true, true, true, true, false]) rfl (by kernel_rfl) rfl rfl rfl rfl (does_fn 0 rfl rfl rfl en51 h26 (fun U hU hp hr hs => M_inst_End_w (i := x_2) hp hy31)) ?_
      rintro _ w32 ⟨U35, hb36, rfl, h34⟩
      have h33 : Sat W w32 [blk b9 (bytesV (List.ofFn (n := 20) x.Publisher) ++ ([(v64 x.Seq), (v64 x.Born), (v32 x.Life), (.bool x.Gone), (v16 x.Priority), (v16 x.Weight), (v16 x.Port), (.string (str x.Target))] : List Value)) 31] := hb36 h34
      have hS37 : Cls (fun w' => View w' (some ⟨b9, 0, none⟩) (bytesV (List.ofFn (n := 20) x.Publisher) ++ ([(v64 x.Seq), (v64 x.Born), (v32 x.Life), (.bool x.Gone), (v16 x.Priority), (v16 x.Weight), (v16 x.Port), (.string (str x.Target))] : List Value)) ∧ View w' a (el_G_api_Instance.row l)) [0, 5] [] #[true, true, true, true, true, true, true, false] w32 := Cls.keep (⟨h33.isBlk.view0, (hv_l.at_ h33)⟩) (by kernel_rfl)
      refine ⟨hS37, ?_⟩
      refine GH.yl (i := 7) (listed' := #[true, true, true, true, true, true, true, true]) rfl (by kernel_rfl) rfl (NP.next (NP.block (NP.next (NP.next (NP.left (by simp) (NP.block (NP.next NP.body))))))) rfl rfl rfl (fun w' => yl_le64 rfl rfl) hS37 (fun hS38 => ?_)
      refine GH.done (by kernel_rfl) ?_
      refine QA.then_normal ?_
      rcases sp_ite hm with ⟨hc39, hm⟩ | ⟨hc39, hm⟩
      · refine C.cond_t rfl (dec_t hc39) ?_
        refine C.region ?_
        refine G.yl (yl_move rfl) rfl rfl rfl ?_
        refine G.yl (yl_assign rfl) rfl rfl rfl ?_
        refine G.nil ?_
        refine QA.block_normal ?_
        refine QA.then_normal ?_
        refine C.region ?_
        obtain ⟨hc40, hm⟩ := sp_chk hm
        refine G.yl (yl_addI rfl rfl hc40) rfl rfl rfl ?_
        refine G.yl (yl_move rfl) rfl rfl rfl ?_
        refine G.nil ?_
        obtain rfl := sp_ret1 hm
        exact QA.againO (t8, t8 + 1) hg6 (Sub.of ⟨rfl, rfl, rfl, rfl, rfl, rfl, trivial⟩) (Sat.pick [] h33)
      · refine C.cond_f rfl (dec_f hc39) ?_
        refine C.skip ?_
        refine QA.block_normal ?_
        refine QA.then_normal ?_
        refine C.region ?_
        obtain ⟨hc41, hm⟩ := sp_chk hm
        refine G.yl (yl_addI rfl rfl hc41) rfl rfl rfl ?_
        refine G.yl (yl_move rfl) rfl rfl rfl ?_
        refine G.nil ?_
        obtain rfl := sp_ret1 hm
        exact QA.againO (at_, t8 + 1) hg6 (Sub.of ⟨rfl, rfl, rfl, rfl, rfl, rfl, trivial⟩) (Sat.pick [] h33)
    · refine C.cond_f rfl (dec_f hc7) ?_
      refine C.exit ?_
      refine QA.then_exit ?_
      refine QA.then_exit ?_
      obtain rfl := sp_ret1 hm
      exact QA.left at_ (Sub.of ⟨rfl, rfl, trivial⟩) ⟨hg6, (Sat.pick [] h4)⟩
  · rintro at__2 w42 ⟨rfl, h43⟩
    have hm := hm2
    show QA _ _ [(2, (vI 0)), (3, (vI at__2))] _ _
    refine QA.block_here ?_
    refine QA.then_normal ?_
    refine C.seq ?_
    refine C.region ?_
    refine G.yl (yl_move rfl) rfl rfl rfl ?_
    refine G.yl (yl_assign rfl) rfl rfl rfl ?_
    refine G.nil ?_
    refine QA.then_normal ?_
    refine C.ret ?_
    refine QA.ret1 rfl rfl ?_
    obtain rfl := sp_ret1 hm
    exact ⟨rfl, (Sat.pick [] h43)⟩
end Go.Proofs.Ytmjcemhojhbijaa
