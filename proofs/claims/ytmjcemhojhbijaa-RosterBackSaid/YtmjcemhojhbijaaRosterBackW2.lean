/-
  That the functions of the program compute what their Lean functions say, part 2. No condition.
-/
import Derived.Test.YtmjcemhojhbijaaRosterBackW1
namespace Go.Proofs.Ytmjcemhojhbijaa
open Go Go.RowKit
set_option linter.unusedVariables false
set_option linter.unusedSimpArgs false
set_option linter.unnecessarySimpa false
set_option maxRecDepth 20000 in
set_option maxHeartbeats 1000000 in
theorem M_slices_Delete_Instance_o_w {W : Base} {w : World} {a : Option Addr} {c : Nat} {s : List G_api_Instance} {i : Int} {j : Int}  (h : Sat W w [ow el_G_api_Instance a c 31 s]) {r1 : List G_api_Instance} (hm : M_slices_Delete_Instance_o s i j = some r1) :
    Calls Try.prog 28 #[(.slice a s.length c), (vI i), (vI j)] w (Ret fun v w' => v = (.slice a r1.length c) ∧ Sat W w' [ow el_G_api_Instance a c 31 r1]) := by
  unfold M_slices_Delete_Instance_o at hm
  refine C.enter (N := 33) Try.func28 rfl Try.ntmps28 rfl ?_
  show C _ _ _ [(0, (.slice a s.length c)), (1, (vI i)), (2, (vI j))] _ _
  refine C.seq ?_
  refine C.region ?_
  refine G.yl (yl_assign rfl) rfl rfl rfl ?_
  refine G.nil ?_
  refine QA.then_normal ?_
  refine C.seq ?_
  refine C.region ?_
  refine G.yl (yl_move rfl) rfl rfl rfl ?_
  refine G.yl (yl_move rfl) rfl rfl rfl ?_
  refine G.yl (yl_move rfl) rfl rfl rfl ?_
  refine G.yl (yl_move rfl) rfl rfl rfl ?_
  refine G.yl (yl_lenE Try.underlying22 rfl) rfl rfl rfl ?_
  obtain ⟨hc1, hm⟩ := sp_chk hm
  obtain ⟨a2, ha3⟩ : ∃ p', Cut p' a s.length i.toNat 28 := Cut.mk _ _ _ _
  refine G.yl (yl_slLHM (E := el_G_api_Instance) (l := s) sl22 rfl rfl rfl rfl rfl ⟨hc1.1, hc1.2.1, by have := (Sat.own_cap h).1; omega⟩ ha3) rfl rfl rfl ?_
  refine G.nil ?_
  refine QA.then_normal ?_
  refine C.seq ?_
  refine C.seq ?_
  refine C.region ?_
  refine G.yl (yl_move rfl) rfl rfl rfl ?_
  refine G.yl (yl_move rfl) rfl rfl rfl ?_
  refine G.yl (yl_eqI rfl rfl) rfl rfl rfl ?_
  refine G.nil ?_
  refine QA.then_normal ?_
  rcases sp_ite hm with ⟨hc4, hm⟩ | ⟨hc4, hm⟩
  · refine C.cond_t rfl (dec_t hc4) ?_
    refine C.seq ?_
    refine C.region ?_
    refine G.yl (yl_move rfl) rfl rfl rfl ?_
    refine G.yl (yl_assign rfl) rfl rfl rfl ?_
    refine G.nil ?_
    refine QA.then_normal ?_
    refine C.ret ?_
    refine QA.then_ret ?_
    refine QA.ret1 rfl rfl ?_
    obtain rfl := sp_ret1 hm
    exact ⟨rfl, (Sat.pick [0] h)⟩
  · refine C.cond_f rfl (dec_f hc4) ?_
    refine C.skip ?_
    refine QA.then_normal ?_
    refine C.seq ?_
    refine C.region ?_
    refine G.yl (yl_move rfl) rfl rfl rfl ?_
    refine G.yl (yl_lenE Try.underlying22 rfl) rfl rfl rfl ?_
    refine G.yl (yl_assign rfl) rfl rfl rfl ?_
    refine G.nil ?_
    refine QA.then_normal ?_
    refine C.seq ?_
    refine C.draw (V := fun w' => True) (nd := []) (sp := []) (n := 8) rfl h rfl rfl ?_
    intro w5 h6
    have hS7 : Cls (fun w' => True) [] [] #[false, false, false, false, false, false, false, false] w5 := Cls.keep (trivial) (by kernel_rfl)
    refine GH.yl (i := 0) (listed' := #[true, false, false, false, false, false, false, false]) rfl (by kernel_rfl) rfl (NP.next NP.body) rfl rfl rfl (fun w' => yl_move rfl) hS7 (fun hS8 => ?_)
    refine GH.yl (i := 1) (listed' := #[true, true, false, false, false, false, false, false]) rfl (by kernel_rfl) rfl (NP.next NP.body) rfl rfl rfl (fun w' => yl_move rfl) hS8 (fun hS9 => ?_)
    obtain ⟨hc10, hm⟩ := sp_chk hm
    refine GH.yl (i := 2) (listed' := #[true, true, true, false, false, false, false, false]) rfl (by kernel_rfl) rfl (NP.next NP.body) rfl rfl rfl (fun w' => yl_slH (E := el_G_api_Instance) (l := s) sl22 rfl rfl rfl hc10 (Sat.own_cap h6).1) hS9 (fun hS11 => ?_)
    refine GH.yl (i := 3) (listed' := #[true, true, true, true, false, false, false, false]) rfl (by kernel_rfl) rfl (NP.next NP.body) rfl rfl rfl (fun w' => yl_move rfl) hS11 (fun hS12 => ?_)
    refine GH.yl (i := 4) (listed' := #[true, true, true, true, true, false, false, false]) rfl (by kernel_rfl) rfl (NP.next NP.body) rfl rfl rfl (fun w' => yl_move rfl) hS12 (fun hS13 => ?_)
    obtain ⟨a14, ha15⟩ : ∃ p', Cut p' a c j.toNat 28 := Cut.mk _ _ _ _
    obtain ⟨hc16, hm⟩ := sp_chk hm
    refine GH.yl (i := 5) (listed' := #[true, true, true, true, true, true, false, false]) rfl (by kernel_rfl) rfl (NP.next NP.body) rfl rfl rfl (fun w' => yl_slL (E := el_G_api_Instance) (l := s) sl22 rfl rfl rfl hc16 ha15) hS13 (fun hS17 => ?_)
    obtain ⟨hc18, hm⟩ := sp_chk hm
    have hrm19 := (Sat.own_cap h6).1
    have h20 : Sat W w5 [ow el_G_api_Instance a c 31 (s.take i.toNat)] := Sat.own_take h6 i.toNat (by first | omega | (simp only [List.length_set, copyL_length]; omega))
    refine GH.does (i := 6) (listed' := #[true, true, true, true, true, true, true, false]) rfl (by kernel_rfl) rfl rfl rfl rfl (does_appIn (E := el_G_api_Instance) (l := s.take i.toNat) (l2 := s.drop j.toNat) Try.underlying22 el31 h20 rfl rfl rfl rfl (by decide) (View.cut (Sat.own_view h6) ha15 (Sat.own_cap h6).1) hc18 (by decide) (by have := hrm19; simp only [List.length_take, List.length_drop]; omega)) ?_
    rintro _ w21 ⟨rfl, h22⟩
    have hS23 : Cls (fun w' => True) [] [] #[true, true, true, true, true, true, true, false] w21 := Cls.keep (trivial) (by kernel_rfl)
    refine ⟨hS23, ?_⟩
    refine GH.yl (i := 7) (listed' := #[true, true, true, true, true, true, true, true]) rfl (by kernel_rfl) rfl (NP.next NP.body) rfl rfl rfl (fun w' => yl_assign rfl) hS23 (fun hS24 => ?_)
    refine GH.done (by kernel_rfl) ?_
    refine QA.then_normal ?_
    refine C.seq ?_
    refine C.region ?_
    refine G.yl (yl_move rfl) rfl rfl rfl ?_
    refine G.yl (yl_move rfl) rfl rfl rfl ?_
    refine G.yl (yl_lenE Try.underlying22 rfl) rfl rfl rfl ?_
    refine G.yl (yl_move rfl) rfl rfl rfl ?_
    obtain ⟨a25, ha26⟩ : ∃ p', Cut p' a c (((s.take i.toNat) ++ (s.drop j.toNat)).length) 28 := Cut.mk _ _ _ _
    refine G.yl (yl_slTail (E := el_G_api_Instance) (l := (s.take i.toNat) ++ (s.drop j.toNat)) (r := (G_api_Instance.mk (fun _ => 0) 0 0 0 false 0 0 0 ([] : List UInt8))) (q := s.length - (((s.take i.toNat) ++ (s.drop j.toNat)).length)) sl22 rfl rfl rfl rfl rfl (by have := hrm19; simp only [List.length_append, List.length_take, List.length_drop]; omega) (by have := hrm19; simp only [List.length_append, List.length_take, List.length_drop]; omega) ha26) rfl rfl rfl ?_
    refine G.unit (does_clrTail (E := el_G_api_Instance) (l := (s.take i.toNat) ++ (s.drop j.toNat)) (q := s.length - (((s.take i.toNat) ++ (s.drop j.toNat)).length)) (r := (G_api_Instance.mk (fun _ => 0) 0 0 0 false 0 0 0 ([] : List UInt8))) h22 Try.underlying22 el31 z31 rfl (by decide) rfl ha26 (by have := hrm19; simp only [List.length_append, List.length_take, List.length_drop]; omega)) rfl rfl ?_
    rintro _ w27 h28
    refine G.nil ?_
    refine QA.then_normal ?_
    refine C.seq ?_
    refine C.region ?_
    refine G.yl (yl_move rfl) rfl rfl rfl ?_
    refine G.yl (yl_assign rfl) rfl rfl rfl ?_
    refine G.nil ?_
    refine QA.then_normal ?_
    refine C.ret ?_
    refine QA.ret1 rfl rfl ?_
    obtain rfl := sp_ret1 hm
    exact ⟨rfl, (Sat.pick [0] h28)⟩
set_option maxRecDepth 20000 in
set_option maxHeartbeats 1000000 in
theorem M_roster_Put_v_w {W : Base} {w : World} {a : Option Addr} {c : Nat} {l : List G_api_Instance} {i : G_api_Instance} (hv_l : V W a (el_G_api_Instance.row l)) (hq_l : l.length ≤ c) (h : Sat W w []) {r : Unit ⊕ (List G_api_Instance × Bool)} (hm : M_roster_Put_v l i = some r) :
    Calls Try.prog 9 #[(.slice a l.length c), (.agg (bytesV (List.ofFn (n := 20) i.Publisher) ++ ([(v64 i.Seq), (v64 i.Born), (v32 i.Life), (.bool i.Gone), (v16 i.Priority), (v16 i.Weight), (v16 i.Port), (.string (str i.Target))] : List Value)).toArray)] w (Ret fun v w' => match r with | .inl () => v = (.tuple #[(.slice a l.length c), (.bool false)]) ∧ Sat W w' [] | .inr (r3, r4) => ∃ r1 : Option Addr, ∃ r2 : Nat, v = (.tuple #[(.slice r1 r3.length r2), (.bool r4)]) ∧ Sat W w' [ow el_G_api_Instance r1 r2 31 r3]) := by
  unfold M_roster_Put_v at hm
  refine C.enter (N := 68) Try.func9 rfl Try.ntmps9 rfl ?_
  show C _ _ _ [(0, (.slice a l.length c)), (1, (.agg (bytesV (List.ofFn (n := 20) i.Publisher) ++ ([(v64 i.Seq), (v64 i.Born), (v32 i.Life), (.bool i.Gone), (v16 i.Priority), (v16 i.Weight), (v16 i.Port), (.string (str i.Target))] : List Value)).toArray))] _ _
  refine C.seq ?_
  refine C.region ?_
  refine G.does (does_box (cs := (bytesV (List.ofFn (n := 20) i.Publisher) ++ ([(v64 i.Seq), (v64 i.Born), (v32 i.Life), (.bool i.Gone), (v16 i.Priority), (v16 i.Weight), (v16 i.Port), (.string (str i.Target))] : List Value))) h rfl rfl) rfl rfl rfl ?_
  rintro _ w2 ⟨b1, rfl, h3⟩
  refine G.yl (yl_assign rfl) rfl rfl rfl ?_
  refine G.yl (yl_assign rfl) rfl rfl rfl ?_
  refine G.nil ?_
  refine QA.then_normal ?_
  refine C.seq ?_
  refine C.join (γ := Bool) (fun g => match g with | t17 => [(0, (.slice a l.length c)), (3, (.pointer (some ⟨b1, 0, none⟩))), (4, (.slice none 0 0)), (5, (.bool false)), (17, (.bool t17))]) (fun g ww => match g with | t17 => (M_roster_Put_v_k1 i l t17 = some r) ∧ Sat W ww [blk b1 (bytesV (List.ofFn (n := 20) i.Publisher) ++ ([(v64 i.Seq), (v64 i.Born), (v32 i.Life), (.bool i.Gone), (v16 i.Priority), (v16 i.Weight), (v16 i.Port), (.string (str i.Target))] : List Value)) 31]) ?_ ?_
  · refine C.region ?_
    refine G.yl (yl_move rfl) rfl rfl rfl ?_
    obtain ⟨r1_2, hy4, hm⟩ := sp_bind hm
    refine G.does (does_fn 0 rfl rfl rfl en10 h3 (fun U hU hp hr hs => M_roster_Good_v_w (l := l) (hs.v hv_l) hq_l hp hy4)) rfl rfl rfl ?_
    rintro _ w5 ⟨U8, hb9, rfl, h7⟩
    have h6 : Sat W w5 [blk b1 (bytesV (List.ofFn (n := 20) i.Publisher) ++ ([(v64 i.Seq), (v64 i.Born), (v32 i.Life), (.bool i.Gone), (v16 i.Priority), (v16 i.Weight), (v16 i.Port), (.string (str i.Target))] : List Value)) 31] := hb9 h7
    refine G.yl (yl_not rfl) rfl rfl rfl ?_
    refine G.yl (yl_move rfl) rfl rfl rfl ?_
    rcases sp_b hm with ⟨hc10, hm⟩ | ⟨hc10, hm⟩
    · refine G.on rfl rfl (not_f hc10) ?_
      refine G.yl (yl_loadN (vs := (bytesV (List.ofFn (n := 20) i.Publisher) ++ ([(v64 i.Seq), (v64 i.Born), (v32 i.Life), (.bool i.Gone), (v16 i.Priority), (v16 i.Weight), (v16 i.Port), (.string (str i.Target))] : List Value))) ag31 sz31 (by simp [bytesV_length]) rfl (h6.isBlk.view0)) rfl rfl rfl ?_
      refine G.on rfl rfl (not_f hc10) ?_
      obtain ⟨r1_3, hy11, hm⟩ := sp_bind hm
      refine G.does (does_fn 0 rfl rfl rfl en8 h6 (fun U hU hp hr hs => M_inst_Good_w (i := i) hp hy11)) rfl rfl rfl ?_
      rintro _ w12 ⟨U15, hb16, rfl, h14⟩
      have h13 : Sat W w12 [blk b1 (bytesV (List.ofFn (n := 20) i.Publisher) ++ ([(v64 i.Seq), (v64 i.Born), (v32 i.Life), (.bool i.Gone), (v16 i.Priority), (v16 i.Weight), (v16 i.Port), (.string (str i.Target))] : List Value)) 31] := hb16 h14
      refine G.on rfl rfl (not_f hc10) ?_
      refine G.yl (yl_not rfl) rfl rfl rfl ?_
      refine G.yl (yl_pick_f rfl (not_f hc10) rfl) rfl rfl rfl ?_
      refine G.nil ?_
      exact QA.join (!r1_3) (Sub.of ⟨rfl, rfl, rfl, rfl, rfl, trivial⟩) ⟨hm, (Sat.pick [0] h13)⟩
    · refine G.offU rfl rfl (not_t hc10) rfl ?_
      refine G.offU rfl rfl (not_t hc10) rfl ?_
      refine G.offU rfl rfl (not_t hc10) rfl ?_
      refine G.yl (yl_pick_t rfl (not_t hc10) rfl) rfl rfl rfl ?_
      refine G.nil ?_
      exact QA.join true (Sub.of ⟨rfl, rfl, rfl, rfl, rfl, trivial⟩) ⟨hm, (Sat.pick [0] h6)⟩
  · rintro t17 w17 ⟨hm, h18⟩
    show C _ _ _ [(0, (.slice a l.length c)), (3, (.pointer (some ⟨b1, 0, none⟩))), (4, (.slice none 0 0)), (5, (.bool false)), (17, (.bool t17))] _ _
    unfold M_roster_Put_v_k1 at hm
    rcases sp_b hm with ⟨hc19, hm⟩ | ⟨hc19, hm⟩
    · refine C.cond_t rfl hc19 ?_
      refine C.seq ?_
      refine C.region ?_
      refine G.yl (yl_move rfl) rfl rfl rfl ?_
      refine G.yl (yl_assign rfl) rfl rfl rfl ?_
      refine G.yl (yl_assign rfl) rfl rfl rfl ?_
      refine G.nil ?_
      refine QA.then_normal ?_
      refine C.ret ?_
      refine QA.then_ret ?_
      refine QA.ret2 rfl rfl rfl ?_
      obtain rfl := sp_ret1 hm
      exact ⟨rfl, (Sat.pick [] h18)⟩
    · refine C.cond_f rfl hc19 ?_
      refine C.skip ?_
      refine QA.then_normal ?_
      refine C.seq ?_
      refine C.region ?_
      refine G.yl (yl_move rfl) rfl rfl rfl ?_
      refine G.yl (yl_fieldAddr fo31_0 rfl) rfl rfl rfl ?_
      refine G.yl (yl_loadN (vs := (bytesV (List.ofFn (n := 20) i.Publisher))) ag26 sz26 (by simp [bytesV_length]) rfl (View.span_head h18.isBlk.view0)) rfl rfl rfl ?_
      obtain ⟨⟨r1_4, r2_2⟩, hy20, hm⟩ := sp_bind hm
      refine G.does (does_fn 0 rfl rfl rfl en24 h18 (fun U hU hp hr hs => M_slices_BinarySearchFunc_ID_v_roster_order_w (x := l) (target := i.Publisher) (hs.v hv_l) hq_l hp hy20)) rfl rfl rfl ?_
      rintro _ w21 ⟨U24, hb25, rfl, h23⟩
      have h22 : Sat W w21 [blk b1 (bytesV (List.ofFn (n := 20) i.Publisher) ++ ([(v64 i.Seq), (v64 i.Born), (v32 i.Life), (.bool i.Gone), (v16 i.Priority), (v16 i.Weight), (v16 i.Port), (.string (str i.Target))] : List Value)) 31] := hb25 h23
      refine G.yl (yl_move rfl) rfl rfl rfl ?_
      refine G.yl (yl_extract rfl rfl) rfl rfl rfl ?_
      refine G.yl (yl_extract rfl rfl) rfl rfl rfl ?_
      refine G.yl (yl_assign rfl) rfl rfl rfl ?_
      refine G.yl (yl_assign rfl) rfl rfl rfl ?_
      refine G.nil ?_
      refine QA.then_normal ?_
      refine C.join (γ := Unit) (fun g => match g with | () => [(0, (.slice a l.length c)), (3, (.pointer (some ⟨b1, 0, none⟩))), (4, (.slice none 0 0)), (5, (.bool false)), (6, (vI r1_4)), (7, (.bool r2_2))]) (fun g ww => match g with | () => (M_roster_Put_v_k2 i l r1_4 r2_2 = some r) ∧ Sat W ww [blk b1 (bytesV (List.ofFn (n := 20) i.Publisher) ++ ([(v64 i.Seq), (v64 i.Born), (v32 i.Life), (.bool i.Gone), (v16 i.Priority), (v16 i.Weight), (v16 i.Port), (.string (str i.Target))] : List Value)) 31]) ?_ ?_
      · refine C.seq ?_
        refine C.draw (V := fun w' => View w' (some ⟨b1, 0, none⟩) (bytesV (List.ofFn (n := 20) i.Publisher) ++ ([(v64 i.Seq), (v64 i.Born), (v32 i.Life), (.bool i.Gone), (v16 i.Priority), (v16 i.Weight), (v16 i.Port), (.string (str i.Target))] : List Value)) ∧ View w' a (el_G_api_Instance.row l)) (nd := [2, 3, 4, 5, 6, 8]) (sp := []) (n := 10) rfl h22 rfl rfl ?_
        intro w26 h27
        have hS28 : Cls (fun w' => View w' (some ⟨b1, 0, none⟩) (bytesV (List.ofFn (n := 20) i.Publisher) ++ ([(v64 i.Seq), (v64 i.Born), (v32 i.Life), (.bool i.Gone), (v16 i.Priority), (v16 i.Weight), (v16 i.Port), (.string (str i.Target))] : List Value)) ∧ View w' a (el_G_api_Instance.row l)) [2, 3, 4, 5, 6, 8] [] #[false, false, false, false, false, false, false, false, false, false] w26 := Cls.keep (⟨h27.isBlk.view0, (hv_l.at_ h27)⟩) (by kernel_rfl)
        refine GH.yl (i := 0) (listed' := #[true, false, false, false, false, false, false, false, false, false]) rfl (by kernel_rfl) rfl (NP.next (NP.next NP.body)) rfl rfl rfl (fun w' => yl_move rfl) hS28 (fun hS29 => ?_)
        refine GH.yl (i := 1) (listed' := #[true, true, false, false, false, false, false, false, false, false]) rfl (by kernel_rfl) rfl (NP.next (NP.next NP.body)) rfl rfl rfl (fun w' => yl_move rfl) hS29 (fun hS30 => ?_)
        rcases sp_b hm with ⟨hc31, hm⟩ | ⟨hc31, hm⟩
        · refine GH.on (i := 2) (listed' := #[true, true, true, false, false, false, false, false, false, false]) rfl (by kernel_rfl) rfl rfl (NP.next (NP.next NP.body)) rfl rfl rfl rfl hc31 (fun w' hw' => yl_loadN (vs := (bytesV (List.ofFn (n := 20) i.Publisher) ++ ([(v64 i.Seq), (v64 i.Born), (v32 i.Life), (.bool i.Gone), (v16 i.Priority), (v16 i.Weight), (v16 i.Port), (.string (str i.Target))] : List Value))) ag31 sz31 (by simp [bytesV_length]) rfl (hw'.1)) hS30 (fun hS32 => ?_)
          refine GH.on (i := 3) (listed' := #[true, true, true, true, false, false, false, false, false, false]) rfl (by kernel_rfl) rfl rfl (NP.next (NP.next NP.body)) rfl rfl rfl rfl hc31 (fun w' hw' => yl_move rfl) hS32 (fun hS33 => ?_)
          refine GH.on (i := 4) (listed' := #[true, true, true, true, true, false, false, false, false, false]) rfl (by kernel_rfl) rfl rfl (NP.next (NP.next NP.body)) rfl rfl rfl rfl hc31 (fun w' hw' => yl_move rfl) hS33 (fun hS34 => ?_)
          obtain ⟨x, hy35, hm⟩ := sp_bind hm
          refine GH.on (i := 5) (listed' := #[true, true, true, true, true, true, false, false, false, false]) rfl (by kernel_rfl) rfl rfl (NP.next (NP.next NP.body)) rfl rfl rfl rfl hc31 (fun w' hw' => yl_ixP (l := l) sl22 rfl rfl (View.isA (E := el_G_api_Instance) (hv_l.at_ h27) (by decide) (at?_lt hy35)) rfl (at?_lt hy35)) hS34 (fun hS36 => ?_)
          refine GH.on (i := 6) (listed' := #[true, true, true, true, true, true, true, false, false, false]) rfl (by kernel_rfl) rfl rfl (NP.next (NP.next NP.body)) rfl rfl rfl rfl hc31 (fun w' hw' => yl_ldE (E := el_G_api_Instance) ag31 sz31 rfl (hw'.2) (at?_some hy35).2) hS36 (fun hS37 => ?_)
          obtain ⟨r1_5, hy38, hm⟩ := sp_bind hm
          refine GH.doesOn (i := 7) (listed' := #[true, true, true, true, true, true, true, true, false, false]) rfl (by kernel_rfl) rfl rfl rfl hc31 rfl rfl (does_fn 0 rfl rfl rfl en12 h27 (fun U hU hp hr hs => M_inst_Cmp_w (a := i) (b := x) hp hy38)) ?_
          rintro _ w39 ⟨U42, hb43, rfl, h41⟩
          have h40 : Sat W w39 [blk b1 (bytesV (List.ofFn (n := 20) i.Publisher) ++ ([(v64 i.Seq), (v64 i.Born), (v32 i.Life), (.bool i.Gone), (v16 i.Priority), (v16 i.Weight), (v16 i.Port), (.string (str i.Target))] : List Value)) 31] := hb43 h41
          have hS44 : Cls (fun w' => View w' (some ⟨b1, 0, none⟩) (bytesV (List.ofFn (n := 20) i.Publisher) ++ ([(v64 i.Seq), (v64 i.Born), (v32 i.Life), (.bool i.Gone), (v16 i.Priority), (v16 i.Weight), (v16 i.Port), (.string (str i.Target))] : List Value)) ∧ View w' a (el_G_api_Instance.row l)) [2, 3, 4, 5, 6, 8] [] #[true, true, true, true, true, true, true, true, false, false] w39 := Cls.keep (⟨h40.isBlk.view0, (hv_l.at_ h40)⟩) (by kernel_rfl)
          refine ⟨hS44, ?_⟩
          refine GH.on (i := 8) (listed' := #[true, true, true, true, true, true, true, true, true, false]) rfl (by kernel_rfl) rfl rfl (NP.next (NP.next NP.body)) rfl rfl rfl rfl hc31 (fun w' hw' => yl_leI rfl rfl) hS44 (fun hS45 => ?_)
          refine GH.yl (i := 9) (listed' := #[true, true, true, true, true, true, true, true, true, true]) rfl (by kernel_rfl) rfl (NP.next (NP.next NP.body)) rfl rfl rfl (fun w' => yl_pick_t rfl hc31 rfl) hS45 (fun hS46 => ?_)
          refine GH.done (by kernel_rfl) ?_
          refine QA.then_normal ?_
          rcases sp_ite hm with ⟨hc47, hm⟩ | ⟨hc47, hm⟩
          · refine C.cond_t rfl (dec_t hc47) ?_
            refine C.seq ?_
            refine C.region ?_
            refine G.yl (yl_move rfl) rfl rfl rfl ?_
            refine G.yl (yl_assign rfl) rfl rfl rfl ?_
            refine G.yl (yl_assign rfl) rfl rfl rfl ?_
            refine G.nil ?_
            refine QA.then_normal ?_
            refine C.ret ?_
            refine QA.then_ret ?_
            refine QA.ret2 rfl rfl rfl ?_
            obtain rfl := sp_ret1 hm
            exact ⟨rfl, (Sat.pick [] h40)⟩
          · refine C.cond_f rfl (dec_f hc47) ?_
            refine C.skip ?_
            exact QA.join () (Sub.of ⟨rfl, rfl, rfl, rfl, rfl, rfl, trivial⟩) ⟨hm, (Sat.pick [0] h40)⟩
        · refine GH.off (i := 2) (listed' := #[true, true, true, false, false, false, false, false, false, false]) rfl (by kernel_rfl) rfl (NP.next (NP.next NP.body)) rfl rfl rfl rfl hc31 hS30 (fun hS48 => ?_)
          refine GH.off (i := 3) (listed' := #[true, true, true, true, false, false, false, false, false, false]) rfl (by kernel_rfl) rfl (NP.next (NP.next NP.body)) rfl rfl rfl rfl hc31 hS48 (fun hS49 => ?_)
          refine GH.off (i := 4) (listed' := #[true, true, true, true, true, false, false, false, false, false]) rfl (by kernel_rfl) rfl (NP.next (NP.next NP.body)) rfl rfl rfl rfl hc31 hS49 (fun hS50 => ?_)
          refine GH.off (i := 5) (listed' := #[true, true, true, true, true, true, false, false, false, false]) rfl (by kernel_rfl) rfl (NP.next (NP.next NP.body)) rfl rfl rfl rfl hc31 hS50 (fun hS51 => ?_)
          refine GH.off (i := 6) (listed' := #[true, true, true, true, true, true, true, false, false, false]) rfl (by kernel_rfl) rfl (NP.next (NP.next NP.body)) rfl rfl rfl rfl hc31 hS51 (fun hS52 => ?_)
          refine GH.off (i := 7) (listed' := #[true, true, true, true, true, true, true, true, false, false]) rfl (by kernel_rfl) rfl (NP.next (NP.next NP.body)) rfl rfl rfl rfl hc31 hS52 (fun hS53 => ?_)
          refine GH.off (i := 8) (listed' := #[true, true, true, true, true, true, true, true, true, false]) rfl (by kernel_rfl) rfl (NP.next (NP.next NP.body)) rfl rfl rfl rfl hc31 hS53 (fun hS54 => ?_)
          refine GH.yl (i := 9) (listed' := #[true, true, true, true, true, true, true, true, true, true]) rfl (by kernel_rfl) rfl (NP.next (NP.next NP.body)) rfl rfl rfl (fun w' => yl_pick_f rfl hc31 rfl) hS54 (fun hS55 => ?_)
          refine GH.done (by kernel_rfl) ?_
          refine QA.then_normal ?_
          refine C.cond_f rfl rfl ?_
          refine C.skip ?_
          exact QA.join () (Sub.of ⟨rfl, rfl, rfl, rfl, rfl, rfl, trivial⟩) ⟨hm, (Sat.pick [0] h27)⟩
      · rintro _ w56 ⟨hm, h57⟩
        show C _ _ _ [(0, (.slice a l.length c)), (3, (.pointer (some ⟨b1, 0, none⟩))), (4, (.slice none 0 0)), (5, (.bool false)), (6, (vI r1_4)), (7, (.bool r2_2))] _ _
        unfold M_roster_Put_v_k2 at hm
        refine C.seq ?_
        refine C.region ?_
        refine G.yl (yl_move rfl) rfl rfl rfl ?_
        refine G.yl (yl_lenE Try.underlying22 rfl) rfl rfl rfl ?_
        obtain ⟨hc58, hm⟩ := sp_chk hm
        refine G.does (does_mk (E := el_G_api_Instance) (r := (G_api_Instance.mk (fun _ => 0) 0 0 0 false 0 0 0 ([] : List UInt8))) (e := 31) h57 Try.underlying22 el31 z31 rfl rfl rfl hc58 (by decide)) rfl rfl rfl ?_
        rintro _ w60 ⟨a59, rfl, h61⟩
        refine G.yl (yl_assign rfl) rfl rfl rfl ?_
        refine G.nil ?_
        refine QA.then_normal ?_
        refine C.seq ?_
        refine C.region ?_
        refine G.yl (yl_move rfl) rfl rfl rfl ?_
        refine G.yl (yl_move rfl) rfl rfl rfl ?_
        refine G.does (does_cpE (E := el_G_api_Instance) (l := List.replicate l.length (G_api_Instance.mk (fun _ => 0) 0 0 0 false 0 0 0 ([] : List UInt8))) (l2 := l) (X := List.replicate l.length (G_api_Instance.mk (fun _ => 0) 0 0 0 false 0 0 0 ([] : List UInt8))) (m := 0) h61 Try.underlying22 sz31 rfl rfl rfl rfl (by decide) (hv_l.at_ h61) (.inl ⟨rfl, rfl⟩) (by simp [copyL_length] <;> omega)) rfl rfl rfl ?_
        rintro _ w62 ⟨rfl, h63⟩
        refine G.nil ?_
        refine QA.then_normal ?_
        refine C.seq ?_
        refine C.seq ?_
        refine C.region ?_
        refine G.yl (yl_move rfl) rfl rfl rfl ?_
        refine G.nil ?_
        refine QA.then_normal ?_
        rcases sp_b hm with ⟨hc64, hm⟩ | ⟨hc64, hm⟩
        · refine C.cond_t rfl hc64 ?_
          refine C.seq ?_
          refine C.region ?_
          refine G.yl (yl_move rfl) rfl rfl rfl ?_
          refine G.yl (yl_move rfl) rfl rfl rfl ?_
          refine G.yl (yl_loadN (vs := (bytesV (List.ofFn (n := 20) i.Publisher) ++ ([(v64 i.Seq), (v64 i.Born), (v32 i.Life), (.bool i.Gone), (v16 i.Priority), (v16 i.Weight), (v16 i.Port), (.string (str i.Target))] : List Value))) ag31 sz31 (by simp [bytesV_length]) rfl ((Sat.pick [1] h63).isBlk.view0)) rfl rfl rfl ?_
          obtain ⟨x_2, hy65, hm⟩ := sp_bind hm
          refine G.yl (yl_ixP (l := copyL (List.replicate l.length (G_api_Instance.mk (fun _ => 0) 0 0 0 false 0 0 0 ([] : List UInt8))) 0 (l.take (min l.length ((List.replicate l.length (G_api_Instance.mk (fun _ => 0) 0 0 0 false 0 0 0 ([] : List UInt8))).length)))) sl22 rfl rfl (View.isA (E := el_G_api_Instance) (Sat.own_view h63) (by decide) (at?_lt hy65)) (by simp [copyL_length]) (at?_lt hy65)) rfl rfl rfl ?_
          refine G.unit (does_stE (E := el_G_api_Instance) (r := i) h63 sz31 rfl rfl (by decide) rfl (List.getElem?_eq_some_iff.1 (at?_some hy65).2).1) rfl rfl ?_
          rintro _ w66 h67
          refine G.nil ?_
          refine QA.then_normal ?_
          refine C.seq ?_
          refine C.region ?_
          refine G.yl (yl_move rfl) rfl rfl rfl ?_
          refine G.yl (yl_assign rfl) rfl rfl rfl ?_
          refine G.yl (yl_assign rfl) rfl rfl rfl ?_
          refine G.nil ?_
          refine QA.then_normal ?_
          refine C.ret ?_
          refine QA.then_ret ?_
          refine QA.ret2 rfl rfl rfl ?_
          obtain rfl := sp_ret1 hm
          exact ⟨a59, l.length, (by simp [copyL_length]), (Sat.pick [0] h67)⟩
        · refine C.cond_f rfl hc64 ?_
          refine C.skip ?_
          refine QA.then_normal ?_
          refine C.seq ?_
          refine C.region ?_
          refine G.yl (yl_move rfl) rfl rfl rfl ?_
          refine G.yl (yl_move rfl) rfl rfl rfl ?_
          refine G.yl (yl_loadN (vs := (bytesV (List.ofFn (n := 20) i.Publisher) ++ ([(v64 i.Seq), (v64 i.Born), (v32 i.Life), (.bool i.Gone), (v16 i.Priority), (v16 i.Weight), (v16 i.Port), (.string (str i.Target))] : List Value))) ag31 sz31 (by simp [bytesV_length]) rfl ((Sat.pick [1] h63).isBlk.view0)) rfl rfl rfl ?_
          refine G.does (does_lit (E := el_G_api_Instance) (l := [i]) (vs := [(.agg (bytesV (List.ofFn (n := 20) i.Publisher) ++ ([(v64 i.Seq), (v64 i.Born), (v32 i.Life), (.bool i.Gone), (v16 i.Priority), (v16 i.Weight), (v16 i.Port), (.string (str i.Target))] : List Value)).toArray)]) (cs := (bytesV (List.ofFn (n := 20) i.Publisher) ++ ([(v64 i.Seq), (v64 i.Born), (v32 i.Life), (.bool i.Gone), (v16 i.Priority), (v16 i.Weight), (v16 i.Port), (.string (str i.Target))] : List Value))) (e := 31) h63 rfl (by kernel_rfl) rfl rfl (by decide)) rfl rfl rfl ?_
          rintro _ w69 ⟨a68, rfl, h70⟩
          obtain ⟨r3_2, hy71, hm⟩ := sp_bind hm
          refine G.does (does_fn 1 rfl rfl rfl en26 (Sat.pick [1, 0, 0] h70) (fun U hU hp hr hs => M_slices_Insert_Instance_ov_w (i := r1_4) (v := [i]) (s := copyL (List.replicate l.length (G_api_Instance.mk (fun _ => 0) 0 0 0 false 0 0 0 ([] : List UInt8))) 0 (l.take (min l.length ((List.replicate l.length (G_api_Instance.mk (fun _ => 0) 0 0 0 false 0 0 0 ([] : List UInt8))).length)))) (by simp [copyL_length]) (by simp [copyL_length]) (Rest.view hr) (Sat.own_cap h70).1 hp hy71)) rfl rfl rfl ?_
          rintro _ w74 ⟨U77, hb78, r172, r273, rfl, h76⟩
          have h75 : Sat W w74 [ow el_G_api_Instance r172 r273 31 r3_2, ow el_G_api_Instance a68 1 31 [i], blk b1 (bytesV (List.ofFn (n := 20) i.Publisher) ++ ([(v64 i.Seq), (v64 i.Born), (v32 i.Life), (.bool i.Gone), (v16 i.Priority), (v16 i.Weight), (v16 i.Port), (.string (str i.Target))] : List Value)) 31] := hb78 h76
          refine G.yl (yl_assign rfl) rfl rfl rfl ?_
          refine G.nil ?_
          refine QA.then_normal ?_
          refine C.seq ?_
          refine C.seq ?_
          refine C.region ?_
          refine G.yl (yl_move rfl) rfl rfl rfl ?_
          refine G.yl (yl_lenE Try.underlying22 rfl) rfl rfl rfl ?_
          refine G.yl (yl_leI rfl rfl) rfl rfl rfl ?_
          refine G.nil ?_
          refine QA.then_normal ?_
          rcases sp_ite hm with ⟨hc79, hm⟩ | ⟨hc79, hm⟩
          · refine C.cond_t rfl (dec_t hc79) ?_
            refine C.seq ?_
            refine C.region ?_
            refine G.yl (yl_move rfl) rfl rfl rfl ?_
            refine G.yl (yl_assign rfl) rfl rfl rfl ?_
            refine G.yl (yl_assign rfl) rfl rfl rfl ?_
            refine G.nil ?_
            refine QA.then_normal ?_
            refine C.ret ?_
            refine QA.then_ret ?_
            refine QA.ret2 rfl rfl rfl ?_
            obtain rfl := sp_ret1 hm
            exact ⟨r172, r273, rfl, (Sat.pick [0] h75)⟩
          · refine C.cond_f rfl (dec_f hc79) ?_
            refine C.skip ?_
            refine QA.then_normal ?_
            refine C.seq ?_
            refine C.region ?_
            refine G.yl (yl_move rfl) rfl rfl rfl ?_
            obtain ⟨r1_6, hy80, hm⟩ := sp_bind hm
            refine G.does (does_fn 0 rfl rfl rfl en27 h75 (fun U hU hp hr hs => M_roster_first_v_w (l := r3_2) (Rest.view hr) (Sat.own_cap h75).1 hp hy80)) rfl rfl rfl ?_
            rintro _ w81 ⟨U84, hb85, rfl, h83⟩
            have h82 : Sat W w81 [ow el_G_api_Instance r172 r273 31 r3_2, ow el_G_api_Instance a68 1 31 [i], blk b1 (bytesV (List.ofFn (n := 20) i.Publisher) ++ ([(v64 i.Seq), (v64 i.Born), (v32 i.Life), (.bool i.Gone), (v16 i.Priority), (v16 i.Weight), (v16 i.Port), (.string (str i.Target))] : List Value)) 31] := hb85 h83
            refine G.yl (yl_assign rfl) rfl rfl rfl ?_
            refine G.nil ?_
            refine QA.then_normal ?_
            refine C.seq ?_
            refine C.region ?_
            refine G.yl (yl_move rfl) rfl rfl rfl ?_
            refine G.yl (yl_move rfl) rfl rfl rfl ?_
            refine G.yl (yl_move rfl) rfl rfl rfl ?_
            obtain ⟨hc86, hm⟩ := sp_chk hm
            refine G.yl (yl_addI rfl rfl hc86) rfl rfl rfl ?_
            obtain ⟨r1_7, hy87, hm⟩ := sp_bind hm
            refine G.does (does_fn 1 rfl rfl rfl en28 (Sat.pick [0, 0, 0] h82) (fun U hU hp hr hs => M_slices_Delete_Instance_o_w (s := r3_2) (i := r1_6) (j := r1_6 + 1) hp hy87)) rfl rfl rfl ?_
            rintro _ w88 ⟨U91, hb92, rfl, h90⟩
            have h89 : Sat W w88 [ow el_G_api_Instance r172 r273 31 r1_7, ow el_G_api_Instance a68 1 31 [i], blk b1 (bytesV (List.ofFn (n := 20) i.Publisher) ++ ([(v64 i.Seq), (v64 i.Born), (v32 i.Life), (.bool i.Gone), (v16 i.Priority), (v16 i.Weight), (v16 i.Port), (.string (str i.Target))] : List Value)) 31] := hb92 h90
            refine G.yl (yl_move rfl) rfl rfl rfl ?_
            refine G.yl (yl_move rfl) rfl rfl rfl ?_
            refine G.yl (yl_neI rfl rfl) rfl rfl rfl ?_
            refine G.yl (yl_assign rfl) rfl rfl rfl ?_
            refine G.yl (yl_assign rfl) rfl rfl rfl ?_
            refine G.nil ?_
            refine QA.then_normal ?_
            refine C.ret ?_
            refine QA.ret2 rfl rfl rfl ?_
            obtain rfl := sp_ret1 hm
            exact ⟨r172, r273, rfl, (Sat.pick [0] h89)⟩
set_option maxRecDepth 20000 in
set_option maxHeartbeats 1000000 in
theorem M_signpostlaw12_lives_w {W : Base} {w : World}   (h : Sat W w []) {r1 : Bool} (hm : M_signpostlaw12_lives = some r1) :
    Calls Try.prog 7 #[] w (Ret fun v w' => v = (.bool r1) ∧ Sat W w' []) := by
  unfold M_signpostlaw12_lives at hm
  refine C.enter (N := 41) Try.func7 rfl Try.ntmps7 rfl ?_
  show C _ _ _ [] _ _
  refine C.seq ?_
  refine C.region ?_
  refine G.yl (yl_assign rfl) rfl rfl rfl ?_
  refine G.nil ?_
  refine QA.then_normal ?_
  refine C.seq ?_
  refine C.region ?_
  refine G.yl (yl_build (vs := [(.int .u64 1), (.int .u32 5), (.int .u16 80), (.string (str ([97] : List UInt8)))]) (cells := (bytesV (List.ofFn (n := 20) (fun _ => 0)) ++ ([(.int .u64 1), (.int .u64 0), (.int .u32 5), (.bool false), (.int .u16 0), (.int .u16 0), (.int .u16 80), (.string (str ([97] : List UInt8)))] : List Value)).toArray) rfl (by kernel_rfl)) rfl rfl rfl ?_
  refine G.does (does_alloc (cs := (bytesV (List.ofFn (n := 20) (fun _ => 0)) ++ ([(.int .u64 0), (.int .u64 0), (.int .u32 0), (.bool false), (.int .u16 0), (.int .u16 0), (.int .u16 0), (.string (str ([] : List UInt8)))] : List Value))) h z31 rfl) rfl rfl rfl ?_
  rintro _ w2 ⟨b1, rfl, h3⟩
  refine G.unit (does_store (vs := (bytesV (List.ofFn (n := 20) (fun _ => 0)) ++ ([(.int .u64 1), (.int .u64 0), (.int .u32 5), (.bool false), (.int .u16 0), (.int .u16 0), (.int .u16 80), (.string (str ([97] : List UInt8)))] : List Value))) h3 sz31 rfl rfl rfl (by simp [bytesV_length]) (List.forall_mem_append.2 ⟨(bytesV_one _), (List.forall_mem_cons.2 ⟨rfl, (List.forall_mem_cons.2 ⟨rfl, (List.forall_mem_cons.2 ⟨rfl, (List.forall_mem_cons.2 ⟨rfl, (List.forall_mem_cons.2 ⟨rfl, (List.forall_mem_cons.2 ⟨rfl, (List.forall_mem_cons.2 ⟨rfl, (List.forall_mem_cons.2 ⟨rfl, (fun _ hh => by cases hh)⟩)⟩)⟩)⟩)⟩)⟩)⟩)⟩)⟩) (by simp [bytesV_length])) rfl rfl ?_
  rintro _ w4 h6
  have h5 : Sat W w4 [blk b1 (bytesV (List.ofFn (n := 20) (fun _ => 0)) ++ ([(.int .u64 1), (.int .u64 0), (.int .u32 5), (.bool false), (.int .u16 0), (.int .u16 0), (.int .u16 80), (.string (str ([97] : List UInt8)))] : List Value)) 31] := sl_blk (setN_all _ _ (by simp [bytesV_length])) h6
  refine G.nil ?_
  refine QA.then_normal ?_
  refine C.seq ?_
  refine C.region ?_
  refine G.yl (yl_loadN (vs := (bytesV (List.ofFn (n := 20) (fun _ => 0)) ++ ([(.int .u64 1), (.int .u64 0), (.int .u32 5), (.bool false), (.int .u16 0), (.int .u16 0), (.int .u16 80), (.string (str ([97] : List UInt8)))] : List Value))) ag31 sz31 (by simp [bytesV_length]) rfl (h5.isBlk.view0)) rfl rfl rfl ?_
  refine G.does (does_alloc (cs := (bytesV (List.ofFn (n := 20) (fun _ => 0)) ++ ([(.int .u64 0), (.int .u64 0), (.int .u32 0), (.bool false), (.int .u16 0), (.int .u16 0), (.int .u16 0), (.string (str ([] : List UInt8)))] : List Value))) h5 z31 rfl) rfl rfl rfl ?_
  rintro _ w8 ⟨b7, rfl, h9⟩
  refine G.unit (does_store (vs := (bytesV (List.ofFn (n := 20) (fun _ => 0)) ++ ([(.int .u64 1), (.int .u64 0), (.int .u32 5), (.bool false), (.int .u16 0), (.int .u16 0), (.int .u16 80), (.string (str ([97] : List UInt8)))] : List Value))) h9 sz31 rfl rfl rfl (by simp [bytesV_length]) (List.forall_mem_append.2 ⟨(bytesV_one _), (List.forall_mem_cons.2 ⟨rfl, (List.forall_mem_cons.2 ⟨rfl, (List.forall_mem_cons.2 ⟨rfl, (List.forall_mem_cons.2 ⟨rfl, (List.forall_mem_cons.2 ⟨rfl, (List.forall_mem_cons.2 ⟨rfl, (List.forall_mem_cons.2 ⟨rfl, (List.forall_mem_cons.2 ⟨rfl, (fun _ hh => by cases hh)⟩)⟩)⟩)⟩)⟩)⟩)⟩)⟩)⟩) (by simp [bytesV_length])) rfl rfl ?_
  rintro _ w10 h12
  have h11 : Sat W w10 [blk b7 (bytesV (List.ofFn (n := 20) (fun _ => 0)) ++ ([(.int .u64 1), (.int .u64 0), (.int .u32 5), (.bool false), (.int .u16 0), (.int .u16 0), (.int .u16 80), (.string (str ([97] : List UInt8)))] : List Value)) 31, blk b1 (bytesV (List.ofFn (n := 20) (fun _ => 0)) ++ ([(.int .u64 1), (.int .u64 0), (.int .u32 5), (.bool false), (.int .u16 0), (.int .u16 0), (.int .u16 80), (.string (str ([97] : List UInt8)))] : List Value)) 31] := sl_blk (setN_all _ _ (by simp [bytesV_length])) h12
  refine G.nil ?_
  refine QA.then_normal ?_
  refine C.seq ?_
  refine C.region ?_
  refine G.yl (yl_fieldAddr fo31_1 rfl) rfl rfl rfl ?_
  refine G.unit (does_store (vs := [(.int .u64 2)]) h11 sz27 rfl rfl rfl (by simp [bytesV_length]) (List.forall_mem_cons.2 ⟨rfl, (fun _ hh => by cases hh)⟩) (by simp [bytesV_length])) rfl rfl ?_
  rintro _ w13 h15
  have h14 : Sat W w13 [blk b7 (bytesV (List.ofFn (n := 20) (fun _ => 0)) ++ ([(.int .u64 2), (.int .u64 0), (.int .u32 5), (.bool false), (.int .u16 0), (.int .u16 0), (.int .u16 80), (.string (str ([97] : List UInt8)))] : List Value)) 31, blk b1 (bytesV (List.ofFn (n := 20) (fun _ => 0)) ++ ([(.int .u64 1), (.int .u64 0), (.int .u32 5), (.bool false), (.int .u16 0), (.int .u16 0), (.int .u16 80), (.string (str ([97] : List UInt8)))] : List Value)) 31] := sl_blk (by kernel_rfl) h15
  refine G.nil ?_
  refine QA.then_normal ?_
  refine C.seq ?_
  refine C.region ?_
  refine G.yl (yl_loadN (vs := (bytesV (List.ofFn (n := 20) (fun _ => 0)) ++ ([(.int .u64 1), (.int .u64 0), (.int .u32 5), (.bool false), (.int .u16 0), (.int .u16 0), (.int .u16 80), (.string (str ([97] : List UInt8)))] : List Value))) ag31 sz31 (by simp [bytesV_length]) rfl ((Sat.pick [1] h14).isBlk.view0)) rfl rfl rfl ?_
  obtain ⟨y_, hy16, hm⟩ := sp_bind hm
  rcases y_ with _ | ⟨r3_3, r4_3⟩
  · refine G.does (does_fn 0 rfl rfl rfl en9 h14 (fun U hU hp hr hs => M_roster_Put_v_w (l := ([] : List G_api_Instance)) (i := (G_api_Instance.mk (fun _ => 0) 1 0 5 false 0 0 80 ([97] : List UInt8))) (V.nil _ _) (Nat.zero_le _) hp hy16)) rfl rfl rfl ?_
    rintro _ w17 ⟨U20, hb21, rfl, h19⟩
    have h18 : Sat W w17 [blk b7 (bytesV (List.ofFn (n := 20) (fun _ => 0)) ++ ([(.int .u64 2), (.int .u64 0), (.int .u32 5), (.bool false), (.int .u16 0), (.int .u16 0), (.int .u16 80), (.string (str ([97] : List UInt8)))] : List Value)) 31, blk b1 (bytesV (List.ofFn (n := 20) (fun _ => 0)) ++ ([(.int .u64 1), (.int .u64 0), (.int .u32 5), (.bool false), (.int .u16 0), (.int .u16 0), (.int .u16 80), (.string (str ([97] : List UInt8)))] : List Value)) 31] := hb21 h19
    refine G.yl (yl_move rfl) rfl rfl rfl ?_
    refine G.yl (yl_extract rfl rfl) rfl rfl rfl ?_
    refine G.yl (yl_extract rfl rfl) rfl rfl rfl ?_
    refine G.yl (yl_assign rfl) rfl rfl rfl ?_
    refine G.yl (yl_assign rfl) rfl rfl rfl ?_
    refine G.nil ?_
    refine QA.then_normal ?_
    refine C.seq ?_
    refine C.region ?_
    refine G.yl (yl_move rfl) rfl rfl rfl ?_
    refine G.yl (yl_loadN (vs := (bytesV (List.ofFn (n := 20) (fun _ => 0)) ++ ([(.int .u64 2), (.int .u64 0), (.int .u32 5), (.bool false), (.int .u16 0), (.int .u16 0), (.int .u16 80), (.string (str ([97] : List UInt8)))] : List Value))) ag31 sz31 (by simp [bytesV_length]) rfl (h18.isBlk.view0)) rfl rfl rfl ?_
    obtain ⟨y__2, hy22, hm⟩ := sp_bind hm
    rcases y__2 with _ | ⟨r3_2, r4_2⟩
    · refine G.does (does_fn 0 rfl rfl rfl en9 h18 (fun U hU hp hr hs => M_roster_Put_v_w (l := ([] : List G_api_Instance)) (i := (G_api_Instance.mk (fun _ => 0) 2 0 5 false 0 0 80 ([97] : List UInt8))) (V.nil _ _) (Nat.zero_le _) hp hy22)) rfl rfl rfl ?_
      rintro _ w23 ⟨U26, hb27, rfl, h25⟩
      have h24 : Sat W w23 [blk b7 (bytesV (List.ofFn (n := 20) (fun _ => 0)) ++ ([(.int .u64 2), (.int .u64 0), (.int .u32 5), (.bool false), (.int .u16 0), (.int .u16 0), (.int .u16 80), (.string (str ([97] : List UInt8)))] : List Value)) 31, blk b1 (bytesV (List.ofFn (n := 20) (fun _ => 0)) ++ ([(.int .u64 1), (.int .u64 0), (.int .u32 5), (.bool false), (.int .u16 0), (.int .u16 0), (.int .u16 80), (.string (str ([97] : List UInt8)))] : List Value)) 31] := hb27 h25
      refine G.yl (yl_move rfl) rfl rfl rfl ?_
      refine G.yl (yl_extract rfl rfl) rfl rfl rfl ?_
      refine G.yl (yl_extract rfl rfl) rfl rfl rfl ?_
      refine G.yl (yl_assign rfl) rfl rfl rfl ?_
      refine G.yl (yl_assign rfl) rfl rfl rfl ?_
      refine G.nil ?_
      refine QA.then_normal ?_
      refine C.seq ?_
      refine C.draw (V := fun w' => True) (nd := []) (sp := []) (n := 21) rfl h24 rfl rfl ?_
      intro w28 h29
      have hS30 : Cls (fun w' => True) [] [] #[nn, nn, nn, nn, nn, nn, nn, nn, nn, nn, nn, nn, nn, nn, nn, nn, nn, nn, nn, nn, nn] w28 := Cls.keep (trivial) (by kernel_rfl)
      refine GH.yl (i := 0) (listed' := #[yy, nn, nn, nn, nn, nn, nn, nn, nn, nn, nn, nn, nn, nn, nn, nn, nn, nn, nn, nn, nn]) rfl (by kernel_rfl) rfl (NP.next NP.body) rfl rfl rfl (fun w' => yl_move rfl) hS30 (fun hS31 => ?_)
      refine GH.yl (i := 1) (listed' := #[yy, yy, nn, nn, nn, nn, nn, nn, nn, nn, nn, nn, nn, nn, nn, nn, nn, nn, nn, nn, nn]) rfl (by kernel_rfl) rfl (NP.next NP.body) rfl rfl rfl (fun w' => yl_move rfl) hS31 (fun hS32 => ?_)
      refine GH.off (i := 2) (listed' := #[yy, yy, yy, nn, nn, nn, nn, nn, nn, nn, nn, nn, nn, nn, nn, nn, nn, nn, nn, nn, nn]) rfl (by kernel_rfl) rfl (NP.next NP.body) rfl rfl rfl rfl rfl hS32 (fun hS33 => ?_)
      refine GH.yl (i := 3) (listed' := #[yy, yy, yy, yy, nn, nn, nn, nn, nn, nn, nn, nn, nn, nn, nn, nn, nn, nn, nn, nn, nn]) rfl (by kernel_rfl) rfl (NP.next NP.body) rfl rfl rfl (fun w' => yl_pick_f rfl rfl rfl) hS33 (fun hS34 => ?_)
      refine GH.yl (i := 4) (listed' := #[yy, yy, yy, yy, yy, nn, nn, nn, nn, nn, nn, nn, nn, nn, nn, nn, nn, nn, nn, nn, nn]) rfl (by kernel_rfl) rfl (NP.next NP.body) rfl rfl rfl (fun w' => yl_move rfl) hS34 (fun hS35 => ?_)
      refine GH.off (i := 5) (listed' := #[yy, yy, yy, yy, yy, yy, nn, nn, nn, nn, nn, nn, nn, nn, nn, nn, nn, nn, nn, nn, nn]) rfl (by kernel_rfl) rfl (NP.next NP.body) rfl rfl rfl rfl rfl hS35 (fun hS36 => ?_)
      refine GH.off (i := 6) (listed' := #[yy, yy, yy, yy, yy, yy, yy, nn, nn, nn, nn, nn, nn, nn, nn, nn, nn, nn, nn, nn, nn]) rfl (by kernel_rfl) rfl (NP.next NP.body) rfl rfl rfl rfl rfl hS36 (fun hS37 => ?_)
      refine GH.off (i := 7) (listed' := #[yy, yy, yy, yy, yy, yy, yy, yy, nn, nn, nn, nn, nn, nn, nn, nn, nn, nn, nn, nn, nn]) rfl (by kernel_rfl) rfl (NP.next NP.body) rfl rfl rfl rfl rfl hS37 (fun hS38 => ?_)
      refine GH.yl (i := 8) (listed' := #[yy, yy, yy, yy, yy, yy, yy, yy, yy, nn, nn, nn, nn, nn, nn, nn, nn, nn, nn, nn, nn]) rfl (by kernel_rfl) rfl (NP.next NP.body) rfl rfl rfl (fun w' => yl_pick_f rfl rfl rfl) hS38 (fun hS39 => ?_)
      refine GH.yl (i := 9) (listed' := #[yy, yy, yy, yy, yy, yy, yy, yy, yy, yy, nn, nn, nn, nn, nn, nn, nn, nn, nn, nn, nn]) rfl (by kernel_rfl) rfl (NP.next NP.body) rfl rfl rfl (fun w' => yl_move rfl) hS39 (fun hS40 => ?_)
      refine GH.off (i := 10) (listed' := #[yy, yy, yy, yy, yy, yy, yy, yy, yy, yy, yy, nn, nn, nn, nn, nn, nn, nn, nn, nn, nn]) rfl (by kernel_rfl) rfl (NP.next NP.body) rfl rfl rfl rfl rfl hS40 (fun hS41 => ?_)
      refine GH.off (i := 11) (listed' := #[yy, yy, yy, yy, yy, yy, yy, yy, yy, yy, yy, yy, nn, nn, nn, nn, nn, nn, nn, nn, nn]) rfl (by kernel_rfl) rfl (NP.next NP.body) rfl rfl rfl rfl rfl hS41 (fun hS42 => ?_)
      refine GH.off (i := 12) (listed' := #[yy, yy, yy, yy, yy, yy, yy, yy, yy, yy, yy, yy, yy, nn, nn, nn, nn, nn, nn, nn, nn]) rfl (by kernel_rfl) rfl (NP.next NP.body) rfl rfl rfl rfl rfl hS42 (fun hS43 => ?_)
      refine GH.off (i := 13) (listed' := #[yy, yy, yy, yy, yy, yy, yy, yy, yy, yy, yy, yy, yy, yy, nn, nn, nn, nn, nn, nn, nn]) rfl (by kernel_rfl) rfl (NP.next NP.body) rfl rfl rfl rfl rfl hS43 (fun hS44 => ?_)
      refine GH.off (i := 14) (listed' := #[yy, yy, yy, yy, yy, yy, yy, yy, yy, yy, yy, yy, yy, yy, yy, nn, nn, nn, nn, nn, nn]) rfl (by kernel_rfl) rfl (NP.next NP.body) rfl rfl rfl rfl rfl hS44 (fun hS45 => ?_)
      refine GH.yl (i := 15) (listed' := #[yy, yy, yy, yy, yy, yy, yy, yy, yy, yy, yy, yy, yy, yy, yy, yy, nn, nn, nn, nn, nn]) rfl (by kernel_rfl) rfl (NP.next NP.body) rfl rfl rfl (fun w' => yl_pick_f rfl rfl rfl) hS45 (fun hS46 => ?_)
      refine GH.yl (i := 16) (listed' := #[yy, yy, yy, yy, yy, yy, yy, yy, yy, yy, yy, yy, yy, yy, yy, yy, yy, nn, nn, nn, nn]) rfl (by kernel_rfl) rfl (NP.next NP.body) rfl rfl rfl (fun w' => yl_move rfl) hS46 (fun hS47 => ?_)
      refine GH.off (i := 17) (listed' := #[yy, yy, yy, yy, yy, yy, yy, yy, yy, yy, yy, yy, yy, yy, yy, yy, yy, yy, nn, nn, nn]) rfl (by kernel_rfl) rfl (NP.next NP.body) rfl rfl rfl rfl rfl hS47 (fun hS48 => ?_)
      refine GH.off (i := 18) (listed' := #[yy, yy, yy, yy, yy, yy, yy, yy, yy, yy, yy, yy, yy, yy, yy, yy, yy, yy, yy, nn, nn]) rfl (by kernel_rfl) rfl (NP.next NP.body) rfl rfl rfl rfl rfl hS48 (fun hS49 => ?_)
      refine GH.yl (i := 19) (listed' := #[yy, yy, yy, yy, yy, yy, yy, yy, yy, yy, yy, yy, yy, yy, yy, yy, yy, yy, yy, yy, nn]) rfl (by kernel_rfl) rfl (NP.next NP.body) rfl rfl rfl (fun w' => yl_pick_f rfl rfl rfl) hS49 (fun hS50 => ?_)
      refine GH.yl (i := 20) (listed' := #[yy, yy, yy, yy, yy, yy, yy, yy, yy, yy, yy, yy, yy, yy, yy, yy, yy, yy, yy, yy, yy]) rfl (by kernel_rfl) rfl (NP.next NP.body) rfl rfl rfl (fun w' => yl_assign rfl) hS50 (fun hS51 => ?_)
      refine GH.done (by kernel_rfl) ?_
      refine QA.then_normal ?_
      refine C.ret ?_
      refine QA.ret1 rfl rfl ?_
      obtain rfl := sp_ret1 hm
      exact ⟨rfl, (Sat.pick [] h29)⟩
    · refine G.does (does_fn 0 rfl rfl rfl en9 h18 (fun U hU hp hr hs => M_roster_Put_v_w (l := ([] : List G_api_Instance)) (i := (G_api_Instance.mk (fun _ => 0) 2 0 5 false 0 0 80 ([97] : List UInt8))) (V.nil _ _) (Nat.zero_le _) hp hy22)) rfl rfl rfl ?_
      rintro _ w54 ⟨U57, hb58, r152, r253, rfl, h56⟩
      have h55 : Sat W w54 [ow el_G_api_Instance r152 r253 31 r3_2, blk b7 (bytesV (List.ofFn (n := 20) (fun _ => 0)) ++ ([(.int .u64 2), (.int .u64 0), (.int .u32 5), (.bool false), (.int .u16 0), (.int .u16 0), (.int .u16 80), (.string (str ([97] : List UInt8)))] : List Value)) 31, blk b1 (bytesV (List.ofFn (n := 20) (fun _ => 0)) ++ ([(.int .u64 1), (.int .u64 0), (.int .u32 5), (.bool false), (.int .u16 0), (.int .u16 0), (.int .u16 80), (.string (str ([97] : List UInt8)))] : List Value)) 31] := hb58 h56
      refine G.yl (yl_move rfl) rfl rfl rfl ?_
      refine G.yl (yl_extract rfl rfl) rfl rfl rfl ?_
      refine G.yl (yl_extract rfl rfl) rfl rfl rfl ?_
      refine G.yl (yl_assign rfl) rfl rfl rfl ?_
      refine G.yl (yl_assign rfl) rfl rfl rfl ?_
      refine G.nil ?_
      refine QA.then_normal ?_
      refine C.seq ?_
      refine C.draw (V := fun w' => True) (nd := []) (sp := []) (n := 21) rfl h55 rfl rfl ?_
      intro w59 h60
      have hS61 : Cls (fun w' => True) [] [] #[nn, nn, nn, nn, nn, nn, nn, nn, nn, nn, nn, nn, nn, nn, nn, nn, nn, nn, nn, nn, nn] w59 := Cls.keep (trivial) (by kernel_rfl)
      refine GH.yl (i := 0) (listed' := #[yy, nn, nn, nn, nn, nn, nn, nn, nn, nn, nn, nn, nn, nn, nn, nn, nn, nn, nn, nn, nn]) rfl (by kernel_rfl) rfl (NP.next NP.body) rfl rfl rfl (fun w' => yl_move rfl) hS61 (fun hS62 => ?_)
      refine GH.yl (i := 1) (listed' := #[yy, yy, nn, nn, nn, nn, nn, nn, nn, nn, nn, nn, nn, nn, nn, nn, nn, nn, nn, nn, nn]) rfl (by kernel_rfl) rfl (NP.next NP.body) rfl rfl rfl (fun w' => yl_move rfl) hS62 (fun hS63 => ?_)
      refine GH.off (i := 2) (listed' := #[yy, yy, yy, nn, nn, nn, nn, nn, nn, nn, nn, nn, nn, nn, nn, nn, nn, nn, nn, nn, nn]) rfl (by kernel_rfl) rfl (NP.next NP.body) rfl rfl rfl rfl rfl hS63 (fun hS64 => ?_)
      refine GH.yl (i := 3) (listed' := #[yy, yy, yy, yy, nn, nn, nn, nn, nn, nn, nn, nn, nn, nn, nn, nn, nn, nn, nn, nn, nn]) rfl (by kernel_rfl) rfl (NP.next NP.body) rfl rfl rfl (fun w' => yl_pick_f rfl rfl rfl) hS64 (fun hS65 => ?_)
      refine GH.yl (i := 4) (listed' := #[yy, yy, yy, yy, yy, nn, nn, nn, nn, nn, nn, nn, nn, nn, nn, nn, nn, nn, nn, nn, nn]) rfl (by kernel_rfl) rfl (NP.next NP.body) rfl rfl rfl (fun w' => yl_move rfl) hS65 (fun hS66 => ?_)
      refine GH.off (i := 5) (listed' := #[yy, yy, yy, yy, yy, yy, nn, nn, nn, nn, nn, nn, nn, nn, nn, nn, nn, nn, nn, nn, nn]) rfl (by kernel_rfl) rfl (NP.next NP.body) rfl rfl rfl rfl rfl hS66 (fun hS67 => ?_)
      refine GH.off (i := 6) (listed' := #[yy, yy, yy, yy, yy, yy, yy, nn, nn, nn, nn, nn, nn, nn, nn, nn, nn, nn, nn, nn, nn]) rfl (by kernel_rfl) rfl (NP.next NP.body) rfl rfl rfl rfl rfl hS67 (fun hS68 => ?_)
      refine GH.off (i := 7) (listed' := #[yy, yy, yy, yy, yy, yy, yy, yy, nn, nn, nn, nn, nn, nn, nn, nn, nn, nn, nn, nn, nn]) rfl (by kernel_rfl) rfl (NP.next NP.body) rfl rfl rfl rfl rfl hS68 (fun hS69 => ?_)
      refine GH.yl (i := 8) (listed' := #[yy, yy, yy, yy, yy, yy, yy, yy, yy, nn, nn, nn, nn, nn, nn, nn, nn, nn, nn, nn, nn]) rfl (by kernel_rfl) rfl (NP.next NP.body) rfl rfl rfl (fun w' => yl_pick_f rfl rfl rfl) hS69 (fun hS70 => ?_)
      refine GH.yl (i := 9) (listed' := #[yy, yy, yy, yy, yy, yy, yy, yy, yy, yy, nn, nn, nn, nn, nn, nn, nn, nn, nn, nn, nn]) rfl (by kernel_rfl) rfl (NP.next NP.body) rfl rfl rfl (fun w' => yl_move rfl) hS70 (fun hS71 => ?_)
      refine GH.off (i := 10) (listed' := #[yy, yy, yy, yy, yy, yy, yy, yy, yy, yy, yy, nn, nn, nn, nn, nn, nn, nn, nn, nn, nn]) rfl (by kernel_rfl) rfl (NP.next NP.body) rfl rfl rfl rfl rfl hS71 (fun hS72 => ?_)
      refine GH.off (i := 11) (listed' := #[yy, yy, yy, yy, yy, yy, yy, yy, yy, yy, yy, yy, nn, nn, nn, nn, nn, nn, nn, nn, nn]) rfl (by kernel_rfl) rfl (NP.next NP.body) rfl rfl rfl rfl rfl hS72 (fun hS73 => ?_)
      refine GH.off (i := 12) (listed' := #[yy, yy, yy, yy, yy, yy, yy, yy, yy, yy, yy, yy, yy, nn, nn, nn, nn, nn, nn, nn, nn]) rfl (by kernel_rfl) rfl (NP.next NP.body) rfl rfl rfl rfl rfl hS73 (fun hS74 => ?_)
      refine GH.off (i := 13) (listed' := #[yy, yy, yy, yy, yy, yy, yy, yy, yy, yy, yy, yy, yy, yy, nn, nn, nn, nn, nn, nn, nn]) rfl (by kernel_rfl) rfl (NP.next NP.body) rfl rfl rfl rfl rfl hS74 (fun hS75 => ?_)
      refine GH.off (i := 14) (listed' := #[yy, yy, yy, yy, yy, yy, yy, yy, yy, yy, yy, yy, yy, yy, yy, nn, nn, nn, nn, nn, nn]) rfl (by kernel_rfl) rfl (NP.next NP.body) rfl rfl rfl rfl rfl hS75 (fun hS76 => ?_)
      refine GH.yl (i := 15) (listed' := #[yy, yy, yy, yy, yy, yy, yy, yy, yy, yy, yy, yy, yy, yy, yy, yy, nn, nn, nn, nn, nn]) rfl (by kernel_rfl) rfl (NP.next NP.body) rfl rfl rfl (fun w' => yl_pick_f rfl rfl rfl) hS76 (fun hS77 => ?_)
      refine GH.yl (i := 16) (listed' := #[yy, yy, yy, yy, yy, yy, yy, yy, yy, yy, yy, yy, yy, yy, yy, yy, yy, nn, nn, nn, nn]) rfl (by kernel_rfl) rfl (NP.next NP.body) rfl rfl rfl (fun w' => yl_move rfl) hS77 (fun hS78 => ?_)
      refine GH.off (i := 17) (listed' := #[yy, yy, yy, yy, yy, yy, yy, yy, yy, yy, yy, yy, yy, yy, yy, yy, yy, yy, nn, nn, nn]) rfl (by kernel_rfl) rfl (NP.next NP.body) rfl rfl rfl rfl rfl hS78 (fun hS79 => ?_)
      refine GH.off (i := 18) (listed' := #[yy, yy, yy, yy, yy, yy, yy, yy, yy, yy, yy, yy, yy, yy, yy, yy, yy, yy, yy, nn, nn]) rfl (by kernel_rfl) rfl (NP.next NP.body) rfl rfl rfl rfl rfl hS79 (fun hS80 => ?_)
      refine GH.yl (i := 19) (listed' := #[yy, yy, yy, yy, yy, yy, yy, yy, yy, yy, yy, yy, yy, yy, yy, yy, yy, yy, yy, yy, nn]) rfl (by kernel_rfl) rfl (NP.next NP.body) rfl rfl rfl (fun w' => yl_pick_f rfl rfl rfl) hS80 (fun hS81 => ?_)
      refine GH.yl (i := 20) (listed' := #[yy, yy, yy, yy, yy, yy, yy, yy, yy, yy, yy, yy, yy, yy, yy, yy, yy, yy, yy, yy, yy]) rfl (by kernel_rfl) rfl (NP.next NP.body) rfl rfl rfl (fun w' => yl_assign rfl) hS81 (fun hS82 => ?_)
      refine GH.done (by kernel_rfl) ?_
      refine QA.then_normal ?_
      refine C.ret ?_
      refine QA.ret1 rfl rfl ?_
      obtain rfl := sp_ret1 hm
      exact ⟨rfl, (Sat.pick [] h60)⟩
  · refine G.does (does_fn 0 rfl rfl rfl en9 h14 (fun U hU hp hr hs => M_roster_Put_v_w (l := ([] : List G_api_Instance)) (i := (G_api_Instance.mk (fun _ => 0) 1 0 5 false 0 0 80 ([97] : List UInt8))) (V.nil _ _) (Nat.zero_le _) hp hy16)) rfl rfl rfl ?_
    rintro _ w85 ⟨U88, hb89, r183, r284, rfl, h87⟩
    have h86 : Sat W w85 [ow el_G_api_Instance r183 r284 31 r3_3, blk b7 (bytesV (List.ofFn (n := 20) (fun _ => 0)) ++ ([(.int .u64 2), (.int .u64 0), (.int .u32 5), (.bool false), (.int .u16 0), (.int .u16 0), (.int .u16 80), (.string (str ([97] : List UInt8)))] : List Value)) 31, blk b1 (bytesV (List.ofFn (n := 20) (fun _ => 0)) ++ ([(.int .u64 1), (.int .u64 0), (.int .u32 5), (.bool false), (.int .u16 0), (.int .u16 0), (.int .u16 80), (.string (str ([97] : List UInt8)))] : List Value)) 31] := hb89 h87
    refine G.yl (yl_move rfl) rfl rfl rfl ?_
    refine G.yl (yl_extract rfl rfl) rfl rfl rfl ?_
    refine G.yl (yl_extract rfl rfl) rfl rfl rfl ?_
    refine G.yl (yl_assign rfl) rfl rfl rfl ?_
    refine G.yl (yl_assign rfl) rfl rfl rfl ?_
    refine G.nil ?_
    refine QA.then_normal ?_
    refine C.seq ?_
    refine C.region ?_
    refine G.yl (yl_move rfl) rfl rfl rfl ?_
    refine G.yl (yl_loadN (vs := (bytesV (List.ofFn (n := 20) (fun _ => 0)) ++ ([(.int .u64 2), (.int .u64 0), (.int .u32 5), (.bool false), (.int .u16 0), (.int .u16 0), (.int .u16 80), (.string (str ([97] : List UInt8)))] : List Value))) ag31 sz31 (by simp [bytesV_length]) rfl ((Sat.pick [1] h86).isBlk.view0)) rfl rfl rfl ?_
    obtain ⟨y__3, hy90, hm⟩ := sp_bind hm
    rcases y__3 with _ | ⟨r3_4, r4_4⟩
    · refine G.does (does_fn 0 rfl rfl rfl en9 h86 (fun U hU hp hr hs => M_roster_Put_v_w (l := r3_3) (i := (G_api_Instance.mk (fun _ => 0) 2 0 5 false 0 0 80 ([97] : List UInt8))) (Rest.view hr) (Sat.own_cap h86).1 hp hy90)) rfl rfl rfl ?_
      rintro _ w91 ⟨U94, hb95, rfl, h93⟩
      have h92 : Sat W w91 [ow el_G_api_Instance r183 r284 31 r3_3, blk b7 (bytesV (List.ofFn (n := 20) (fun _ => 0)) ++ ([(.int .u64 2), (.int .u64 0), (.int .u32 5), (.bool false), (.int .u16 0), (.int .u16 0), (.int .u16 80), (.string (str ([97] : List UInt8)))] : List Value)) 31, blk b1 (bytesV (List.ofFn (n := 20) (fun _ => 0)) ++ ([(.int .u64 1), (.int .u64 0), (.int .u32 5), (.bool false), (.int .u16 0), (.int .u16 0), (.int .u16 80), (.string (str ([97] : List UInt8)))] : List Value)) 31] := hb95 h93
      refine G.yl (yl_move rfl) rfl rfl rfl ?_
      refine G.yl (yl_extract rfl rfl) rfl rfl rfl ?_
      refine G.yl (yl_extract rfl rfl) rfl rfl rfl ?_
      refine G.yl (yl_assign rfl) rfl rfl rfl ?_
      refine G.yl (yl_assign rfl) rfl rfl rfl ?_
      refine G.nil ?_
      refine QA.then_normal ?_
      refine C.seq ?_
      refine C.draw (V := fun w' => True) (nd := [2]) (sp := []) (n := 21) rfl h92 rfl rfl ?_
      intro w96 h97
      have hS98 : Cls (fun w' => True) [2] [] #[nn, nn, nn, nn, nn, nn, nn, nn, nn, nn, nn, nn, nn, nn, nn, nn, nn, nn, nn, nn, nn] w96 := Cls.keep (trivial) (by kernel_rfl)
      refine GH.yl (i := 0) (listed' := #[yy, nn, nn, nn, nn, nn, nn, nn, nn, nn, nn, nn, nn, nn, nn, nn, nn, nn, nn, nn, nn]) rfl (by kernel_rfl) rfl (NP.next NP.body) rfl rfl rfl (fun w' => yl_move rfl) hS98 (fun hS99 => ?_)
      refine GH.yl (i := 1) (listed' := #[yy, yy, nn, nn, nn, nn, nn, nn, nn, nn, nn, nn, nn, nn, nn, nn, nn, nn, nn, nn, nn]) rfl (by kernel_rfl) rfl (NP.next NP.body) rfl rfl rfl (fun w' => yl_move rfl) hS99 (fun hS100 => ?_)
      rcases sp_b hm with ⟨hc101, hm⟩ | ⟨hc101, hm⟩
      · refine GH.on (i := 2) (listed' := #[yy, yy, yy, nn, nn, nn, nn, nn, nn, nn, nn, nn, nn, nn, nn, nn, nn, nn, nn, nn, nn]) rfl (by kernel_rfl) rfl rfl (NP.next NP.body) rfl rfl rfl rfl hc101 (fun w' hw' => yl_move rfl) hS100 (fun hS102 => ?_)
        refine GH.yl (i := 3) (listed' := #[yy, yy, yy, yy, nn, nn, nn, nn, nn, nn, nn, nn, nn, nn, nn, nn, nn, nn, nn, nn, nn]) rfl (by kernel_rfl) rfl (NP.next NP.body) rfl rfl rfl (fun w' => yl_pick_t rfl hc101 rfl) hS102 (fun hS103 => ?_)
        refine GH.yl (i := 4) (listed' := #[yy, yy, yy, yy, yy, nn, nn, nn, nn, nn, nn, nn, nn, nn, nn, nn, nn, nn, nn, nn, nn]) rfl (by kernel_rfl) rfl (NP.next NP.body) rfl rfl rfl (fun w' => yl_move rfl) hS103 (fun hS104 => ?_)
        refine GH.off (i := 5) (listed' := #[yy, yy, yy, yy, yy, yy, nn, nn, nn, nn, nn, nn, nn, nn, nn, nn, nn, nn, nn, nn, nn]) rfl (by kernel_rfl) rfl (NP.next NP.body) rfl rfl rfl rfl rfl hS104 (fun hS105 => ?_)
        refine GH.off (i := 6) (listed' := #[yy, yy, yy, yy, yy, yy, yy, nn, nn, nn, nn, nn, nn, nn, nn, nn, nn, nn, nn, nn, nn]) rfl (by kernel_rfl) rfl (NP.next NP.body) rfl rfl rfl rfl rfl hS105 (fun hS106 => ?_)
        refine GH.off (i := 7) (listed' := #[yy, yy, yy, yy, yy, yy, yy, yy, nn, nn, nn, nn, nn, nn, nn, nn, nn, nn, nn, nn, nn]) rfl (by kernel_rfl) rfl (NP.next NP.body) rfl rfl rfl rfl rfl hS106 (fun hS107 => ?_)
        refine GH.yl (i := 8) (listed' := #[yy, yy, yy, yy, yy, yy, yy, yy, yy, nn, nn, nn, nn, nn, nn, nn, nn, nn, nn, nn, nn]) rfl (by kernel_rfl) rfl (NP.next NP.body) rfl rfl rfl (fun w' => yl_pick_f rfl rfl rfl) hS107 (fun hS108 => ?_)
        refine GH.yl (i := 9) (listed' := #[yy, yy, yy, yy, yy, yy, yy, yy, yy, yy, nn, nn, nn, nn, nn, nn, nn, nn, nn, nn, nn]) rfl (by kernel_rfl) rfl (NP.next NP.body) rfl rfl rfl (fun w' => yl_move rfl) hS108 (fun hS109 => ?_)
        refine GH.off (i := 10) (listed' := #[yy, yy, yy, yy, yy, yy, yy, yy, yy, yy, yy, nn, nn, nn, nn, nn, nn, nn, nn, nn, nn]) rfl (by kernel_rfl) rfl (NP.next NP.body) rfl rfl rfl rfl rfl hS109 (fun hS110 => ?_)
        refine GH.off (i := 11) (listed' := #[yy, yy, yy, yy, yy, yy, yy, yy, yy, yy, yy, yy, nn, nn, nn, nn, nn, nn, nn, nn, nn]) rfl (by kernel_rfl) rfl (NP.next NP.body) rfl rfl rfl rfl rfl hS110 (fun hS111 => ?_)
        refine GH.off (i := 12) (listed' := #[yy, yy, yy, yy, yy, yy, yy, yy, yy, yy, yy, yy, yy, nn, nn, nn, nn, nn, nn, nn, nn]) rfl (by kernel_rfl) rfl (NP.next NP.body) rfl rfl rfl rfl rfl hS111 (fun hS112 => ?_)
        refine GH.off (i := 13) (listed' := #[yy, yy, yy, yy, yy, yy, yy, yy, yy, yy, yy, yy, yy, yy, nn, nn, nn, nn, nn, nn, nn]) rfl (by kernel_rfl) rfl (NP.next NP.body) rfl rfl rfl rfl rfl hS112 (fun hS113 => ?_)
        refine GH.off (i := 14) (listed' := #[yy, yy, yy, yy, yy, yy, yy, yy, yy, yy, yy, yy, yy, yy, yy, nn, nn, nn, nn, nn, nn]) rfl (by kernel_rfl) rfl (NP.next NP.body) rfl rfl rfl rfl rfl hS113 (fun hS114 => ?_)
        refine GH.yl (i := 15) (listed' := #[yy, yy, yy, yy, yy, yy, yy, yy, yy, yy, yy, yy, yy, yy, yy, yy, nn, nn, nn, nn, nn]) rfl (by kernel_rfl) rfl (NP.next NP.body) rfl rfl rfl (fun w' => yl_pick_f rfl rfl rfl) hS114 (fun hS115 => ?_)
        refine GH.yl (i := 16) (listed' := #[yy, yy, yy, yy, yy, yy, yy, yy, yy, yy, yy, yy, yy, yy, yy, yy, yy, nn, nn, nn, nn]) rfl (by kernel_rfl) rfl (NP.next NP.body) rfl rfl rfl (fun w' => yl_move rfl) hS115 (fun hS116 => ?_)
        refine GH.off (i := 17) (listed' := #[yy, yy, yy, yy, yy, yy, yy, yy, yy, yy, yy, yy, yy, yy, yy, yy, yy, yy, nn, nn, nn]) rfl (by kernel_rfl) rfl (NP.next NP.body) rfl rfl rfl rfl rfl hS116 (fun hS117 => ?_)
        refine GH.off (i := 18) (listed' := #[yy, yy, yy, yy, yy, yy, yy, yy, yy, yy, yy, yy, yy, yy, yy, yy, yy, yy, yy, nn, nn]) rfl (by kernel_rfl) rfl (NP.next NP.body) rfl rfl rfl rfl rfl hS117 (fun hS118 => ?_)
        refine GH.yl (i := 19) (listed' := #[yy, yy, yy, yy, yy, yy, yy, yy, yy, yy, yy, yy, yy, yy, yy, yy, yy, yy, yy, yy, nn]) rfl (by kernel_rfl) rfl (NP.next NP.body) rfl rfl rfl (fun w' => yl_pick_f rfl rfl rfl) hS118 (fun hS119 => ?_)
        refine GH.yl (i := 20) (listed' := #[yy, yy, yy, yy, yy, yy, yy, yy, yy, yy, yy, yy, yy, yy, yy, yy, yy, yy, yy, yy, yy]) rfl (by kernel_rfl) rfl (NP.next NP.body) rfl rfl rfl (fun w' => yl_assign rfl) hS119 (fun hS120 => ?_)
        refine GH.done (by kernel_rfl) ?_
        refine QA.then_normal ?_
        refine C.ret ?_
        refine QA.ret1 rfl rfl ?_
        obtain rfl := sp_ret1 hm
        exact ⟨rfl, (Sat.pick [] h97)⟩
      · refine GH.off (i := 2) (listed' := #[yy, yy, yy, nn, nn, nn, nn, nn, nn, nn, nn, nn, nn, nn, nn, nn, nn, nn, nn, nn, nn]) rfl (by kernel_rfl) rfl (NP.next NP.body) rfl rfl rfl rfl hc101 hS100 (fun hS121 => ?_)
        refine GH.yl (i := 3) (listed' := #[yy, yy, yy, yy, nn, nn, nn, nn, nn, nn, nn, nn, nn, nn, nn, nn, nn, nn, nn, nn, nn]) rfl (by kernel_rfl) rfl (NP.next NP.body) rfl rfl rfl (fun w' => yl_pick_f rfl hc101 rfl) hS121 (fun hS122 => ?_)
        refine GH.yl (i := 4) (listed' := #[yy, yy, yy, yy, yy, nn, nn, nn, nn, nn, nn, nn, nn, nn, nn, nn, nn, nn, nn, nn, nn]) rfl (by kernel_rfl) rfl (NP.next NP.body) rfl rfl rfl (fun w' => yl_move rfl) hS122 (fun hS123 => ?_)
        refine GH.off (i := 5) (listed' := #[yy, yy, yy, yy, yy, yy, nn, nn, nn, nn, nn, nn, nn, nn, nn, nn, nn, nn, nn, nn, nn]) rfl (by kernel_rfl) rfl (NP.next NP.body) rfl rfl rfl rfl rfl hS123 (fun hS124 => ?_)
        refine GH.off (i := 6) (listed' := #[yy, yy, yy, yy, yy, yy, yy, nn, nn, nn, nn, nn, nn, nn, nn, nn, nn, nn, nn, nn, nn]) rfl (by kernel_rfl) rfl (NP.next NP.body) rfl rfl rfl rfl rfl hS124 (fun hS125 => ?_)
        refine GH.off (i := 7) (listed' := #[yy, yy, yy, yy, yy, yy, yy, yy, nn, nn, nn, nn, nn, nn, nn, nn, nn, nn, nn, nn, nn]) rfl (by kernel_rfl) rfl (NP.next NP.body) rfl rfl rfl rfl rfl hS125 (fun hS126 => ?_)
        refine GH.yl (i := 8) (listed' := #[yy, yy, yy, yy, yy, yy, yy, yy, yy, nn, nn, nn, nn, nn, nn, nn, nn, nn, nn, nn, nn]) rfl (by kernel_rfl) rfl (NP.next NP.body) rfl rfl rfl (fun w' => yl_pick_f rfl rfl rfl) hS126 (fun hS127 => ?_)
        refine GH.yl (i := 9) (listed' := #[yy, yy, yy, yy, yy, yy, yy, yy, yy, yy, nn, nn, nn, nn, nn, nn, nn, nn, nn, nn, nn]) rfl (by kernel_rfl) rfl (NP.next NP.body) rfl rfl rfl (fun w' => yl_move rfl) hS127 (fun hS128 => ?_)
        refine GH.off (i := 10) (listed' := #[yy, yy, yy, yy, yy, yy, yy, yy, yy, yy, yy, nn, nn, nn, nn, nn, nn, nn, nn, nn, nn]) rfl (by kernel_rfl) rfl (NP.next NP.body) rfl rfl rfl rfl rfl hS128 (fun hS129 => ?_)
        refine GH.off (i := 11) (listed' := #[yy, yy, yy, yy, yy, yy, yy, yy, yy, yy, yy, yy, nn, nn, nn, nn, nn, nn, nn, nn, nn]) rfl (by kernel_rfl) rfl (NP.next NP.body) rfl rfl rfl rfl rfl hS129 (fun hS130 => ?_)
        refine GH.off (i := 12) (listed' := #[yy, yy, yy, yy, yy, yy, yy, yy, yy, yy, yy, yy, yy, nn, nn, nn, nn, nn, nn, nn, nn]) rfl (by kernel_rfl) rfl (NP.next NP.body) rfl rfl rfl rfl rfl hS130 (fun hS131 => ?_)
        refine GH.off (i := 13) (listed' := #[yy, yy, yy, yy, yy, yy, yy, yy, yy, yy, yy, yy, yy, yy, nn, nn, nn, nn, nn, nn, nn]) rfl (by kernel_rfl) rfl (NP.next NP.body) rfl rfl rfl rfl rfl hS131 (fun hS132 => ?_)
        refine GH.off (i := 14) (listed' := #[yy, yy, yy, yy, yy, yy, yy, yy, yy, yy, yy, yy, yy, yy, yy, nn, nn, nn, nn, nn, nn]) rfl (by kernel_rfl) rfl (NP.next NP.body) rfl rfl rfl rfl rfl hS132 (fun hS133 => ?_)
        refine GH.yl (i := 15) (listed' := #[yy, yy, yy, yy, yy, yy, yy, yy, yy, yy, yy, yy, yy, yy, yy, yy, nn, nn, nn, nn, nn]) rfl (by kernel_rfl) rfl (NP.next NP.body) rfl rfl rfl (fun w' => yl_pick_f rfl rfl rfl) hS133 (fun hS134 => ?_)
        refine GH.yl (i := 16) (listed' := #[yy, yy, yy, yy, yy, yy, yy, yy, yy, yy, yy, yy, yy, yy, yy, yy, yy, nn, nn, nn, nn]) rfl (by kernel_rfl) rfl (NP.next NP.body) rfl rfl rfl (fun w' => yl_move rfl) hS134 (fun hS135 => ?_)
        refine GH.off (i := 17) (listed' := #[yy, yy, yy, yy, yy, yy, yy, yy, yy, yy, yy, yy, yy, yy, yy, yy, yy, yy, nn, nn, nn]) rfl (by kernel_rfl) rfl (NP.next NP.body) rfl rfl rfl rfl rfl hS135 (fun hS136 => ?_)
        refine GH.off (i := 18) (listed' := #[yy, yy, yy, yy, yy, yy, yy, yy, yy, yy, yy, yy, yy, yy, yy, yy, yy, yy, yy, nn, nn]) rfl (by kernel_rfl) rfl (NP.next NP.body) rfl rfl rfl rfl rfl hS136 (fun hS137 => ?_)
        refine GH.yl (i := 19) (listed' := #[yy, yy, yy, yy, yy, yy, yy, yy, yy, yy, yy, yy, yy, yy, yy, yy, yy, yy, yy, yy, nn]) rfl (by kernel_rfl) rfl (NP.next NP.body) rfl rfl rfl (fun w' => yl_pick_f rfl rfl rfl) hS137 (fun hS138 => ?_)
        refine GH.yl (i := 20) (listed' := #[yy, yy, yy, yy, yy, yy, yy, yy, yy, yy, yy, yy, yy, yy, yy, yy, yy, yy, yy, yy, yy]) rfl (by kernel_rfl) rfl (NP.next NP.body) rfl rfl rfl (fun w' => yl_assign rfl) hS138 (fun hS139 => ?_)
        refine GH.done (by kernel_rfl) ?_
        refine QA.then_normal ?_
        refine C.ret ?_
        refine QA.ret1 rfl rfl ?_
        obtain rfl := sp_ret1 hm
        exact ⟨rfl, (Sat.pick [] h97)⟩
    · refine G.does (does_fn 0 rfl rfl rfl en9 h86 (fun U hU hp hr hs => M_roster_Put_v_w (l := r3_3) (i := (G_api_Instance.mk (fun _ => 0) 2 0 5 false 0 0 80 ([97] : List UInt8))) (Rest.view hr) (Sat.own_cap h86).1 hp hy90)) rfl rfl rfl ?_
      rintro _ w142 ⟨U145, hb146, r1140, r2141, rfl, h144⟩
      have h143 : Sat W w142 [ow el_G_api_Instance r1140 r2141 31 r3_4, ow el_G_api_Instance r183 r284 31 r3_3, blk b7 (bytesV (List.ofFn (n := 20) (fun _ => 0)) ++ ([(.int .u64 2), (.int .u64 0), (.int .u32 5), (.bool false), (.int .u16 0), (.int .u16 0), (.int .u16 80), (.string (str ([97] : List UInt8)))] : List Value)) 31, blk b1 (bytesV (List.ofFn (n := 20) (fun _ => 0)) ++ ([(.int .u64 1), (.int .u64 0), (.int .u32 5), (.bool false), (.int .u16 0), (.int .u16 0), (.int .u16 80), (.string (str ([97] : List UInt8)))] : List Value)) 31] := hb146 h144
      refine G.yl (yl_move rfl) rfl rfl rfl ?_
      refine G.yl (yl_extract rfl rfl) rfl rfl rfl ?_
      refine G.yl (yl_extract rfl rfl) rfl rfl rfl ?_
      refine G.yl (yl_assign rfl) rfl rfl rfl ?_
      refine G.yl (yl_assign rfl) rfl rfl rfl ?_
      refine G.nil ?_
      refine QA.then_normal ?_
      refine C.seq ?_
      refine C.draw (V := fun w' => View w' r1140 (el_G_api_Instance.row r3_4) ∧ View w' (some ⟨b7, 0, none⟩) (bytesV (List.ofFn (n := 20) (fun _ => 0)) ++ ([(.int .u64 2), (.int .u64 0), (.int .u32 5), (.bool false), (.int .u16 0), (.int .u16 0), (.int .u16 80), (.string (str ([97] : List UInt8)))] : List Value))) (nd := [2, 5, 6, 7, 10, 11, 12, 13, 14, 17]) (sp := []) (n := 21) rfl h143 rfl rfl ?_
      intro w147 h148
      have hS149 : Cls (fun w' => View w' r1140 (el_G_api_Instance.row r3_4) ∧ View w' (some ⟨b7, 0, none⟩) (bytesV (List.ofFn (n := 20) (fun _ => 0)) ++ ([(.int .u64 2), (.int .u64 0), (.int .u32 5), (.bool false), (.int .u16 0), (.int .u16 0), (.int .u16 80), (.string (str ([97] : List UInt8)))] : List Value))) [2, 5, 6, 7, 10, 11, 12, 13, 14, 17] [] #[nn, nn, nn, nn, nn, nn, nn, nn, nn, nn, nn, nn, nn, nn, nn, nn, nn, nn, nn, nn, nn] w147 := Cls.keep (⟨(Sat.own_view h148), ((Sat.pick [2] h148).isBlk.view0)⟩) (by kernel_rfl)
      refine GH.yl (i := 0) (listed' := #[yy, nn, nn, nn, nn, nn, nn, nn, nn, nn, nn, nn, nn, nn, nn, nn, nn, nn, nn, nn, nn]) rfl (by kernel_rfl) rfl (NP.next NP.body) rfl rfl rfl (fun w' => yl_move rfl) hS149 (fun hS150 => ?_)
      refine GH.yl (i := 1) (listed' := #[yy, yy, nn, nn, nn, nn, nn, nn, nn, nn, nn, nn, nn, nn, nn, nn, nn, nn, nn, nn, nn]) rfl (by kernel_rfl) rfl (NP.next NP.body) rfl rfl rfl (fun w' => yl_move rfl) hS150 (fun hS151 => ?_)
      rcases sp_b hm with ⟨hc152, hm⟩ | ⟨hc152, hm⟩
      · refine GH.on (i := 2) (listed' := #[yy, yy, yy, nn, nn, nn, nn, nn, nn, nn, nn, nn, nn, nn, nn, nn, nn, nn, nn, nn, nn]) rfl (by kernel_rfl) rfl rfl (NP.next NP.body) rfl rfl rfl rfl hc152 (fun w' hw' => yl_move rfl) hS151 (fun hS153 => ?_)
        refine GH.yl (i := 3) (listed' := #[yy, yy, yy, yy, nn, nn, nn, nn, nn, nn, nn, nn, nn, nn, nn, nn, nn, nn, nn, nn, nn]) rfl (by kernel_rfl) rfl (NP.next NP.body) rfl rfl rfl (fun w' => yl_pick_t rfl hc152 rfl) hS153 (fun hS154 => ?_)
        refine GH.yl (i := 4) (listed' := #[yy, yy, yy, yy, yy, nn, nn, nn, nn, nn, nn, nn, nn, nn, nn, nn, nn, nn, nn, nn, nn]) rfl (by kernel_rfl) rfl (NP.next NP.body) rfl rfl rfl (fun w' => yl_move rfl) hS154 (fun hS155 => ?_)
        rcases sp_b hm with ⟨hc156, hm⟩ | ⟨hc156, hm⟩
        · refine GH.on (i := 5) (listed' := #[yy, yy, yy, yy, yy, yy, nn, nn, nn, nn, nn, nn, nn, nn, nn, nn, nn, nn, nn, nn, nn]) rfl (by kernel_rfl) rfl rfl (NP.next NP.body) rfl rfl rfl rfl hc156 (fun w' hw' => yl_move rfl) hS155 (fun hS157 => ?_)
          refine GH.on (i := 6) (listed' := #[yy, yy, yy, yy, yy, yy, yy, nn, nn, nn, nn, nn, nn, nn, nn, nn, nn, nn, nn, nn, nn]) rfl (by kernel_rfl) rfl rfl (NP.next NP.body) rfl rfl rfl rfl hc156 (fun w' hw' => yl_lenE Try.underlying22 rfl) hS157 (fun hS158 => ?_)
          refine GH.on (i := 7) (listed' := #[yy, yy, yy, yy, yy, yy, yy, yy, nn, nn, nn, nn, nn, nn, nn, nn, nn, nn, nn, nn, nn]) rfl (by kernel_rfl) rfl rfl (NP.next NP.body) rfl rfl rfl rfl hc156 (fun w' hw' => yl_eqI rfl rfl) hS158 (fun hS159 => ?_)
          refine GH.yl (i := 8) (listed' := #[yy, yy, yy, yy, yy, yy, yy, yy, yy, nn, nn, nn, nn, nn, nn, nn, nn, nn, nn, nn, nn]) rfl (by kernel_rfl) rfl (NP.next NP.body) rfl rfl rfl (fun w' => yl_pick_t rfl hc156 rfl) hS159 (fun hS160 => ?_)
          refine GH.yl (i := 9) (listed' := #[yy, yy, yy, yy, yy, yy, yy, yy, yy, yy, nn, nn, nn, nn, nn, nn, nn, nn, nn, nn, nn]) rfl (by kernel_rfl) rfl (NP.next NP.body) rfl rfl rfl (fun w' => yl_move rfl) hS160 (fun hS161 => ?_)
          rcases sp_ite hm with ⟨hc162, hm⟩ | ⟨hc162, hm⟩
          · refine GH.on (i := 10) (listed' := #[yy, yy, yy, yy, yy, yy, yy, yy, yy, yy, yy, nn, nn, nn, nn, nn, nn, nn, nn, nn, nn]) rfl (by kernel_rfl) rfl rfl (NP.next NP.body) rfl rfl rfl rfl (dec_t hc162) (fun w' hw' => yl_move rfl) hS161 (fun hS163 => ?_)
            obtain ⟨x, hy164, hm⟩ := sp_bind hm
            refine GH.on (i := 11) (listed' := #[yy, yy, yy, yy, yy, yy, yy, yy, yy, yy, yy, yy, nn, nn, nn, nn, nn, nn, nn, nn, nn]) rfl (by kernel_rfl) rfl rfl (NP.next NP.body) rfl rfl rfl rfl (dec_t hc162) (fun w' hw' => yl_ixP (l := r3_4) sl22 rfl rfl (View.isA (E := el_G_api_Instance) (Sat.own_view h148) (by decide) (at?_lt hy164)) rfl (at?_lt hy164)) hS163 (fun hS165 => ?_)
            refine GH.on (i := 12) (listed' := #[yy, yy, yy, yy, yy, yy, yy, yy, yy, yy, yy, yy, yy, nn, nn, nn, nn, nn, nn, nn, nn]) rfl (by kernel_rfl) rfl rfl (NP.next NP.body) rfl rfl rfl rfl (dec_t hc162) (fun w' hw' => yl_ldE (E := el_G_api_Instance) ag31 sz31 rfl (hw'.1) (at?_some hy164).2) hS165 (fun hS166 => ?_)
            refine GH.on (i := 13) (listed' := #[yy, yy, yy, yy, yy, yy, yy, yy, yy, yy, yy, yy, yy, yy, nn, nn, nn, nn, nn, nn, nn]) rfl (by kernel_rfl) rfl rfl (NP.next NP.body) rfl rfl rfl rfl (dec_t hc162) (fun w' hw' => yl_loadN (vs := (bytesV (List.ofFn (n := 20) (fun _ => 0)) ++ ([(.int .u64 2), (.int .u64 0), (.int .u32 5), (.bool false), (.int .u16 0), (.int .u16 0), (.int .u16 80), (.string (str ([97] : List UInt8)))] : List Value))) ag31 sz31 (by simp [bytesV_length]) rfl (hw'.2)) hS166 (fun hS167 => ?_)
            obtain ⟨hc168, hm⟩ := sp_chk hm
            refine GH.on (i := 14) (listed' := #[yy, yy, yy, yy, yy, yy, yy, yy, yy, yy, yy, yy, yy, yy, yy, nn, nn, nn, nn, nn, nn]) rfl (by kernel_rfl) rfl rfl (NP.next NP.body) rfl rfl rfl rfl (dec_t hc162) (fun w' hw' => yl_eq_agg (r := decide (x = (G_api_Instance.mk (fun _ => 0) 2 0 5 false 0 0 80 ([97] : List UInt8)))) (vs := (el_G_api_Instance.f x)) (us := (el_G_api_Instance.f (G_api_Instance.mk (fun _ => 0) 2 0 5 false 0 0 80 ([97] : List UInt8)))) rfl rfl (by rw [decide_eq_true_eq]; exact G_api_Instance_inj) eqT31.1 eqT31.2.1 eqT31.2.2.1 eqT31.2.2.2.1 eqT31.2.2.2.2 (G_api_Instance_fits x hc168) (G_api_Instance_fits (G_api_Instance.mk (fun _ => 0) 2 0 5 false 0 0 80 ([97] : List UInt8)) (by first | decide | exact Nat.zero_le _))) hS167 (fun hS169 => ?_)
            refine GH.yl (i := 15) (listed' := #[yy, yy, yy, yy, yy, yy, yy, yy, yy, yy, yy, yy, yy, yy, yy, yy, nn, nn, nn, nn, nn]) rfl (by kernel_rfl) rfl (NP.next NP.body) rfl rfl rfl (fun w' => yl_pick_t rfl (dec_t hc162) rfl) hS169 (fun hS170 => ?_)
            refine GH.yl (i := 16) (listed' := #[yy, yy, yy, yy, yy, yy, yy, yy, yy, yy, yy, yy, yy, yy, yy, yy, yy, nn, nn, nn, nn]) rfl (by kernel_rfl) rfl (NP.next NP.body) rfl rfl rfl (fun w' => yl_move rfl) hS170 (fun hS171 => ?_)
            rcases sp_ite hm with ⟨hc172, hm⟩ | ⟨hc172, hm⟩
            · refine GH.on (i := 17) (listed' := #[yy, yy, yy, yy, yy, yy, yy, yy, yy, yy, yy, yy, yy, yy, yy, yy, yy, yy, nn, nn, nn]) rfl (by kernel_rfl) rfl rfl (NP.next NP.body) rfl rfl rfl rfl (dec_t hc172) (fun w' hw' => yl_move rfl) hS171 (fun hS173 => ?_)
              obtain ⟨r1_2, hy174, hm⟩ := sp_bind hm
              refine GH.doesOn (i := 18) (listed' := #[yy, yy, yy, yy, yy, yy, yy, yy, yy, yy, yy, yy, yy, yy, yy, yy, yy, yy, yy, nn, nn]) rfl (by kernel_rfl) rfl rfl rfl (dec_t hc172) rfl rfl (does_fn 0 rfl rfl rfl en10 h148 (fun U hU hp hr hs => M_roster_Good_v_w (l := r3_4) (Rest.view hr) (Sat.own_cap h148).1 hp hy174)) ?_
              rintro _ w175 ⟨U178, hb179, rfl, h177⟩
              have h176 : Sat W w175 [ow el_G_api_Instance r1140 r2141 31 r3_4, ow el_G_api_Instance r183 r284 31 r3_3, blk b7 (bytesV (List.ofFn (n := 20) (fun _ => 0)) ++ ([(.int .u64 2), (.int .u64 0), (.int .u32 5), (.bool false), (.int .u16 0), (.int .u16 0), (.int .u16 80), (.string (str ([97] : List UInt8)))] : List Value)) 31, blk b1 (bytesV (List.ofFn (n := 20) (fun _ => 0)) ++ ([(.int .u64 1), (.int .u64 0), (.int .u32 5), (.bool false), (.int .u16 0), (.int .u16 0), (.int .u16 80), (.string (str ([97] : List UInt8)))] : List Value)) 31] := hb179 h177
              have hS180 : Cls (fun w' => View w' r1140 (el_G_api_Instance.row r3_4) ∧ View w' (some ⟨b7, 0, none⟩) (bytesV (List.ofFn (n := 20) (fun _ => 0)) ++ ([(.int .u64 2), (.int .u64 0), (.int .u32 5), (.bool false), (.int .u16 0), (.int .u16 0), (.int .u16 80), (.string (str ([97] : List UInt8)))] : List Value))) [2, 5, 6, 7, 10, 11, 12, 13, 14, 17] [] #[yy, yy, yy, yy, yy, yy, yy, yy, yy, yy, yy, yy, yy, yy, yy, yy, yy, yy, yy, nn, nn] w175 := Cls.keep (⟨(Sat.own_view h176), ((Sat.pick [2] h176).isBlk.view0)⟩) (by kernel_rfl)
              refine ⟨hS180, ?_⟩
              refine GH.yl (i := 19) (listed' := #[yy, yy, yy, yy, yy, yy, yy, yy, yy, yy, yy, yy, yy, yy, yy, yy, yy, yy, yy, yy, nn]) rfl (by kernel_rfl) rfl (NP.next NP.body) rfl rfl rfl (fun w' => yl_pick_t rfl (dec_t hc172) rfl) hS180 (fun hS181 => ?_)
              refine GH.yl (i := 20) (listed' := #[yy, yy, yy, yy, yy, yy, yy, yy, yy, yy, yy, yy, yy, yy, yy, yy, yy, yy, yy, yy, yy]) rfl (by kernel_rfl) rfl (NP.next NP.body) rfl rfl rfl (fun w' => yl_assign rfl) hS181 (fun hS182 => ?_)
              refine GH.done (by kernel_rfl) ?_
              refine QA.then_normal ?_
              refine C.ret ?_
              refine QA.ret1 rfl rfl ?_
              obtain rfl := sp_ret1 hm
              exact ⟨rfl, (Sat.pick [] h176)⟩
            · refine GH.off (i := 17) (listed' := #[yy, yy, yy, yy, yy, yy, yy, yy, yy, yy, yy, yy, yy, yy, yy, yy, yy, yy, nn, nn, nn]) rfl (by kernel_rfl) rfl (NP.next NP.body) rfl rfl rfl rfl (dec_f hc172) hS171 (fun hS183 => ?_)
              refine GH.off (i := 18) (listed' := #[yy, yy, yy, yy, yy, yy, yy, yy, yy, yy, yy, yy, yy, yy, yy, yy, yy, yy, yy, nn, nn]) rfl (by kernel_rfl) rfl (NP.next NP.body) rfl rfl rfl rfl (dec_f hc172) hS183 (fun hS184 => ?_)
              refine GH.yl (i := 19) (listed' := #[yy, yy, yy, yy, yy, yy, yy, yy, yy, yy, yy, yy, yy, yy, yy, yy, yy, yy, yy, yy, nn]) rfl (by kernel_rfl) rfl (NP.next NP.body) rfl rfl rfl (fun w' => yl_pick_f rfl (dec_f hc172) rfl) hS184 (fun hS185 => ?_)
              refine GH.yl (i := 20) (listed' := #[yy, yy, yy, yy, yy, yy, yy, yy, yy, yy, yy, yy, yy, yy, yy, yy, yy, yy, yy, yy, yy]) rfl (by kernel_rfl) rfl (NP.next NP.body) rfl rfl rfl (fun w' => yl_assign rfl) hS185 (fun hS186 => ?_)
              refine GH.done (by kernel_rfl) ?_
              refine QA.then_normal ?_
              refine C.ret ?_
              refine QA.ret1 rfl rfl ?_
              obtain rfl := sp_ret1 hm
              exact ⟨rfl, (Sat.pick [] h148)⟩
          · refine GH.off (i := 10) (listed' := #[yy, yy, yy, yy, yy, yy, yy, yy, yy, yy, yy, nn, nn, nn, nn, nn, nn, nn, nn, nn, nn]) rfl (by kernel_rfl) rfl (NP.next NP.body) rfl rfl rfl rfl (dec_f hc162) hS161 (fun hS187 => ?_)
            refine GH.off (i := 11) (listed' := #[yy, yy, yy, yy, yy, yy, yy, yy, yy, yy, yy, yy, nn, nn, nn, nn, nn, nn, nn, nn, nn]) rfl (by kernel_rfl) rfl (NP.next NP.body) rfl rfl rfl rfl (dec_f hc162) hS187 (fun hS188 => ?_)
            refine GH.off (i := 12) (listed' := #[yy, yy, yy, yy, yy, yy, yy, yy, yy, yy, yy, yy, yy, nn, nn, nn, nn, nn, nn, nn, nn]) rfl (by kernel_rfl) rfl (NP.next NP.body) rfl rfl rfl rfl (dec_f hc162) hS188 (fun hS189 => ?_)
            refine GH.off (i := 13) (listed' := #[yy, yy, yy, yy, yy, yy, yy, yy, yy, yy, yy, yy, yy, yy, nn, nn, nn, nn, nn, nn, nn]) rfl (by kernel_rfl) rfl (NP.next NP.body) rfl rfl rfl rfl (dec_f hc162) hS189 (fun hS190 => ?_)
            refine GH.off (i := 14) (listed' := #[yy, yy, yy, yy, yy, yy, yy, yy, yy, yy, yy, yy, yy, yy, yy, nn, nn, nn, nn, nn, nn]) rfl (by kernel_rfl) rfl (NP.next NP.body) rfl rfl rfl rfl (dec_f hc162) hS190 (fun hS191 => ?_)
            refine GH.yl (i := 15) (listed' := #[yy, yy, yy, yy, yy, yy, yy, yy, yy, yy, yy, yy, yy, yy, yy, yy, nn, nn, nn, nn, nn]) rfl (by kernel_rfl) rfl (NP.next NP.body) rfl rfl rfl (fun w' => yl_pick_f rfl (dec_f hc162) rfl) hS191 (fun hS192 => ?_)
            refine GH.yl (i := 16) (listed' := #[yy, yy, yy, yy, yy, yy, yy, yy, yy, yy, yy, yy, yy, yy, yy, yy, yy, nn, nn, nn, nn]) rfl (by kernel_rfl) rfl (NP.next NP.body) rfl rfl rfl (fun w' => yl_move rfl) hS192 (fun hS193 => ?_)
            refine GH.off (i := 17) (listed' := #[yy, yy, yy, yy, yy, yy, yy, yy, yy, yy, yy, yy, yy, yy, yy, yy, yy, yy, nn, nn, nn]) rfl (by kernel_rfl) rfl (NP.next NP.body) rfl rfl rfl rfl rfl hS193 (fun hS194 => ?_)
            refine GH.off (i := 18) (listed' := #[yy, yy, yy, yy, yy, yy, yy, yy, yy, yy, yy, yy, yy, yy, yy, yy, yy, yy, yy, nn, nn]) rfl (by kernel_rfl) rfl (NP.next NP.body) rfl rfl rfl rfl rfl hS194 (fun hS195 => ?_)
            refine GH.yl (i := 19) (listed' := #[yy, yy, yy, yy, yy, yy, yy, yy, yy, yy, yy, yy, yy, yy, yy, yy, yy, yy, yy, yy, nn]) rfl (by kernel_rfl) rfl (NP.next NP.body) rfl rfl rfl (fun w' => yl_pick_f rfl rfl rfl) hS195 (fun hS196 => ?_)
            refine GH.yl (i := 20) (listed' := #[yy, yy, yy, yy, yy, yy, yy, yy, yy, yy, yy, yy, yy, yy, yy, yy, yy, yy, yy, yy, yy]) rfl (by kernel_rfl) rfl (NP.next NP.body) rfl rfl rfl (fun w' => yl_assign rfl) hS196 (fun hS197 => ?_)
            refine GH.done (by kernel_rfl) ?_
            refine QA.then_normal ?_
            refine C.ret ?_
            refine QA.ret1 rfl rfl ?_
            obtain rfl := sp_ret1 hm
            exact ⟨rfl, (Sat.pick [] h148)⟩
        · refine GH.off (i := 5) (listed' := #[yy, yy, yy, yy, yy, yy, nn, nn, nn, nn, nn, nn, nn, nn, nn, nn, nn, nn, nn, nn, nn]) rfl (by kernel_rfl) rfl (NP.next NP.body) rfl rfl rfl rfl hc156 hS155 (fun hS198 => ?_)
          refine GH.off (i := 6) (listed' := #[yy, yy, yy, yy, yy, yy, yy, nn, nn, nn, nn, nn, nn, nn, nn, nn, nn, nn, nn, nn, nn]) rfl (by kernel_rfl) rfl (NP.next NP.body) rfl rfl rfl rfl hc156 hS198 (fun hS199 => ?_)
          refine GH.off (i := 7) (listed' := #[yy, yy, yy, yy, yy, yy, yy, yy, nn, nn, nn, nn, nn, nn, nn, nn, nn, nn, nn, nn, nn]) rfl (by kernel_rfl) rfl (NP.next NP.body) rfl rfl rfl rfl hc156 hS199 (fun hS200 => ?_)
          refine GH.yl (i := 8) (listed' := #[yy, yy, yy, yy, yy, yy, yy, yy, yy, nn, nn, nn, nn, nn, nn, nn, nn, nn, nn, nn, nn]) rfl (by kernel_rfl) rfl (NP.next NP.body) rfl rfl rfl (fun w' => yl_pick_f rfl hc156 rfl) hS200 (fun hS201 => ?_)
          refine GH.yl (i := 9) (listed' := #[yy, yy, yy, yy, yy, yy, yy, yy, yy, yy, nn, nn, nn, nn, nn, nn, nn, nn, nn, nn, nn]) rfl (by kernel_rfl) rfl (NP.next NP.body) rfl rfl rfl (fun w' => yl_move rfl) hS201 (fun hS202 => ?_)
          refine GH.off (i := 10) (listed' := #[yy, yy, yy, yy, yy, yy, yy, yy, yy, yy, yy, nn, nn, nn, nn, nn, nn, nn, nn, nn, nn]) rfl (by kernel_rfl) rfl (NP.next NP.body) rfl rfl rfl rfl rfl hS202 (fun hS203 => ?_)
          refine GH.off (i := 11) (listed' := #[yy, yy, yy, yy, yy, yy, yy, yy, yy, yy, yy, yy, nn, nn, nn, nn, nn, nn, nn, nn, nn]) rfl (by kernel_rfl) rfl (NP.next NP.body) rfl rfl rfl rfl rfl hS203 (fun hS204 => ?_)
          refine GH.off (i := 12) (listed' := #[yy, yy, yy, yy, yy, yy, yy, yy, yy, yy, yy, yy, yy, nn, nn, nn, nn, nn, nn, nn, nn]) rfl (by kernel_rfl) rfl (NP.next NP.body) rfl rfl rfl rfl rfl hS204 (fun hS205 => ?_)
          refine GH.off (i := 13) (listed' := #[yy, yy, yy, yy, yy, yy, yy, yy, yy, yy, yy, yy, yy, yy, nn, nn, nn, nn, nn, nn, nn]) rfl (by kernel_rfl) rfl (NP.next NP.body) rfl rfl rfl rfl rfl hS205 (fun hS206 => ?_)
          refine GH.off (i := 14) (listed' := #[yy, yy, yy, yy, yy, yy, yy, yy, yy, yy, yy, yy, yy, yy, yy, nn, nn, nn, nn, nn, nn]) rfl (by kernel_rfl) rfl (NP.next NP.body) rfl rfl rfl rfl rfl hS206 (fun hS207 => ?_)
          refine GH.yl (i := 15) (listed' := #[yy, yy, yy, yy, yy, yy, yy, yy, yy, yy, yy, yy, yy, yy, yy, yy, nn, nn, nn, nn, nn]) rfl (by kernel_rfl) rfl (NP.next NP.body) rfl rfl rfl (fun w' => yl_pick_f rfl rfl rfl) hS207 (fun hS208 => ?_)
          refine GH.yl (i := 16) (listed' := #[yy, yy, yy, yy, yy, yy, yy, yy, yy, yy, yy, yy, yy, yy, yy, yy, yy, nn, nn, nn, nn]) rfl (by kernel_rfl) rfl (NP.next NP.body) rfl rfl rfl (fun w' => yl_move rfl) hS208 (fun hS209 => ?_)
          refine GH.off (i := 17) (listed' := #[yy, yy, yy, yy, yy, yy, yy, yy, yy, yy, yy, yy, yy, yy, yy, yy, yy, yy, nn, nn, nn]) rfl (by kernel_rfl) rfl (NP.next NP.body) rfl rfl rfl rfl rfl hS209 (fun hS210 => ?_)
          refine GH.off (i := 18) (listed' := #[yy, yy, yy, yy, yy, yy, yy, yy, yy, yy, yy, yy, yy, yy, yy, yy, yy, yy, yy, nn, nn]) rfl (by kernel_rfl) rfl (NP.next NP.body) rfl rfl rfl rfl rfl hS210 (fun hS211 => ?_)
          refine GH.yl (i := 19) (listed' := #[yy, yy, yy, yy, yy, yy, yy, yy, yy, yy, yy, yy, yy, yy, yy, yy, yy, yy, yy, yy, nn]) rfl (by kernel_rfl) rfl (NP.next NP.body) rfl rfl rfl (fun w' => yl_pick_f rfl rfl rfl) hS211 (fun hS212 => ?_)
          refine GH.yl (i := 20) (listed' := #[yy, yy, yy, yy, yy, yy, yy, yy, yy, yy, yy, yy, yy, yy, yy, yy, yy, yy, yy, yy, yy]) rfl (by kernel_rfl) rfl (NP.next NP.body) rfl rfl rfl (fun w' => yl_assign rfl) hS212 (fun hS213 => ?_)
          refine GH.done (by kernel_rfl) ?_
          refine QA.then_normal ?_
          refine C.ret ?_
          refine QA.ret1 rfl rfl ?_
          obtain rfl := sp_ret1 hm
          exact ⟨rfl, (Sat.pick [] h148)⟩
      · refine GH.off (i := 2) (listed' := #[yy, yy, yy, nn, nn, nn, nn, nn, nn, nn, nn, nn, nn, nn, nn, nn, nn, nn, nn, nn, nn]) rfl (by kernel_rfl) rfl (NP.next NP.body) rfl rfl rfl rfl hc152 hS151 (fun hS214 => ?_)
        refine GH.yl (i := 3) (listed' := #[yy, yy, yy, yy, nn, nn, nn, nn, nn, nn, nn, nn, nn, nn, nn, nn, nn, nn, nn, nn, nn]) rfl (by kernel_rfl) rfl (NP.next NP.body) rfl rfl rfl (fun w' => yl_pick_f rfl hc152 rfl) hS214 (fun hS215 => ?_)
        refine GH.yl (i := 4) (listed' := #[yy, yy, yy, yy, yy, nn, nn, nn, nn, nn, nn, nn, nn, nn, nn, nn, nn, nn, nn, nn, nn]) rfl (by kernel_rfl) rfl (NP.next NP.body) rfl rfl rfl (fun w' => yl_move rfl) hS215 (fun hS216 => ?_)
        refine GH.off (i := 5) (listed' := #[yy, yy, yy, yy, yy, yy, nn, nn, nn, nn, nn, nn, nn, nn, nn, nn, nn, nn, nn, nn, nn]) rfl (by kernel_rfl) rfl (NP.next NP.body) rfl rfl rfl rfl rfl hS216 (fun hS217 => ?_)
        refine GH.off (i := 6) (listed' := #[yy, yy, yy, yy, yy, yy, yy, nn, nn, nn, nn, nn, nn, nn, nn, nn, nn, nn, nn, nn, nn]) rfl (by kernel_rfl) rfl (NP.next NP.body) rfl rfl rfl rfl rfl hS217 (fun hS218 => ?_)
        refine GH.off (i := 7) (listed' := #[yy, yy, yy, yy, yy, yy, yy, yy, nn, nn, nn, nn, nn, nn, nn, nn, nn, nn, nn, nn, nn]) rfl (by kernel_rfl) rfl (NP.next NP.body) rfl rfl rfl rfl rfl hS218 (fun hS219 => ?_)
        refine GH.yl (i := 8) (listed' := #[yy, yy, yy, yy, yy, yy, yy, yy, yy, nn, nn, nn, nn, nn, nn, nn, nn, nn, nn, nn, nn]) rfl (by kernel_rfl) rfl (NP.next NP.body) rfl rfl rfl (fun w' => yl_pick_f rfl rfl rfl) hS219 (fun hS220 => ?_)
        refine GH.yl (i := 9) (listed' := #[yy, yy, yy, yy, yy, yy, yy, yy, yy, yy, nn, nn, nn, nn, nn, nn, nn, nn, nn, nn, nn]) rfl (by kernel_rfl) rfl (NP.next NP.body) rfl rfl rfl (fun w' => yl_move rfl) hS220 (fun hS221 => ?_)
        refine GH.off (i := 10) (listed' := #[yy, yy, yy, yy, yy, yy, yy, yy, yy, yy, yy, nn, nn, nn, nn, nn, nn, nn, nn, nn, nn]) rfl (by kernel_rfl) rfl (NP.next NP.body) rfl rfl rfl rfl rfl hS221 (fun hS222 => ?_)
        refine GH.off (i := 11) (listed' := #[yy, yy, yy, yy, yy, yy, yy, yy, yy, yy, yy, yy, nn, nn, nn, nn, nn, nn, nn, nn, nn]) rfl (by kernel_rfl) rfl (NP.next NP.body) rfl rfl rfl rfl rfl hS222 (fun hS223 => ?_)
        refine GH.off (i := 12) (listed' := #[yy, yy, yy, yy, yy, yy, yy, yy, yy, yy, yy, yy, yy, nn, nn, nn, nn, nn, nn, nn, nn]) rfl (by kernel_rfl) rfl (NP.next NP.body) rfl rfl rfl rfl rfl hS223 (fun hS224 => ?_)
        refine GH.off (i := 13) (listed' := #[yy, yy, yy, yy, yy, yy, yy, yy, yy, yy, yy, yy, yy, yy, nn, nn, nn, nn, nn, nn, nn]) rfl (by kernel_rfl) rfl (NP.next NP.body) rfl rfl rfl rfl rfl hS224 (fun hS225 => ?_)
        refine GH.off (i := 14) (listed' := #[yy, yy, yy, yy, yy, yy, yy, yy, yy, yy, yy, yy, yy, yy, yy, nn, nn, nn, nn, nn, nn]) rfl (by kernel_rfl) rfl (NP.next NP.body) rfl rfl rfl rfl rfl hS225 (fun hS226 => ?_)
        refine GH.yl (i := 15) (listed' := #[yy, yy, yy, yy, yy, yy, yy, yy, yy, yy, yy, yy, yy, yy, yy, yy, nn, nn, nn, nn, nn]) rfl (by kernel_rfl) rfl (NP.next NP.body) rfl rfl rfl (fun w' => yl_pick_f rfl rfl rfl) hS226 (fun hS227 => ?_)
        refine GH.yl (i := 16) (listed' := #[yy, yy, yy, yy, yy, yy, yy, yy, yy, yy, yy, yy, yy, yy, yy, yy, yy, nn, nn, nn, nn]) rfl (by kernel_rfl) rfl (NP.next NP.body) rfl rfl rfl (fun w' => yl_move rfl) hS227 (fun hS228 => ?_)
        refine GH.off (i := 17) (listed' := #[yy, yy, yy, yy, yy, yy, yy, yy, yy, yy, yy, yy, yy, yy, yy, yy, yy, yy, nn, nn, nn]) rfl (by kernel_rfl) rfl (NP.next NP.body) rfl rfl rfl rfl rfl hS228 (fun hS229 => ?_)
        refine GH.off (i := 18) (listed' := #[yy, yy, yy, yy, yy, yy, yy, yy, yy, yy, yy, yy, yy, yy, yy, yy, yy, yy, yy, nn, nn]) rfl (by kernel_rfl) rfl (NP.next NP.body) rfl rfl rfl rfl rfl hS229 (fun hS230 => ?_)
        refine GH.yl (i := 19) (listed' := #[yy, yy, yy, yy, yy, yy, yy, yy, yy, yy, yy, yy, yy, yy, yy, yy, yy, yy, yy, yy, nn]) rfl (by kernel_rfl) rfl (NP.next NP.body) rfl rfl rfl (fun w' => yl_pick_f rfl rfl rfl) hS230 (fun hS231 => ?_)
        refine GH.yl (i := 20) (listed' := #[yy, yy, yy, yy, yy, yy, yy, yy, yy, yy, yy, yy, yy, yy, yy, yy, yy, yy, yy, yy, yy]) rfl (by kernel_rfl) rfl (NP.next NP.body) rfl rfl rfl (fun w' => yl_assign rfl) hS231 (fun hS232 => ?_)
        refine GH.done (by kernel_rfl) ?_
        refine QA.then_normal ?_
        refine C.ret ?_
        refine QA.ret1 rfl rfl ?_
        obtain rfl := sp_ret1 hm
        exact ⟨rfl, (Sat.pick [] h148)⟩
set_option maxRecDepth 20000 in
set_option maxHeartbeats 1000000 in
theorem M_octet_may_w {W : Base} {w : World} {width : Int}  (h : Sat W w []) {r1 : Bool} (hm : M_octet_may width = some r1) :
    Calls Try.prog 58 #[(vI width)] w (Ret fun v w' => v = (.bool r1) ∧ Sat W w' []) := by
  unfold M_octet_may at hm
  refine C.enter (N := 9) Try.func58 rfl Try.ntmps58 rfl ?_
  show C _ _ _ [(0, (vI width))] _ _
  refine C.seq ?_
  refine C.region ?_
  refine G.yl (yl_assign rfl) rfl rfl rfl ?_
  refine G.nil ?_
  refine QA.then_normal ?_
  refine C.seq ?_
  refine C.region ?_
  refine G.yl (yl_move rfl) rfl rfl rfl ?_
  refine G.yl (yl_geI rfl rfl) rfl rfl rfl ?_
  refine G.yl (yl_move rfl) rfl rfl rfl ?_
  rcases sp_ite hm with ⟨hc1, hm⟩ | ⟨hc1, hm⟩
  · refine G.on rfl rfl (dec_t hc1) ?_
    refine G.yl (yl_move rfl) rfl rfl rfl ?_
    refine G.on rfl rfl (dec_t hc1) ?_
    refine G.yl (yl_leI rfl rfl) rfl rfl rfl ?_
    refine G.yl (yl_pick_t rfl (dec_t hc1) rfl) rfl rfl rfl ?_
    refine G.yl (yl_assign rfl) rfl rfl rfl ?_
    refine G.nil ?_
    refine QA.then_normal ?_
    refine C.ret ?_
    refine QA.ret1 rfl rfl ?_
    obtain rfl := sp_ret1 hm
    exact ⟨rfl, (Sat.pick [] h)⟩
  · refine G.offU rfl rfl (dec_f hc1) rfl ?_
    refine G.offU rfl rfl (dec_f hc1) rfl ?_
    refine G.yl (yl_pick_f rfl (dec_f hc1) rfl) rfl rfl rfl ?_
    refine G.yl (yl_assign rfl) rfl rfl rfl ?_
    refine G.nil ?_
    refine QA.then_normal ?_
    refine C.ret ?_
    refine QA.ret1 rfl rfl ?_
    obtain rfl := sp_ret1 hm
    exact ⟨rfl, (Sat.pick [] h)⟩
set_option maxRecDepth 20000 in
set_option maxHeartbeats 1000000 in
theorem M_octet_Put_v_w {W : Base} {w : World} {a : Option Addr} {c : Nat} {b : List UInt8} {n : UInt64} {width : Int} (hv_b : V W a (elU8.row b)) (hq_b : b.length ≤ c) (h : Sat W w []) {r3 : List UInt8} (hm : M_octet_Put_v b n width = some r3) :
    Calls Try.prog 39 #[(.slice a b.length c), (v64 n), (vI width)] w (Ret fun v w' => ∃ r1 : Option Addr, ∃ r2 : Nat, v = (.slice r1 r3.length r2) ∧ Sat W w' [ow elU8 r1 r2 5 r3]) := by
  unfold M_octet_Put_v at hm
  refine C.enter (N := 34) Try.func39 rfl Try.ntmps39 rfl ?_
  show C _ _ _ [(0, (.slice a b.length c)), (1, (v64 n)), (2, (vI width))] _ _
  refine C.seq ?_
  refine C.region ?_
  refine G.yl (yl_assign rfl) rfl rfl rfl ?_
  refine G.nil ?_
  refine QA.then_normal ?_
  refine C.seq ?_
  refine C.region ?_
  refine G.does (does_lit (E := elU8) (l := ([] : List UInt8)) (vs := []) (cs := []) (e := 5) h rfl (by kernel_rfl) rfl rfl (by decide)) rfl rfl rfl ?_
  rintro _ w2 ⟨a1, rfl, h3⟩
  refine G.yl (yl_move rfl) rfl rfl rfl ?_
  obtain ⟨hc4, hm⟩ := sp_chk hm
  refine G.does (does_app (E := elU8) (l := ([] : List UInt8)) (l2 := b) Try.underlying39 el5 (Sat.own_zero h3 elU8 a1 5) rfl rfl rfl rfl (by decide) (hv_b.at_ h3) hc4 (by decide)) rfl rfl rfl ?_
  rintro _ w7 ⟨a5, c6, rfl, h8⟩
  refine G.yl (yl_assign rfl) rfl rfl rfl ?_
  refine G.nil ?_
  refine QA.then_normal ?_
  refine C.seq ?_
  refine C.seq ?_
  refine C.region ?_
  refine G.yl (yl_move rfl) rfl rfl rfl ?_
  obtain ⟨r1_2, hy9, hm⟩ := sp_bind hm
  refine G.does (does_fn 0 rfl rfl rfl en58 h8 (fun U hU hp hr hs => M_octet_may_w (width := width) hp hy9)) rfl rfl rfl ?_
  rintro _ w10 ⟨U13, hb14, rfl, h12⟩
  have h11 : Sat W w10 [ow elU8 a5 c6 5 (([] : List UInt8) ++ b), ow elU8 a1 0 5 ([] : List UInt8)] := hb14 h12
  refine G.yl (yl_not rfl) rfl rfl rfl ?_
  refine G.nil ?_
  refine QA.then_normal ?_
  rcases sp_b hm with ⟨hc15, hm⟩ | ⟨hc15, hm⟩
  · refine C.cond_f rfl (not_f hc15) ?_
    refine C.skip ?_
    refine QA.then_normal ?_
    refine C.seq ?_
    refine C.seq ?_
    refine C.region ?_
    refine G.yl (yl_move rfl) rfl rfl rfl ?_
    refine G.yl (yl_move rfl) rfl rfl rfl ?_
    refine G.nil ?_
    refine QA.then_normal ?_
    refine C.block ?_
    obtain ⟨o, ho16, hm17⟩ := sp_bind hm
    refine C.left (γ := Option Addr × Nat × List UInt8) (.exit 0) (fun g => match g with | (a_3, c_3, out_2) => [(6, (.slice none 0 0)), (7, (.slice a_3 out_2.length c_3))]) (fun g ww => match g with | (a_3, c_3, out_2) => out_2 = o ∧ Sat W ww [ow elU8 a_3 c_3 5 out_2]) ?_ ?_
    · refine C.loopO (γ := Option Addr × Nat × List UInt8 × Int) (fun g => match g with | (a_2, c_2, out, t17) => [(1, (v64 n)), (2, (vI width)), (6, (.slice none 0 0)), (7, (.slice a_2 out.length c_2)), (16, (vI width)), (17, (vI t17))]) (fun g ww => match g with | (a_2, c_2, out, t17) => Sat W ww [ow elU8 a_2 c_2 5 out]) (fun g => match g with | (a_2, c_2, out, t17) => (out, t17)) (a5, c6, ([] : List UInt8) ++ b, 0) ho16 (Sub.of ⟨rfl, rfl, rfl, rfl, rfl, rfl, trivial⟩) (Sat.pick [0] h11) ?_
      rintro ⟨a_2, c_2, out, t17⟩ k20 w18 y_ h19 hm hg21
      show C _ _ _ [(1, (v64 n)), (2, (vI width)), (6, (.slice none 0 0)), (7, (.slice a_2 out.length c_2)), (16, (vI width)), (17, (vI t17))] _ _
      change M_octet_Put_v_b1 n width out t17 = some y_ at hm
      unfold M_octet_Put_v_b1 at hm
      refine C.seq ?_
      refine C.region ?_
      refine G.yl (yl_ltI rfl rfl) rfl rfl rfl ?_
      refine G.nil ?_
      refine QA.then_normal ?_
      refine C.seq ?_
      rcases sp_ite hm with ⟨hc22, hm⟩ | ⟨hc22, hm⟩
      · refine C.cond_t rfl (dec_t hc22) ?_
        refine C.skip ?_
        refine QA.then_normal ?_
        refine C.seq ?_
        refine C.block ?_
        refine C.seq ?_
        refine C.region ?_
        refine G.yl (yl_move rfl) rfl rfl rfl ?_
        refine G.yl (yl_assign rfl) rfl rfl rfl ?_
        refine G.nil ?_
        refine QA.then_normal ?_
        refine C.region ?_
        refine G.yl (yl_move rfl) rfl rfl rfl ?_
        refine G.yl (yl_move rfl) rfl rfl rfl ?_
        refine G.yl (yl_move rfl) rfl rfl rfl ?_
        obtain ⟨hc23, hm⟩ := sp_chk hm
        refine G.yl (yl_subI rfl rfl hc23) rfl rfl rfl ?_
        refine G.yl (yl_move rfl) rfl rfl rfl ?_
        obtain ⟨hc24, hm⟩ := sp_chk hm
        refine G.yl (yl_subI rfl rfl hc24) rfl rfl rfl ?_
        obtain ⟨hc25, hm⟩ := sp_chk hm
        refine G.yl (yl_mulI rfl rfl hc25) rfl rfl rfl ?_
        refine G.yl (yl_I64 us3 Try.underlying79 rfl) rfl rfl rfl ?_
        refine G.yl (yl_shr64 rfl rfl (by omega)) rfl rfl rfl ?_
        refine G.yl (yl_64to8 us27 Try.underlying5 rfl) rfl rfl rfl ?_
        refine G.does (does_lit (E := elU8) (l := [(shr64 n ((UInt64.ofInt (8 * ((width - 1) - t17))).toNat)).toUInt8]) (vs := [(v8 ((shr64 n ((UInt64.ofInt (8 * ((width - 1) - t17))).toNat)).toUInt8))]) (cs := [(v8 ((shr64 n ((UInt64.ofInt (8 * ((width - 1) - t17))).toNat)).toUInt8))]) (e := 5) h19 rfl (by kernel_rfl) rfl rfl (by decide)) rfl rfl rfl ?_
        rintro _ w27 ⟨a26, rfl, h28⟩
        obtain ⟨hc29, hm⟩ := sp_chk hm
        refine G.does (does_app (E := elU8) (l := out) (l2 := [(shr64 n ((UInt64.ofInt (8 * ((width - 1) - t17))).toNat)).toUInt8]) Try.underlying39 el5 (Sat.pick [1, 0] h28) rfl rfl rfl rfl (by decide) (Sat.own_view h28) hc29 (by decide)) rfl rfl rfl ?_
        rintro _ w32 ⟨a30, c31, rfl, h33⟩
        refine G.yl (yl_assign rfl) rfl rfl rfl ?_
        refine G.nil ?_
        refine QA.block_normal ?_
        refine QA.then_normal ?_
        refine C.region ?_
        obtain ⟨hc34, hm⟩ := sp_chk hm
        refine G.yl (yl_addI rfl rfl hc34) rfl rfl rfl ?_
        refine G.yl (yl_move rfl) rfl rfl rfl ?_
        refine G.nil ?_
        obtain rfl := sp_ret1 hm
        exact QA.againO (a30, c31, out ++ [(shr64 n ((UInt64.ofInt (8 * ((width - 1) - t17))).toNat)).toUInt8], t17 + 1) hg21 (Sub.of ⟨rfl, rfl, rfl, rfl, rfl, rfl, trivial⟩) (Sat.pick [0] h33)
      · refine C.cond_f rfl (dec_f hc22) ?_
        refine C.exit ?_
        refine QA.then_exit ?_
        refine QA.then_exit ?_
        obtain rfl := sp_ret1 hm
        exact QA.left (a_2, c_2, out) (Sub.of ⟨rfl, rfl, trivial⟩) ⟨hg21, (Sat.pick [0] h19)⟩
    · rintro ⟨a_3, c_3, out_2⟩ w35 ⟨rfl, h36⟩
      have hm := hm17
      show QA _ _ [(6, (.slice none 0 0)), (7, (.slice a_3 out_2.length c_3))] _ _
      refine QA.block_here ?_
      refine QA.then_normal ?_
      refine C.seq ?_
      refine C.region ?_
      refine G.yl (yl_move rfl) rfl rfl rfl ?_
      refine G.yl (yl_assign rfl) rfl rfl rfl ?_
      refine G.nil ?_
      refine QA.then_normal ?_
      refine C.ret ?_
      refine QA.ret1 rfl rfl ?_
      obtain rfl := sp_ret1 hm
      exact ⟨a_3, c_3, rfl, (Sat.pick [0] h36)⟩
  · refine C.cond_t rfl (not_t hc15) ?_
    refine C.seq ?_
    refine C.region ?_
    refine G.yl (yl_move rfl) rfl rfl rfl ?_
    refine G.yl (yl_assign rfl) rfl rfl rfl ?_
    refine G.nil ?_
    refine QA.then_normal ?_
    refine C.ret ?_
    refine QA.then_ret ?_
    refine QA.ret1 rfl rfl ?_
    obtain rfl := sp_ret1 hm
    exact ⟨a5, c6, rfl, (Sat.pick [0] h11)⟩
set_option maxRecDepth 20000 in
set_option maxHeartbeats 1000000 in
theorem M_bytes_Clone_v_w {W : Base} {w : World} {a : Option Addr} {c : Nat} {b : List UInt8} (hv_b : V W a (elU8.row b)) (hq_b : b.length ≤ c) (h : Sat W w []) {r3 : List UInt8} (hm : M_bytes_Clone_v b = some r3) :
    Calls Try.prog 59 #[(.slice a b.length c)] w (Ret fun v w' => ∃ r1 : Option Addr, ∃ r2 : Nat, v = (.slice r1 r3.length r2) ∧ Sat W w' [ow elU8 r1 r2 5 r3]) := by
  unfold M_bytes_Clone_v at hm
  refine C.enter (N := 8) Try.func59 rfl Try.ntmps59 rfl ?_
  show C _ _ _ [(0, (.slice a b.length c))] _ _
  refine C.seq ?_
  refine C.region ?_
  refine G.yl (yl_assign rfl) rfl rfl rfl ?_
  refine G.nil ?_
  refine QA.then_normal ?_
  refine C.seq ?_
  refine C.seq ?_
  refine C.region ?_
  refine G.yl (yl_move rfl) rfl rfl rfl ?_
  refine G.yl (yl_eq_slnil Try.underlying39 rfl rfl) rfl rfl rfl ?_
  refine G.nil ?_
  refine QA.then_normal ?_
  rcases Bool.eq_false_or_eq_true (Option.isNone a) with hc1 | hc1
  · obtain rfl : b = [] := isnil_view (by decide) hc1 (hv_b.at_ h)
    refine C.cond_t rfl hc1 ?_
    refine C.seq ?_
    refine C.region ?_
    refine G.yl (yl_assign rfl) rfl rfl rfl ?_
    refine G.nil ?_
    refine QA.then_normal ?_
    refine C.ret ?_
    refine QA.then_ret ?_
    refine QA.ret1 rfl rfl ?_
    obtain rfl : r3 = ([] : List UInt8) := by simpa using hm.symm
    exact ⟨none, 0, rfl, (Sat.pick [0] (Sat.own_zero h elU8 none 5))⟩
  · refine C.cond_f rfl hc1 ?_
    refine C.skip ?_
    refine QA.then_normal ?_
    refine C.seq ?_
    refine C.region ?_
    refine G.does (does_lit (E := elU8) (l := ([] : List UInt8)) (vs := []) (cs := []) (e := 5) h rfl (by kernel_rfl) rfl rfl (by decide)) rfl rfl rfl ?_
    rintro _ w3 ⟨a2, rfl, h4⟩
    refine G.yl (yl_move rfl) rfl rfl rfl ?_
    obtain ⟨hc5, hm⟩ := sp_chk hm
    refine G.does (does_app (E := elU8) (l := ([] : List UInt8)) (l2 := b) Try.underlying39 el5 (Sat.own_zero h4 elU8 a2 5) rfl rfl rfl rfl (by decide) (hv_b.at_ h4) hc5 (by decide)) rfl rfl rfl ?_
    rintro _ w8 ⟨a6, c7, rfl, h9⟩
    refine G.yl (yl_assign rfl) rfl rfl rfl ?_
    refine G.nil ?_
    refine QA.then_normal ?_
    refine C.ret ?_
    refine QA.ret1 rfl rfl ?_
    obtain rfl := sp_ret1 hm
    exact ⟨a6, c7, rfl, (Sat.pick [0] h9)⟩
set_option maxRecDepth 20000 in
set_option maxHeartbeats 1000000 in
theorem M_inst_Bytes_1_po_w {W : Base} {w : World} {n : UInt64} {width : Int} {b : Nat} {a : Option Addr} {c : Nat} {x : List UInt8}  (h : Sat W w [blk b [(.slice a x.length c)] 39, ow elU8 a c 5 x]) {r3 : List UInt8} (hm : M_inst_Bytes_1_po n width x = some r3) :
    Calls Try.prog 60 #[(v64 n), (vI width), (.pointer (some ⟨b, 0, none⟩))] w (Ret fun v w' => ∃ r1 : Option Addr, ∃ r2 : Nat, v = (.tuple #[]) ∧ Sat W w' [blk b [(.slice r1 r3.length r2)] 39, ow elU8 r1 r2 5 r3]) := by
  unfold M_inst_Bytes_1_po at hm
  refine C.enter (N := 9) Try.func60 rfl Try.ntmps60 rfl ?_
  show C _ _ _ [(0, (v64 n)), (1, (vI width)), (2, (.pointer (some ⟨b, 0, none⟩)))] _ _
  refine C.region ?_
  refine G.yl (yl_load (v := (.slice a x.length c)) ag39 rfl (View.at0 (j := 0) h.isBlk.view0 rfl)) rfl rfl rfl ?_
  refine G.yl (yl_move rfl) rfl rfl rfl ?_
  refine G.yl (yl_move rfl) rfl rfl rfl ?_
  obtain ⟨r3_2, hy1, hm⟩ := sp_bind hm
  refine G.does (does_fn 0 rfl rfl rfl en39 h (fun U hU hp hr hs => M_octet_Put_v_w (b := x) (n := n) (width := width) (Rest.view (Rest.front 1 hr)) (Sat.own_cap (Sat.pick [1] h)).1 hp hy1)) rfl rfl rfl ?_
  rintro _ w4 ⟨U7, hb8, r12, r23, rfl, h6⟩
  have h5 : Sat W w4 [ow elU8 r12 r23 5 r3_2, blk b [(.slice a x.length c)] 39, ow elU8 a c 5 x] := hb8 h6
  refine G.unit (does_store (vs := [(.slice r12 r3_2.length r23)]) (Sat.pick [1, 0, 0] h5) sz39 rfl rfl rfl rfl (List.forall_mem_cons.2 ⟨rfl, (fun _ hh => by cases hh)⟩) (Nat.le_of_ble_eq_true rfl)) rfl rfl ?_
  rintro _ w9 h11
  have h10 : Sat W w9 [blk b [(.slice r12 r3_2.length r23)] 39, ow elU8 r12 r23 5 r3_2, ow elU8 a c 5 x] := h11
  refine G.nil ?_
  refine QA.end0 rfl ?_
  obtain rfl := sp_ret1 hm
  exact ⟨r12, r23, rfl, (Sat.pick [0, 0] h10)⟩
set_option maxRecDepth 20000 in
set_option maxHeartbeats 1000000 in
theorem M_octet_Text_v_w {W : Base} {w : World} {a : Option Addr} {c : Nat} {b : List UInt8} {s : List UInt8} (hv_b : V W a (elU8.row b)) (hq_b : b.length ≤ c) (h : Sat W w []) {r3 : List UInt8} {r4 : Int} (hm : M_octet_Text_v b s = some (r3, r4)) :
    Calls Try.prog 61 #[(.slice a b.length c), (.string (str s))] w (Ret fun v w' => ∃ r1 : Option Addr, ∃ r2 : Nat, v = (.tuple #[(.slice r1 r3.length r2), (vI r4)]) ∧ Sat W w' [ow elU8 r1 r2 5 r3]) := by
  unfold M_octet_Text_v at hm
  refine C.enter (N := 16) Try.func61 rfl Try.ntmps61 rfl ?_
  show C _ _ _ [(0, (.slice a b.length c)), (1, (.string (str s)))] _ _
  refine C.seq ?_
  refine C.region ?_
  refine G.yl (yl_assign rfl) rfl rfl rfl ?_
  refine G.yl (yl_assign rfl) rfl rfl rfl ?_
  refine G.nil ?_
  refine QA.then_normal ?_
  refine C.seq ?_
  refine C.seq ?_
  refine C.region ?_
  refine G.yl (yl_move rfl) rfl rfl rfl ?_
  refine G.yl (yl_slenE Try.underlying9 rfl) rfl rfl rfl ?_
  refine G.yl (yl_gtI rfl rfl) rfl rfl rfl ?_
  refine G.nil ?_
  refine QA.then_normal ?_
  rcases sp_ite hm with ⟨hc1, hm⟩ | ⟨hc1, hm⟩
  · refine C.cond_t rfl (dec_t hc1) ?_
    refine C.seq ?_
    refine C.region ?_
    refine G.yl (yl_assign rfl) rfl rfl rfl ?_
    refine G.yl (yl_assign rfl) rfl rfl rfl ?_
    refine G.nil ?_
    refine QA.then_normal ?_
    refine C.ret ?_
    refine QA.then_ret ?_
    refine QA.ret2 rfl rfl rfl ?_
    obtain ⟨rfl, rfl⟩ := sp_ret2 hm
    exact ⟨none, 0, rfl, (Sat.pick [0] (Sat.own_zero h elU8 none 5))⟩
  · refine C.cond_f rfl (dec_f hc1) ?_
    refine C.skip ?_
    refine QA.then_normal ?_
    refine C.seq ?_
    refine C.region ?_
    refine G.yl (yl_move rfl) rfl rfl rfl ?_
    refine G.yl (yl_move rfl) rfl rfl rfl ?_
    refine G.yl (yl_slenE Try.underlying9 rfl) rfl rfl rfl ?_
    refine G.yl (yl_I64 us3 Try.underlying27 rfl) rfl rfl rfl ?_
    obtain ⟨r3_2, hy2, hm⟩ := sp_bind hm
    refine G.does (does_fn 0 rfl rfl rfl en39 h (fun U hU hp hr hs => M_octet_Put_v_w (b := b) (n := UInt64.ofInt (s.length : Int)) (width := 2) (hs.v hv_b) hq_b hp hy2)) rfl rfl rfl ?_
    rintro _ w5 ⟨U8, hb9, r13, r24, rfl, h7⟩
    have h6 : Sat W w5 [ow elU8 r13 r24 5 r3_2] := hb9 h7
    refine G.yl (yl_move rfl) rfl rfl rfl ?_
    obtain ⟨hc10, hm⟩ := sp_chk hm
    refine G.does (does_appS (l := r3_2) (s := s) Try.underlying39 el5 h6 rfl rfl rfl hc10 Try.underlying9 (by decide)) rfl rfl rfl ?_
    rintro _ w13 ⟨a11, c12, rfl, h14⟩
    refine G.yl (yl_assign rfl) rfl rfl rfl ?_
    refine G.yl (yl_assign rfl) rfl rfl rfl ?_
    refine G.nil ?_
    refine QA.then_normal ?_
    refine C.ret ?_
    refine QA.ret2 rfl rfl rfl ?_
    obtain ⟨rfl, rfl⟩ := sp_ret2 hm
    exact ⟨a11, c12, rfl, (Sat.pick [0] h14)⟩
set_option maxRecDepth 20000 in
set_option maxHeartbeats 1000000 in
theorem M_inst_Bytes_w {W : Base} {w : World} {i : G_api_Instance}  (h : Sat W w []) {r3 : List UInt8} {r4 : Int} (hm : M_inst_Bytes i = some (r3, r4)) :
    Calls Try.prog 40 #[(.agg (bytesV (List.ofFn (n := 20) i.Publisher) ++ ([(v64 i.Seq), (v64 i.Born), (v32 i.Life), (.bool i.Gone), (v16 i.Priority), (v16 i.Weight), (v16 i.Port), (.string (str i.Target))] : List Value)).toArray)] w (Ret fun v w' => ∃ r1 : Option Addr, ∃ r2 : Nat, v = (.tuple #[(.slice r1 r3.length r2), (vI r4)]) ∧ Sat W w' [ow elU8 r1 r2 5 r3]) := by
  unfold M_inst_Bytes at hm
  refine C.enter (N := 54) Try.func40 rfl Try.ntmps40 rfl ?_
  show C _ _ _ [(0, (.agg (bytesV (List.ofFn (n := 20) i.Publisher) ++ ([(v64 i.Seq), (v64 i.Born), (v32 i.Life), (.bool i.Gone), (v16 i.Priority), (v16 i.Weight), (v16 i.Port), (.string (str i.Target))] : List Value)).toArray))] _ _
  refine C.seq ?_
  refine C.region ?_
  refine G.does (does_box (cs := (bytesV (List.ofFn (n := 20) i.Publisher) ++ ([(v64 i.Seq), (v64 i.Born), (v32 i.Life), (.bool i.Gone), (v16 i.Priority), (v16 i.Weight), (v16 i.Port), (.string (str i.Target))] : List Value))) h rfl rfl) rfl rfl rfl ?_
  rintro _ w2 ⟨b1, rfl, h3⟩
  refine G.yl (yl_assign rfl) rfl rfl rfl ?_
  refine G.yl (yl_assign rfl) rfl rfl rfl ?_
  refine G.nil ?_
  refine QA.then_normal ?_
  refine C.seq ?_
  refine C.seq ?_
  refine C.region ?_
  refine G.yl (yl_loadN (vs := (bytesV (List.ofFn (n := 20) i.Publisher) ++ ([(v64 i.Seq), (v64 i.Born), (v32 i.Life), (.bool i.Gone), (v16 i.Priority), (v16 i.Weight), (v16 i.Port), (.string (str i.Target))] : List Value))) ag31 sz31 (by simp [bytesV_length]) rfl (h3.isBlk.view0)) rfl rfl rfl ?_
  obtain ⟨r1_2, hy4, hm⟩ := sp_bind hm
  refine G.does (does_fn 0 rfl rfl rfl en8 h3 (fun U hU hp hr hs => M_inst_Good_w (i := i) hp hy4)) rfl rfl rfl ?_
  rintro _ w5 ⟨U8, hb9, rfl, h7⟩
  have h6 : Sat W w5 [blk b1 (bytesV (List.ofFn (n := 20) i.Publisher) ++ ([(v64 i.Seq), (v64 i.Born), (v32 i.Life), (.bool i.Gone), (v16 i.Priority), (v16 i.Weight), (v16 i.Port), (.string (str i.Target))] : List Value)) 31] := hb9 h7
  refine G.yl (yl_not rfl) rfl rfl rfl ?_
  refine G.nil ?_
  refine QA.then_normal ?_
  rcases sp_b hm with ⟨hc10, hm⟩ | ⟨hc10, hm⟩
  · refine C.cond_f rfl (not_f hc10) ?_
    refine C.skip ?_
    refine QA.then_normal ?_
    refine C.seq ?_
    refine C.region ?_
    refine G.yl (yl_fieldAddr fo31_0 rfl) rfl rfl rfl ?_
    refine G.yl (yl_slice_arr (n := 20) (l := 0) (h := 20) (s := 1) (v := (.slice (some ⟨b1, 0, none⟩) 20 20)) Try.underlying26 (by kernel_rfl) (by kernel_rfl) rfl rfl rfl (by decide) (by decide) rfl) rfl rfl rfl ?_
    obtain ⟨r3_2, hy11, hm⟩ := sp_bind hm
    refine G.does (does_fn 0 rfl rfl rfl en59 h6 (fun U hU hp hr hs => M_bytes_Clone_v_w (b := List.ofFn i.Publisher) (V.of_bytes (V.span_head (Rest.blk hr 0))) (by simp) hp hy11)) rfl rfl rfl ?_
    rintro _ w14 ⟨U17, hb18, r112, r213, rfl, h16⟩
    have h15 : Sat W w14 [ow elU8 r112 r213 5 r3_2, blk b1 (bytesV (List.ofFn (n := 20) i.Publisher) ++ ([(v64 i.Seq), (v64 i.Born), (v32 i.Life), (.bool i.Gone), (v16 i.Priority), (v16 i.Weight), (v16 i.Port), (.string (str i.Target))] : List Value)) 31] := hb18 h16
    refine G.does (does_alloc (cs := [(.slice none 0 0)]) h15 z39 rfl) rfl rfl rfl ?_
    rintro _ w20 ⟨b19, rfl, h21⟩
    refine G.unit (does_store (vs := [(.slice r112 r3_2.length r213)]) h21 sz39 rfl rfl rfl rfl (List.forall_mem_cons.2 ⟨rfl, (fun _ hh => by cases hh)⟩) (Nat.le_of_ble_eq_true rfl)) rfl rfl ?_
    rintro _ w22 h24
    have h23 : Sat W w22 [blk b19 [(.slice r112 r3_2.length r213)] 39, ow elU8 r112 r213 5 r3_2, blk b1 (bytesV (List.ofFn (n := 20) i.Publisher) ++ ([(v64 i.Seq), (v64 i.Born), (v32 i.Life), (.bool i.Gone), (v16 i.Priority), (v16 i.Weight), (v16 i.Port), (.string (str i.Target))] : List Value)) 31] := h24
    refine G.nil ?_
    refine QA.then_normal ?_
    refine C.seq ?_
    refine C.region ?_
    refine G.yl (yl_func rfl rfl) rfl rfl rfl ?_
    refine G.yl (yl_assign rfl) rfl rfl rfl ?_
    refine G.nil ?_
    refine QA.then_normal ?_
    refine C.seq ?_
    refine C.region ?_
    refine G.yl (yl_move rfl) rfl rfl rfl ?_
    refine G.yl (yl_fieldAddr fo31_1 rfl) rfl rfl rfl ?_
    refine G.yl (yl_load (v := (v64 i.Seq)) ag27 rfl (View.at_ (j := 0) (View.span_tail (Sat.pick [2] h23).isBlk.view0) rfl)) rfl rfl rfl ?_
    obtain ⟨r3_3, hy25, hm⟩ := sp_bind hm
    refine G.does (does_fn 2 rfl rfl rfl en60 (Sat.pick [0, 0, 0] h23) (fun U hU hp hr hs => M_inst_Bytes_1_po_w (n := i.Seq) (width := 8) (x := r3_2) hp hy25)) rfl rfl rfl ?_
    rintro _ w28 ⟨U31, hb32, r126, r227, rfl, h30⟩
    have h29 : Sat W w28 [blk b19 [(.slice r126 r3_3.length r227)] 39, ow elU8 r126 r227 5 r3_3, blk b1 (bytesV (List.ofFn (n := 20) i.Publisher) ++ ([(v64 i.Seq), (v64 i.Born), (v32 i.Life), (.bool i.Gone), (v16 i.Priority), (v16 i.Weight), (v16 i.Port), (.string (str i.Target))] : List Value)) 31] := hb32 h30
    refine G.nil ?_
    refine QA.then_normal ?_
    refine C.seq ?_
    refine C.region ?_
    refine G.yl (yl_move rfl) rfl rfl rfl ?_
    refine G.yl (yl_fieldAddr fo31_2 rfl) rfl rfl rfl ?_
    refine G.yl (yl_load (v := (v64 i.Born)) ag27 rfl (View.at_ (j := 1) (View.span_tail (Sat.pick [2] h29).isBlk.view0) rfl)) rfl rfl rfl ?_
    obtain ⟨r3_4, hy33, hm⟩ := sp_bind hm
    refine G.does (does_fn 2 rfl rfl rfl en60 (Sat.pick [0, 0, 0] h29) (fun U hU hp hr hs => M_inst_Bytes_1_po_w (n := i.Born) (width := 8) (x := r3_3) hp hy33)) rfl rfl rfl ?_
    rintro _ w36 ⟨U39, hb40, r134, r235, rfl, h38⟩
    have h37 : Sat W w36 [blk b19 [(.slice r134 r3_4.length r235)] 39, ow elU8 r134 r235 5 r3_4, blk b1 (bytesV (List.ofFn (n := 20) i.Publisher) ++ ([(v64 i.Seq), (v64 i.Born), (v32 i.Life), (.bool i.Gone), (v16 i.Priority), (v16 i.Weight), (v16 i.Port), (.string (str i.Target))] : List Value)) 31] := hb40 h38
    refine G.nil ?_
    refine QA.then_normal ?_
    refine C.seq ?_
    refine C.region ?_
    refine G.yl (yl_move rfl) rfl rfl rfl ?_
    refine G.yl (yl_fieldAddr fo31_3 rfl) rfl rfl rfl ?_
    refine G.yl (yl_load (v := (v32 i.Life)) ag28 rfl (View.at_ (j := 2) (View.span_tail (Sat.pick [2] h37).isBlk.view0) rfl)) rfl rfl rfl ?_
    refine G.yl (yl_32to64 us28 Try.underlying27 rfl) rfl rfl rfl ?_
    obtain ⟨r3_5, hy41, hm⟩ := sp_bind hm
    refine G.does (does_fn 2 rfl rfl rfl en60 (Sat.pick [0, 0, 0] h37) (fun U hU hp hr hs => M_inst_Bytes_1_po_w (n := i.Life.toUInt64) (width := 4) (x := r3_4) hp hy41)) rfl rfl rfl ?_
    rintro _ w44 ⟨U47, hb48, r142, r243, rfl, h46⟩
    have h45 : Sat W w44 [blk b19 [(.slice r142 r3_5.length r243)] 39, ow elU8 r142 r243 5 r3_5, blk b1 (bytesV (List.ofFn (n := 20) i.Publisher) ++ ([(v64 i.Seq), (v64 i.Born), (v32 i.Life), (.bool i.Gone), (v16 i.Priority), (v16 i.Weight), (v16 i.Port), (.string (str i.Target))] : List Value)) 31] := hb48 h46
    refine G.nil ?_
    refine QA.then_normal ?_
    refine C.seq ?_
    refine C.seq ?_
    refine C.region ?_
    refine G.yl (yl_fieldAddr fo31_4 rfl) rfl rfl rfl ?_
    refine G.yl (yl_load (v := (.bool i.Gone)) ag4 rfl (View.at_ (j := 3) (View.span_tail (Sat.pick [2] h45).isBlk.view0) rfl)) rfl rfl rfl ?_
    refine G.nil ?_
    refine QA.then_normal ?_
    rcases sp_b hm with ⟨hc49, hm⟩ | ⟨hc49, hm⟩
    · refine C.cond_t rfl hc49 ?_
      refine C.seq ?_
      refine C.region ?_
      refine G.yl (yl_move rfl) rfl rfl rfl ?_
      obtain ⟨r3_6, hy50, hm⟩ := sp_bind hm
      refine G.does (does_fn 2 rfl rfl rfl en60 (Sat.pick [0, 0, 0] h45) (fun U hU hp hr hs => M_inst_Bytes_1_po_w (n := 1) (width := 1) (x := r3_5) hp hy50)) rfl rfl rfl ?_
      rintro _ w53 ⟨U56, hb57, r151, r252, rfl, h55⟩
      have h54 : Sat W w53 [blk b19 [(.slice r151 r3_6.length r252)] 39, ow elU8 r151 r252 5 r3_6, blk b1 (bytesV (List.ofFn (n := 20) i.Publisher) ++ ([(v64 i.Seq), (v64 i.Born), (v32 i.Life), (.bool i.Gone), (v16 i.Priority), (v16 i.Weight), (v16 i.Port), (.string (str i.Target))] : List Value)) 31] := hb57 h55
      refine G.nil ?_
      refine QA.then_normal ?_
      refine C.seq ?_
      refine C.region ?_
      refine G.yl (yl_load (v := (.slice r151 r3_6.length r252)) ag39 rfl (View.at0 (j := 0) h54.isBlk.view0 rfl)) rfl rfl rfl ?_
      refine G.yl (yl_assign rfl) rfl rfl rfl ?_
      refine G.yl (yl_assign rfl) rfl rfl rfl ?_
      refine G.nil ?_
      refine QA.then_normal ?_
      refine C.ret ?_
      refine QA.then_ret ?_
      refine QA.ret2 rfl rfl rfl ?_
      obtain ⟨rfl, rfl⟩ := sp_ret2 hm
      exact ⟨r151, r252, rfl, (Sat.pick [1] h54)⟩
    · refine C.cond_f rfl hc49 ?_
      refine C.skip ?_
      refine QA.then_normal ?_
      refine C.seq ?_
      refine C.region ?_
      refine G.yl (yl_move rfl) rfl rfl rfl ?_
      obtain ⟨r3_7, hy58, hm⟩ := sp_bind hm
      refine G.does (does_fn 2 rfl rfl rfl en60 (Sat.pick [0, 0, 0] h45) (fun U hU hp hr hs => M_inst_Bytes_1_po_w (n := 0) (width := 1) (x := r3_5) hp hy58)) rfl rfl rfl ?_
      rintro _ w61 ⟨U64, hb65, r159, r260, rfl, h63⟩
      have h62 : Sat W w61 [blk b19 [(.slice r159 r3_7.length r260)] 39, ow elU8 r159 r260 5 r3_7, blk b1 (bytesV (List.ofFn (n := 20) i.Publisher) ++ ([(v64 i.Seq), (v64 i.Born), (v32 i.Life), (.bool i.Gone), (v16 i.Priority), (v16 i.Weight), (v16 i.Port), (.string (str i.Target))] : List Value)) 31] := hb65 h63
      refine G.nil ?_
      refine QA.then_normal ?_
      refine C.seq ?_
      refine C.region ?_
      refine G.yl (yl_move rfl) rfl rfl rfl ?_
      refine G.yl (yl_fieldAddr fo31_5 rfl) rfl rfl rfl ?_
      refine G.yl (yl_load (v := (v16 i.Priority)) ag29 rfl (View.at_ (j := 4) (View.span_tail (Sat.pick [2] h62).isBlk.view0) rfl)) rfl rfl rfl ?_
      refine G.yl (yl_16to64 us29 Try.underlying27 rfl) rfl rfl rfl ?_
      obtain ⟨r3_8, hy66, hm⟩ := sp_bind hm
      refine G.does (does_fn 2 rfl rfl rfl en60 (Sat.pick [0, 0, 0] h62) (fun U hU hp hr hs => M_inst_Bytes_1_po_w (n := i.Priority.toUInt64) (width := 2) (x := r3_7) hp hy66)) rfl rfl rfl ?_
      rintro _ w69 ⟨U72, hb73, r167, r268, rfl, h71⟩
      have h70 : Sat W w69 [blk b19 [(.slice r167 r3_8.length r268)] 39, ow elU8 r167 r268 5 r3_8, blk b1 (bytesV (List.ofFn (n := 20) i.Publisher) ++ ([(v64 i.Seq), (v64 i.Born), (v32 i.Life), (.bool i.Gone), (v16 i.Priority), (v16 i.Weight), (v16 i.Port), (.string (str i.Target))] : List Value)) 31] := hb73 h71
      refine G.nil ?_
      refine QA.then_normal ?_
      refine C.seq ?_
      refine C.region ?_
      refine G.yl (yl_move rfl) rfl rfl rfl ?_
      refine G.yl (yl_fieldAddr fo31_6 rfl) rfl rfl rfl ?_
      refine G.yl (yl_load (v := (v16 i.Weight)) ag29 rfl (View.at_ (j := 5) (View.span_tail (Sat.pick [2] h70).isBlk.view0) rfl)) rfl rfl rfl ?_
      refine G.yl (yl_16to64 us29 Try.underlying27 rfl) rfl rfl rfl ?_
      obtain ⟨r3_9, hy74, hm⟩ := sp_bind hm
      refine G.does (does_fn 2 rfl rfl rfl en60 (Sat.pick [0, 0, 0] h70) (fun U hU hp hr hs => M_inst_Bytes_1_po_w (n := i.Weight.toUInt64) (width := 2) (x := r3_8) hp hy74)) rfl rfl rfl ?_
      rintro _ w77 ⟨U80, hb81, r175, r276, rfl, h79⟩
      have h78 : Sat W w77 [blk b19 [(.slice r175 r3_9.length r276)] 39, ow elU8 r175 r276 5 r3_9, blk b1 (bytesV (List.ofFn (n := 20) i.Publisher) ++ ([(v64 i.Seq), (v64 i.Born), (v32 i.Life), (.bool i.Gone), (v16 i.Priority), (v16 i.Weight), (v16 i.Port), (.string (str i.Target))] : List Value)) 31] := hb81 h79
      refine G.nil ?_
      refine QA.then_normal ?_
      refine C.seq ?_
      refine C.region ?_
      refine G.yl (yl_move rfl) rfl rfl rfl ?_
      refine G.yl (yl_fieldAddr fo31_7 rfl) rfl rfl rfl ?_
      refine G.yl (yl_load (v := (v16 i.Port)) ag29 rfl (View.at_ (j := 6) (View.span_tail (Sat.pick [2] h78).isBlk.view0) rfl)) rfl rfl rfl ?_
      refine G.yl (yl_16to64 us29 Try.underlying27 rfl) rfl rfl rfl ?_
      obtain ⟨r3_10, hy82, hm⟩ := sp_bind hm
      refine G.does (does_fn 2 rfl rfl rfl en60 (Sat.pick [0, 0, 0] h78) (fun U hU hp hr hs => M_inst_Bytes_1_po_w (n := i.Port.toUInt64) (width := 2) (x := r3_9) hp hy82)) rfl rfl rfl ?_
      rintro _ w85 ⟨U88, hb89, r183, r284, rfl, h87⟩
      have h86 : Sat W w85 [blk b19 [(.slice r183 r3_10.length r284)] 39, ow elU8 r183 r284 5 r3_10, blk b1 (bytesV (List.ofFn (n := 20) i.Publisher) ++ ([(v64 i.Seq), (v64 i.Born), (v32 i.Life), (.bool i.Gone), (v16 i.Priority), (v16 i.Weight), (v16 i.Port), (.string (str i.Target))] : List Value)) 31] := hb89 h87
      refine G.nil ?_
      refine QA.then_normal ?_
      refine C.seq ?_
      refine C.region ?_
      refine G.yl (yl_load (v := (.slice r183 r3_10.length r284)) ag39 rfl (View.at0 (j := 0) h86.isBlk.view0 rfl)) rfl rfl rfl ?_
      refine G.yl (yl_fieldAddr fo31_8 rfl) rfl rfl rfl ?_
      refine G.yl (yl_load (v := (.string (str i.Target))) ag9 rfl (View.at_ (j := 7) (View.span_tail (Sat.pick [2] h86).isBlk.view0) rfl)) rfl rfl rfl ?_
      obtain ⟨⟨r3_11, r4_2⟩, hy90, hm⟩ := sp_bind hm
      refine G.does (does_fn 0 rfl rfl rfl en61 h86 (fun U hU hp hr hs => M_octet_Text_v_w (b := r3_10) (s := i.Target) (Rest.view (Rest.front 1 hr)) (Sat.own_cap (Sat.pick [1] h86)).1 hp hy90)) rfl rfl rfl ?_
      rintro _ w93 ⟨U96, hb97, r191, r292, rfl, h95⟩
      have h94 : Sat W w93 [ow elU8 r191 r292 5 r3_11, blk b19 [(.slice r183 r3_10.length r284)] 39, ow elU8 r183 r284 5 r3_10, blk b1 (bytesV (List.ofFn (n := 20) i.Publisher) ++ ([(v64 i.Seq), (v64 i.Born), (v32 i.Life), (.bool i.Gone), (v16 i.Priority), (v16 i.Weight), (v16 i.Port), (.string (str i.Target))] : List Value)) 31] := hb97 h95
      refine G.yl (yl_extract rfl rfl) rfl rfl rfl ?_
      refine G.yl (yl_extract rfl rfl) rfl rfl rfl ?_
      refine G.yl (yl_assign rfl) rfl rfl rfl ?_
      refine G.yl (yl_assign rfl) rfl rfl rfl ?_
      refine G.nil ?_
      refine QA.then_normal ?_
      refine C.ret ?_
      refine QA.ret2 rfl rfl rfl ?_
      obtain ⟨rfl, rfl⟩ := sp_ret2 hm
      exact ⟨r191, r292, rfl, (Sat.pick [0] h94)⟩
  · refine C.cond_t rfl (not_t hc10) ?_
    refine C.seq ?_
    refine C.region ?_
    refine G.yl (yl_assign rfl) rfl rfl rfl ?_
    refine G.yl (yl_assign rfl) rfl rfl rfl ?_
    refine G.nil ?_
    refine QA.then_normal ?_
    refine C.ret ?_
    refine QA.then_ret ?_
    refine QA.ret2 rfl rfl rfl ?_
    obtain ⟨rfl, rfl⟩ := sp_ret2 hm
    exact ⟨none, 0, rfl, (Sat.pick [0] (Sat.own_zero h6 elU8 none 5))⟩
end Go.Proofs.Ytmjcemhojhbijaa
