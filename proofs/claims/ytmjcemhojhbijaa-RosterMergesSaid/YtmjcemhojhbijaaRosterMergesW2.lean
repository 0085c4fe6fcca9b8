/-
  That the functions of the program compute what their Lean functions say, part 2. No condition.
-/
import Derived.Test.YtmjcemhojhbijaaRosterMergesW1
namespace Go.Proofs.Ytmjcemhojhbijaa
open Go Go.RowKit
set_option linter.unusedVariables false
set_option linter.unusedSimpArgs false
set_option linter.unnecessarySimpa false
set_option maxRecDepth 20000 in
set_option maxHeartbeats 1000000 in
theorem M_slices_Delete_Instance_o_w {W : Base} {w : World} {a : Option Addr} {c : Nat} {s : List G_api_Instance} {i : Int} {j : Int}  (h : Sat W w [ow el_G_api_Instance a c 31 s]) {r1 : List G_api_Instance} (hm : M_slices_Delete_Instance_o s i j = some r1) :
    Calls Try.prog 28 #[(.slice a s.length c), (vI i), (vI j)] w (Ret fun v w' => v = (.slice a r1.length c) ∧ Sat W w' [ow el_G_api_Instance a c 31 r1]) := by
  unfold M_slices_Delete_Instance_o at hm
  refine C.enter (N := 33) Try.func28 rfl Try.ntmps28 rfl ?_
  show C _ _ _ [(0, (.slice a s.length c)), (1, (vI i)), (2, (vI j))] _ _
  refine C.seq ?_
  refine C.region ?_
  refine G.yl (yl_assign rfl) rfl rfl rfl ?_
  refine G.nil ?_
  refine QA.then_normal ?_
  refine C.seq ?_
  refine C.region ?_
  refine G.yl (yl_move rfl) rfl rfl rfl ?_
  refine G.yl (yl_move rfl) rfl rfl rfl ?_
  refine G.yl (yl_move rfl) rfl rfl rfl ?_
  refine G.yl (yl_move rfl) rfl rfl rfl ?_
  refine G.yl (yl_lenE Try.underlying22 rfl) rfl rfl rfl ?_
  obtain ⟨hc1, hm⟩ := sp_chk hm
  obtain ⟨a2, ha3⟩ : ∃ p', Cut p' a s.length i.toNat 28 := Cut.mk _ _ _ _
  refine G.yl (yl_slLHM (E := el_G_api_Instance) (l := s) sl22 rfl rfl rfl rfl rfl ⟨hc1.1, hc1.2.1, by have := (Sat.own_cap h).1; omega⟩ ha3) rfl rfl rfl ?_
  refine G.nil ?_
  refine QA.then_normal ?_
  refine C.seq ?_
  refine C.seq ?_
  refine C.region ?_
  refine G.yl (yl_move rfl) rfl rfl rfl ?_
  refine G.yl (yl_move rfl) rfl rfl rfl ?_
  refine G.yl (yl_eqI rfl rfl) rfl rfl rfl ?_
  refine G.nil ?_
  refine QA.then_normal ?_
  rcases sp_ite hm with ⟨hc4, hm⟩ | ⟨hc4, hm⟩
  · refine C.cond_t rfl (dec_t hc4) ?_
    refine C.seq ?_
    refine C.region ?_
    refine G.yl (yl_move rfl) rfl rfl rfl ?_
    refine G.yl (yl_assign rfl) rfl rfl rfl ?_
    refine G.nil ?_
    refine QA.then_normal ?_
    refine C.ret ?_
    refine QA.then_ret ?_
    refine QA.ret1 rfl rfl ?_
    obtain rfl := sp_ret1 hm
    exact ⟨rfl, (Sat.pick [0] h)⟩
  · refine C.cond_f rfl (dec_f hc4) ?_
    refine C.skip ?_
    refine QA.then_normal ?_
    refine C.seq ?_
    refine C.region ?_
    refine G.yl (yl_move rfl) rfl rfl rfl ?_
    refine G.yl (yl_lenE Try.underlying22 rfl) rfl rfl rfl ?_
    refine G.yl (yl_assign rfl) rfl rfl rfl ?_
    refine G.nil ?_
    refine QA.then_normal ?_
    refine C.seq ?_
    refine C.draw (V := fun w' => True) (nd := []) (sp := []) (n := 8) rfl h rfl rfl ?_
    intro w5 h6
    have hS7 : Cls (fun w' => True) [] [] #[false, false, false, false, false, false, false, false] w5 := Cls.keep (trivial) (by kernel_rfl)
    refine GH.yl (i := 0) (listed' := #[true, false, false, false, false, false, false, false]) rfl (by kernel_rfl) rfl (NP.next NP.body) rfl rfl rfl (fun w' => yl_move rfl) hS7 (fun hS8 => ?_)
    refine GH.yl (i := 1) (listed' := #[true, true, false, false, false, false, false, false]) rfl (by kernel_rfl) rfl (NP.next NP.body) rfl rfl rfl (fun w' => yl_move rfl) hS8 (fun hS9 => ?_)
    obtain ⟨hc10, hm⟩ := sp_chk hm
    refine GH.yl (i := 2) (listed' := #[true, true, true, false, false, false, false, false]) rfl (by kernel_rfl) rfl (NP.next NP.body) rfl rfl rfl (fun w' => yl_slH (E := el_G_api_Instance) (l := s) sl22 rfl rfl rfl hc10 (Sat.own_cap h6).1) hS9 (fun hS11 => ?_)
    refine GH.yl (i := 3) (listed' := #[true, true, true, true, false, false, false, false]) rfl (by kernel_rfl) rfl (NP.next NP.body) rfl rfl rfl (fun w' => yl_move rfl) hS11 (fun hS12 => ?_)
    refine GH.yl (i := 4) (listed' := #[true, true, true, true, true, false, false, false]) rfl (by kernel_rfl) rfl (NP.next NP.body) rfl rfl rfl (fun w' => yl_move rfl) hS12 (fun hS13 => ?_)
    obtain ⟨a14, ha15⟩ : ∃ p', Cut p' a c j.toNat 28 := Cut.mk _ _ _ _
    obtain ⟨hc16, hm⟩ := sp_chk hm
    refine GH.yl (i := 5) (listed' := #[true, true, true, true, true, true, false, false]) rfl (by kernel_rfl) rfl (NP.next NP.body) rfl rfl rfl (fun w' => yl_slL (E := el_G_api_Instance) (l := s) sl22 rfl rfl rfl hc16 ha15) hS13 (fun hS17 => ?_)
    obtain ⟨hc18, hm⟩ := sp_chk hm
    have hrm19 := (Sat.own_cap h6).1
    have h20 : Sat W w5 [ow el_G_api_Instance a c 31 (s.take i.toNat)] := Sat.own_take h6 i.toNat (by first | omega | (simp only [List.length_set, copyL_length]; omega))
    refine GH.does (i := 6) (listed' := #[true, true, true, true, true, true, true, false]) rfl (by kernel_rfl) rfl rfl rfl rfl (does_appIn (E := el_G_api_Instance) (l := s.take i.toNat) (l2 := s.drop j.toNat) Try.underlying22 el31 h20 rfl rfl rfl rfl (by decide) (View.cut (Sat.own_view h6) ha15 (Sat.own_cap h6).1) hc18 (by decide) (by have := hrm19; simp only [List.length_take, List.length_drop]; omega)) ?_
    rintro _ w21 ⟨rfl, h22⟩
    have hS23 : Cls (fun w' => True) [] [] #[true, true, true, true, true, true, true, false] w21 := Cls.keep (trivial) (by kernel_rfl)
    refine ⟨hS23, ?_⟩
    refine GH.yl (i := 7) (listed' := #[true, true, true, true, true, true, true, true]) rfl (by kernel_rfl) rfl (NP.next NP.body) rfl rfl rfl (fun w' => yl_assign rfl) hS23 (fun hS24 => ?_)
    refine GH.done (by kernel_rfl) ?_
    refine QA.then_normal ?_
    refine C.seq ?_
    refine C.region ?_
    refine G.yl (yl_move rfl) rfl rfl rfl ?_
    refine G.yl (yl_move rfl) rfl rfl rfl ?_
    refine G.yl (yl_lenE Try.underlying22 rfl) rfl rfl rfl ?_
    refine G.yl (yl_move rfl) rfl rfl rfl ?_
    obtain ⟨a25, ha26⟩ : ∃ p', Cut p' a c (((s.take i.toNat) ++ (s.drop j.toNat)).length) 28 := Cut.mk _ _ _ _
    refine G.yl (yl_slTail (E := el_G_api_Instance) (l := (s.take i.toNat) ++ (s.drop j.toNat)) (r := (G_api_Instance.mk (fun _ => 0) 0 0 0 false 0 0 0 ([] : List UInt8))) (q := s.length - (((s.take i.toNat) ++ (s.drop j.toNat)).length)) sl22 rfl rfl rfl rfl rfl (by have := hrm19; simp only [List.length_append, List.length_take, List.length_drop]; omega) (by have := hrm19; simp only [List.length_append, List.length_take, List.length_drop]; omega) ha26) rfl rfl rfl ?_
    refine G.unit (does_clrTail (E := el_G_api_Instance) (l := (s.take i.toNat) ++ (s.drop j.toNat)) (q := s.length - (((s.take i.toNat) ++ (s.drop j.toNat)).length)) (r := (G_api_Instance.mk (fun _ => 0) 0 0 0 false 0 0 0 ([] : List UInt8))) h22 Try.underlying22 el31 z31 rfl (by decide) rfl ha26 (by have := hrm19; simp only [List.length_append, List.length_take, List.length_drop]; omega)) rfl rfl ?_
    rintro _ w27 h28
    refine G.nil ?_
    refine QA.then_normal ?_
    refine C.seq ?_
    refine C.region ?_
    refine G.yl (yl_move rfl) rfl rfl rfl ?_
    refine G.yl (yl_assign rfl) rfl rfl rfl ?_
    refine G.nil ?_
    refine QA.then_normal ?_
    refine C.ret ?_
    refine QA.ret1 rfl rfl ?_
    obtain rfl := sp_ret1 hm
    exact ⟨rfl, (Sat.pick [0] h28)⟩
set_option maxRecDepth 20000 in
set_option maxHeartbeats 1000000 in
theorem M_roster_Put_v_w {W : Base} {w : World} {a : Option Addr} {c : Nat} {l : List G_api_Instance} {i : G_api_Instance} (hv_l : V W a (el_G_api_Instance.row l)) (hq_l : l.length ≤ c) (h : Sat W w []) {r : Unit ⊕ (List G_api_Instance × Bool)} (hm : M_roster_Put_v l i = some r) :
    Calls Try.prog 9 #[(.slice a l.length c), (.agg (bytesV (List.ofFn (n := 20) i.Publisher) ++ ([(v64 i.Seq), (v64 i.Born), (v32 i.Life), (.bool i.Gone), (v16 i.Priority), (v16 i.Weight), (v16 i.Port), (.string (str i.Target))] : List Value)).toArray)] w (Ret fun v w' => match r with | .inl () => v = (.tuple #[(.slice a l.length c), (.bool false)]) ∧ Sat W w' [] | .inr (r3, r4) => ∃ r1 : Option Addr, ∃ r2 : Nat, v = (.tuple #[(.slice r1 r3.length r2), (.bool r4)]) ∧ Sat W w' [ow el_G_api_Instance r1 r2 31 r3]) := by
  unfold M_roster_Put_v at hm
  refine C.enter (N := 68) Try.func9 rfl Try.ntmps9 rfl ?_
  show C _ _ _ [(0, (.slice a l.length c)), (1, (.agg (bytesV (List.ofFn (n := 20) i.Publisher) ++ ([(v64 i.Seq), (v64 i.Born), (v32 i.Life), (.bool i.Gone), (v16 i.Priority), (v16 i.Weight), (v16 i.Port), (.string (str i.Target))] : List Value)).toArray))] _ _
  refine C.seq ?_
  refine C.region ?_
  refine G.does (does_box (cs := (bytesV (List.ofFn (n := 20) i.Publisher) ++ ([(v64 i.Seq), (v64 i.Born), (v32 i.Life), (.bool i.Gone), (v16 i.Priority), (v16 i.Weight), (v16 i.Port), (.string (str i.Target))] : List Value))) h rfl rfl) rfl rfl rfl ?_
  rintro _ w2 ⟨b1, rfl, h3⟩
  refine G.yl (yl_assign rfl) rfl rfl rfl ?_
  refine G.yl (yl_assign rfl) rfl rfl rfl ?_
  refine G.nil ?_
  refine QA.then_normal ?_
  refine C.seq ?_
  refine C.join (γ := Bool) (fun g => match g with | t17 => [(0, (.slice a l.length c)), (3, (.pointer (some ⟨b1, 0, none⟩))), (4, (.slice none 0 0)), (5, (.bool false)), (17, (.bool t17))]) (fun g ww => match g with | t17 => (M_roster_Put_v_k1 i l t17 = some r) ∧ Sat W ww [blk b1 (bytesV (List.ofFn (n := 20) i.Publisher) ++ ([(v64 i.Seq), (v64 i.Born), (v32 i.Life), (.bool i.Gone), (v16 i.Priority), (v16 i.Weight), (v16 i.Port), (.string (str i.Target))] : List Value)) 31]) ?_ ?_
  · refine C.region ?_
    refine G.yl (yl_move rfl) rfl rfl rfl ?_
    obtain ⟨r1_2, hy4, hm⟩ := sp_bind hm
    refine G.does (does_fn 0 rfl rfl rfl en10 h3 (fun U hU hp hr hs => M_roster_Good_v_w (l := l) (hs.v hv_l) hq_l hp hy4)) rfl rfl rfl ?_
    rintro _ w5 ⟨U8, hb9, rfl, h7⟩
    have h6 : Sat W w5 [blk b1 (bytesV (List.ofFn (n := 20) i.Publisher) ++ ([(v64 i.Seq), (v64 i.Born), (v32 i.Life), (.bool i.Gone), (v16 i.Priority), (v16 i.Weight), (v16 i.Port), (.string (str i.Target))] : List Value)) 31] := hb9 h7
    refine G.yl (yl_not rfl) rfl rfl rfl ?_
    refine G.yl (yl_move rfl) rfl rfl rfl ?_
    rcases sp_b hm with ⟨hc10, hm⟩ | ⟨hc10, hm⟩
    · refine G.on rfl rfl (not_f hc10) ?_
      refine G.yl (yl_loadN (vs := (bytesV (List.ofFn (n := 20) i.Publisher) ++ ([(v64 i.Seq), (v64 i.Born), (v32 i.Life), (.bool i.Gone), (v16 i.Priority), (v16 i.Weight), (v16 i.Port), (.string (str i.Target))] : List Value))) ag31 sz31 (by simp [bytesV_length]) rfl (h6.isBlk.view0)) rfl rfl rfl ?_
      refine G.on rfl rfl (not_f hc10) ?_
      obtain ⟨r1_3, hy11, hm⟩ := sp_bind hm
      refine G.does (does_fn 0 rfl rfl rfl en8 h6 (fun U hU hp hr hs => M_inst_Good_w (i := i) hp hy11)) rfl rfl rfl ?_
      rintro _ w12 ⟨U15, hb16, rfl, h14⟩
      have h13 : Sat W w12 [blk b1 (bytesV (List.ofFn (n := 20) i.Publisher) ++ ([(v64 i.Seq), (v64 i.Born), (v32 i.Life), (.bool i.Gone), (v16 i.Priority), (v16 i.Weight), (v16 i.Port), (.string (str i.Target))] : List Value)) 31] := hb16 h14
      refine G.on rfl rfl (not_f hc10) ?_
      refine G.yl (yl_not rfl) rfl rfl rfl ?_
      refine G.yl (yl_pick_f rfl (not_f hc10) rfl) rfl rfl rfl ?_
      refine G.nil ?_
      exact QA.join (!r1_3) (Sub.of ⟨rfl, rfl, rfl, rfl, rfl, trivial⟩) ⟨hm, (Sat.pick [0] h13)⟩
    · refine G.offU rfl rfl (not_t hc10) rfl ?_
      refine G.offU rfl rfl (not_t hc10) rfl ?_
      refine G.offU rfl rfl (not_t hc10) rfl ?_
      refine G.yl (yl_pick_t rfl (not_t hc10) rfl) rfl rfl rfl ?_
      refine G.nil ?_
      exact QA.join true (Sub.of ⟨rfl, rfl, rfl, rfl, rfl, trivial⟩) ⟨hm, (Sat.pick [0] h6)⟩
  · rintro t17 w17 ⟨hm, h18⟩
    show C _ _ _ [(0, (.slice a l.length c)), (3, (.pointer (some ⟨b1, 0, none⟩))), (4, (.slice none 0 0)), (5, (.bool false)), (17, (.bool t17))] _ _
    unfold M_roster_Put_v_k1 at hm
    rcases sp_b hm with ⟨hc19, hm⟩ | ⟨hc19, hm⟩
    · refine C.cond_t rfl hc19 ?_
      refine C.seq ?_
      refine C.region ?_
      refine G.yl (yl_move rfl) rfl rfl rfl ?_
      refine G.yl (yl_assign rfl) rfl rfl rfl ?_
      refine G.yl (yl_assign rfl) rfl rfl rfl ?_
      refine G.nil ?_
      refine QA.then_normal ?_
      refine C.ret ?_
      refine QA.then_ret ?_
      refine QA.ret2 rfl rfl rfl ?_
      obtain rfl := sp_ret1 hm
      exact ⟨rfl, (Sat.pick [] h18)⟩
    · refine C.cond_f rfl hc19 ?_
      refine C.skip ?_
      refine QA.then_normal ?_
      refine C.seq ?_
      refine C.region ?_
      refine G.yl (yl_move rfl) rfl rfl rfl ?_
      refine G.yl (yl_fieldAddr fo31_0 rfl) rfl rfl rfl ?_
      refine G.yl (yl_loadN (vs := (bytesV (List.ofFn (n := 20) i.Publisher))) ag26 sz26 (by simp [bytesV_length]) rfl (View.span_head h18.isBlk.view0)) rfl rfl rfl ?_
      obtain ⟨⟨r1_4, r2_2⟩, hy20, hm⟩ := sp_bind hm
      refine G.does (does_fn 0 rfl rfl rfl en24 h18 (fun U hU hp hr hs => M_slices_BinarySearchFunc_ID_v_roster_order_w (x := l) (target := i.Publisher) (hs.v hv_l) hq_l hp hy20)) rfl rfl rfl ?_
      rintro _ w21 ⟨U24, hb25, rfl, h23⟩
      have h22 : Sat W w21 [blk b1 (bytesV (List.ofFn (n := 20) i.Publisher) ++ ([(v64 i.Seq), (v64 i.Born), (v32 i.Life), (.bool i.Gone), (v16 i.Priority), (v16 i.Weight), (v16 i.Port), (.string (str i.Target))] : List Value)) 31] := hb25 h23
      refine G.yl (yl_move rfl) rfl rfl rfl ?_
      refine G.yl (yl_extract rfl rfl) rfl rfl rfl ?_
      refine G.yl (yl_extract rfl rfl) rfl rfl rfl ?_
      refine G.yl (yl_assign rfl) rfl rfl rfl ?_
      refine G.yl (yl_assign rfl) rfl rfl rfl ?_
      refine G.nil ?_
      refine QA.then_normal ?_
      refine C.join (γ := Unit) (fun g => match g with | () => [(0, (.slice a l.length c)), (3, (.pointer (some ⟨b1, 0, none⟩))), (4, (.slice none 0 0)), (5, (.bool false)), (6, (vI r1_4)), (7, (.bool r2_2))]) (fun g ww => match g with | () => (M_roster_Put_v_k2 i l r1_4 r2_2 = some r) ∧ Sat W ww [blk b1 (bytesV (List.ofFn (n := 20) i.Publisher) ++ ([(v64 i.Seq), (v64 i.Born), (v32 i.Life), (.bool i.Gone), (v16 i.Priority), (v16 i.Weight), (v16 i.Port), (.string (str i.Target))] : List Value)) 31]) ?_ ?_
      · refine C.seq ?_
        refine C.draw (V := fun w' => View w' (some ⟨b1, 0, none⟩) (bytesV (List.ofFn (n := 20) i.Publisher) ++ ([(v64 i.Seq), (v64 i.Born), (v32 i.Life), (.bool i.Gone), (v16 i.Priority), (v16 i.Weight), (v16 i.Port), (.string (str i.Target))] : List Value)) ∧ View w' a (el_G_api_Instance.row l)) (nd := [2, 3, 4, 5, 6, 8]) (sp := []) (n := 10) rfl h22 rfl rfl ?_
        intro w26 h27
        have hS28 : Cls (fun w' => View w' (some ⟨b1, 0, none⟩) (bytesV (List.ofFn (n := 20) i.Publisher) ++ ([(v64 i.Seq), (v64 i.Born), (v32 i.Life), (.bool i.Gone), (v16 i.Priority), (v16 i.Weight), (v16 i.Port), (.string (str i.Target))] : List Value)) ∧ View w' a (el_G_api_Instance.row l)) [2, 3, 4, 5, 6, 8] [] #[false, false, false, false, false, false, false, false, false, false] w26 := Cls.keep (⟨h27.isBlk.view0, (hv_l.at_ h27)⟩) (by kernel_rfl)
        refine GH.yl (i := 0) (listed' := #[true, false, false, false, false, false, false, false, false, false]) rfl (by kernel_rfl) rfl (NP.next (NP.next NP.body)) rfl rfl rfl (fun w' => yl_move rfl) hS28 (fun hS29 => ?_)
        refine GH.yl (i := 1) (listed' := #[true, true, false, false, false, false, false, false, false, false]) rfl (by kernel_rfl) rfl (NP.next (NP.next NP.body)) rfl rfl rfl (fun w' => yl_move rfl) hS29 (fun hS30 => ?_)
        rcases sp_b hm with ⟨hc31, hm⟩ | ⟨hc31, hm⟩
        · refine GH.on (i := 2) (listed' := #[true, true, true, false, false, false, false, false, false, false]) rfl (by kernel_rfl) rfl rfl (NP.next (NP.next NP.body)) rfl rfl rfl rfl hc31 (fun w' hw' => yl_loadN (vs := (bytesV (List.ofFn (n := 20) i.Publisher) ++ ([(v64 i.Seq), (v64 i.Born), (v32 i.Life), (.bool i.Gone), (v16 i.Priority), (v16 i.Weight), (v16 i.Port), (.string (str i.Target))] : List Value))) ag31 sz31 (by simp [bytesV_length]) rfl (hw'.1)) hS30 (fun hS32 => ?_)
          refine GH.on (i := 3) (listed' := #[true, true, true, true, false, false, false, false, false, false]) rfl (by kernel_rfl) rfl rfl (NP.next (NP.next NP.body)) rfl rfl rfl rfl hc31 (fun w' hw' => yl_move rfl) hS32 (fun hS33 => ?_)
          refine GH.on (i := 4) (listed' := #[true, true, true, true, true, false, false, false, false, false]) rfl (by kernel_rfl) rfl rfl (NP.next (NP.next NP.body)) rfl rfl rfl rfl hc31 (fun w' hw' => yl_move rfl) hS33 (fun hS34 => ?_)
          obtain ⟨x, hy35, hm⟩ := sp_bind hm
          refine GH.on (i := 5) (listed' := #[true, true, true, true, true, true, false, false, false, false]) rfl (by kernel_rfl) rfl rfl (NP.next (NP.next NP.body)) rfl rfl rfl rfl hc31 (fun w' hw' => yl_ixP (l := l) sl22 rfl rfl (View.isA (E := el_G_api_Instance) (hv_l.at_ h27) (by decide) (at?_lt hy35)) rfl (at?_lt hy35)) hS34 (fun hS36 => ?_)
          refine GH.on (i := 6) (listed' := #[true, true, true, true, true, true, true, false, false, false]) rfl (by kernel_rfl) rfl rfl (NP.next (NP.next NP.body)) rfl rfl rfl rfl hc31 (fun w' hw' => yl_ldE (E := el_G_api_Instance) ag31 sz31 rfl (hw'.2) (at?_some hy35).2) hS36 (fun hS37 => ?_)
          obtain ⟨r1_5, hy38, hm⟩ := sp_bind hm
          refine GH.doesOn (i := 7) (listed' := #[true, true, true, true, true, true, true, true, false, false]) rfl (by kernel_rfl) rfl rfl rfl hc31 rfl rfl (does_fn 0 rfl rfl rfl en12 h27 (fun U hU hp hr hs => M_inst_Cmp_w (a := i) (b := x) hp hy38)) ?_
          rintro _ w39 ⟨U42, hb43, rfl, h41⟩
          have h40 : Sat W w39 [blk b1 (bytesV (List.ofFn (n := 20) i.Publisher) ++ ([(v64 i.Seq), (v64 i.Born), (v32 i.Life), (.bool i.Gone), (v16 i.Priority), (v16 i.Weight), (v16 i.Port), (.string (str i.Target))] : List Value)) 31] := hb43 h41
          have hS44 : Cls (fun w' => View w' (some ⟨b1, 0, none⟩) (bytesV (List.ofFn (n := 20) i.Publisher) ++ ([(v64 i.Seq), (v64 i.Born), (v32 i.Life), (.bool i.Gone), (v16 i.Priority), (v16 i.Weight), (v16 i.Port), (.string (str i.Target))] : List Value)) ∧ View w' a (el_G_api_Instance.row l)) [2, 3, 4, 5, 6, 8] [] #[true, true, true, true, true, true, true, true, false, false] w39 := Cls.keep (⟨h40.isBlk.view0, (hv_l.at_ h40)⟩) (by kernel_rfl)
          refine ⟨hS44, ?_⟩
          refine GH.on (i := 8) (listed' := #[true, true, true, true, true, true, true, true, true, false]) rfl (by kernel_rfl) rfl rfl (NP.next (NP.next NP.body)) rfl rfl rfl rfl hc31 (fun w' hw' => yl_leI rfl rfl) hS44 (fun hS45 => ?_)
          refine GH.yl (i := 9) (listed' := #[true, true, true, true, true, true, true, true, true, true]) rfl (by kernel_rfl) rfl (NP.next (NP.next NP.body)) rfl rfl rfl (fun w' => yl_pick_t rfl hc31 rfl) hS45 (fun hS46 => ?_)
          refine GH.done (by kernel_rfl) ?_
          refine QA.then_normal ?_
          rcases sp_ite hm with ⟨hc47, hm⟩ | ⟨hc47, hm⟩
          · refine C.cond_t rfl (dec_t hc47) ?_
            refine C.seq ?_
            refine C.region ?_
            refine G.yl (yl_move rfl) rfl rfl rfl ?_
            refine G.yl (yl_assign rfl) rfl rfl rfl ?_
            refine G.yl (yl_assign rfl) rfl rfl rfl ?_
            refine G.nil ?_
            refine QA.then_normal ?_
            refine C.ret ?_
            refine QA.then_ret ?_
            refine QA.ret2 rfl rfl rfl ?_
            obtain rfl := sp_ret1 hm
            exact ⟨rfl, (Sat.pick [] h40)⟩
          · refine C.cond_f rfl (dec_f hc47) ?_
            refine C.skip ?_
            exact QA.join () (Sub.of ⟨rfl, rfl, rfl, rfl, rfl, rfl, trivial⟩) ⟨hm, (Sat.pick [0] h40)⟩
        · refine GH.off (i := 2) (listed' := #[true, true, true, false, false, false, false, false, false, false]) rfl (by kernel_rfl) rfl (NP.next (NP.next NP.body)) rfl rfl rfl rfl hc31 hS30 (fun hS48 => ?_)
          refine GH.off (i := 3) (listed' := #[true, true, true, true, false, false, false, false, false, false]) rfl (by kernel_rfl) rfl (NP.next (NP.next NP.body)) rfl rfl rfl rfl hc31 hS48 (fun hS49 => ?_)
          refine GH.off (i := 4) (listed' := #[true, true, true, true, true, false, false, false, false, false]) rfl (by kernel_rfl) rfl (NP.next (NP.next NP.body)) rfl rfl rfl rfl hc31 hS49 (fun hS50 => ?_)
          refine GH.off (i := 5) (listed' := #[true, true, true, true, true, true, false, false, false, false]) rfl (by kernel_rfl) rfl (NP.next (NP.next NP.body)) rfl rfl rfl rfl hc31 hS50 (fun hS51 => ?_)
          refine GH.off (i := 6) (listed' := #[true, true, true, true, true, true, true, false, false, false]) rfl (by kernel_rfl) rfl (NP.next (NP.next NP.body)) rfl rfl rfl rfl hc31 hS51 (fun hS52 => ?_)
          refine GH.off (i := 7) (listed' := #[true, true, true, true, true, true, true, true, false, false]) rfl (by kernel_rfl) rfl (NP.next (NP.next NP.body)) rfl rfl rfl rfl hc31 hS52 (fun hS53 => ?_)
          refine GH.off (i := 8) (listed' := #[true, true, true, true, true, true, true, true, true, false]) rfl (by kernel_rfl) rfl (NP.next (NP.next NP.body)) rfl rfl rfl rfl hc31 hS53 (fun hS54 => ?_)
          refine GH.yl (i := 9) (listed' := #[true, true, true, true, true, true, true, true, true, true]) rfl (by kernel_rfl) rfl (NP.next (NP.next NP.body)) rfl rfl rfl (fun w' => yl_pick_f rfl hc31 rfl) hS54 (fun hS55 => ?_)
          refine GH.done (by kernel_rfl) ?_
          refine QA.then_normal ?_
          refine C.cond_f rfl rfl ?_
          refine C.skip ?_
          exact QA.join () (Sub.of ⟨rfl, rfl, rfl, rfl, rfl, rfl, trivial⟩) ⟨hm, (Sat.pick [0] h27)⟩
      · rintro _ w56 ⟨hm, h57⟩
        show C _ _ _ [(0, (.slice a l.length c)), (3, (.pointer (some ⟨b1, 0, none⟩))), (4, (.slice none 0 0)), (5, (.bool false)), (6, (vI r1_4)), (7, (.bool r2_2))] _ _
        unfold M_roster_Put_v_k2 at hm
        refine C.seq ?_
        refine C.region ?_
        refine G.yl (yl_move rfl) rfl rfl rfl ?_
        refine G.yl (yl_lenE Try.underlying22 rfl) rfl rfl rfl ?_
        obtain ⟨hc58, hm⟩ := sp_chk hm
        refine G.does (does_mk (E := el_G_api_Instance) (r := (G_api_Instance.mk (fun _ => 0) 0 0 0 false 0 0 0 ([] : List UInt8))) (e := 31) h57 Try.underlying22 el31 z31 rfl rfl rfl hc58 (by decide)) rfl rfl rfl ?_
        rintro _ w60 ⟨a59, rfl, h61⟩
        refine G.yl (yl_assign rfl) rfl rfl rfl ?_
        refine G.nil ?_
        refine QA.then_normal ?_
        refine C.seq ?_
        refine C.region ?_
        refine G.yl (yl_move rfl) rfl rfl rfl ?_
        refine G.yl (yl_move rfl) rfl rfl rfl ?_
        refine G.does (does_cpE (E := el_G_api_Instance) (l := List.replicate l.length (G_api_Instance.mk (fun _ => 0) 0 0 0 false 0 0 0 ([] : List UInt8))) (l2 := l) (X := List.replicate l.length (G_api_Instance.mk (fun _ => 0) 0 0 0 false 0 0 0 ([] : List UInt8))) (m := 0) h61 Try.underlying22 sz31 rfl rfl rfl rfl (by decide) (hv_l.at_ h61) (.inl ⟨rfl, rfl⟩) (by simp [copyL_length] <;> omega)) rfl rfl rfl ?_
        rintro _ w62 ⟨rfl, h63⟩
        refine G.nil ?_
        refine QA.then_normal ?_
        refine C.seq ?_
        refine C.seq ?_
        refine C.region ?_
        refine G.yl (yl_move rfl) rfl rfl rfl ?_
        refine G.nil ?_
        refine QA.then_normal ?_
        rcases sp_b hm with ⟨hc64, hm⟩ | ⟨hc64, hm⟩
        · refine C.cond_t rfl hc64 ?_
          refine C.seq ?_
          refine C.region ?_
          refine G.yl (yl_move rfl) rfl rfl rfl ?_
          refine G.yl (yl_move rfl) rfl rfl rfl ?_
          refine G.yl (yl_loadN (vs := (bytesV (List.ofFn (n := 20) i.Publisher) ++ ([(v64 i.Seq), (v64 i.Born), (v32 i.Life), (.bool i.Gone), (v16 i.Priority), (v16 i.Weight), (v16 i.Port), (.string (str i.Target))] : List Value))) ag31 sz31 (by simp [bytesV_length]) rfl ((Sat.pick [1] h63).isBlk.view0)) rfl rfl rfl ?_
          obtain ⟨x_2, hy65, hm⟩ := sp_bind hm
          refine G.yl (yl_ixP (l := copyL (List.replicate l.length (G_api_Instance.mk (fun _ => 0) 0 0 0 false 0 0 0 ([] : List UInt8))) 0 (l.take (min l.length ((List.replicate l.length (G_api_Instance.mk (fun _ => 0) 0 0 0 false 0 0 0 ([] : List UInt8))).length)))) sl22 rfl rfl (View.isA (E := el_G_api_Instance) (Sat.own_view h63) (by decide) (at?_lt hy65)) (by simp [copyL_length]) (at?_lt hy65)) rfl rfl rfl ?_
          refine G.unit (does_stE (E := el_G_api_Instance) (r := i) h63 sz31 rfl rfl (by decide) rfl (List.getElem?_eq_some_iff.1 (at?_some hy65).2).1) rfl rfl ?_
          rintro _ w66 h67
          refine G.nil ?_
          refine QA.then_normal ?_
          refine C.seq ?_
          refine C.region ?_
          refine G.yl (yl_move rfl) rfl rfl rfl ?_
          refine G.yl (yl_assign rfl) rfl rfl rfl ?_
          refine G.yl (yl_assign rfl) rfl rfl rfl ?_
          refine G.nil ?_
          refine QA.then_normal ?_
          refine C.ret ?_
          refine QA.then_ret ?_
          refine QA.ret2 rfl rfl rfl ?_
          obtain rfl := sp_ret1 hm
          exact ⟨a59, l.length, (by simp [copyL_length]), (Sat.pick [0] h67)⟩
        · refine C.cond_f rfl hc64 ?_
          refine C.skip ?_
          refine QA.then_normal ?_
          refine C.seq ?_
          refine C.region ?_
          refine G.yl (yl_move rfl) rfl rfl rfl ?_
          refine G.yl (yl_move rfl) rfl rfl rfl ?_
          refine G.yl (yl_loadN (vs := (bytesV (List.ofFn (n := 20) i.Publisher) ++ ([(v64 i.Seq), (v64 i.Born), (v32 i.Life), (.bool i.Gone), (v16 i.Priority), (v16 i.Weight), (v16 i.Port), (.string (str i.Target))] : List Value))) ag31 sz31 (by simp [bytesV_length]) rfl ((Sat.pick [1] h63).isBlk.view0)) rfl rfl rfl ?_
          refine G.does (does_lit (E := el_G_api_Instance) (l := [i]) (vs := [(.agg (bytesV (List.ofFn (n := 20) i.Publisher) ++ ([(v64 i.Seq), (v64 i.Born), (v32 i.Life), (.bool i.Gone), (v16 i.Priority), (v16 i.Weight), (v16 i.Port), (.string (str i.Target))] : List Value)).toArray)]) (cs := (bytesV (List.ofFn (n := 20) i.Publisher) ++ ([(v64 i.Seq), (v64 i.Born), (v32 i.Life), (.bool i.Gone), (v16 i.Priority), (v16 i.Weight), (v16 i.Port), (.string (str i.Target))] : List Value))) (e := 31) h63 rfl (by kernel_rfl) rfl rfl (by decide)) rfl rfl rfl ?_
          rintro _ w69 ⟨a68, rfl, h70⟩
          obtain ⟨r3_2, hy71, hm⟩ := sp_bind hm
          refine G.does (does_fn 1 rfl rfl rfl en26 (Sat.pick [1, 0, 0] h70) (fun U hU hp hr hs => M_slices_Insert_Instance_ov_w (i := r1_4) (v := [i]) (s := copyL (List.replicate l.length (G_api_Instance.mk (fun _ => 0) 0 0 0 false 0 0 0 ([] : List UInt8))) 0 (l.take (min l.length ((List.replicate l.length (G_api_Instance.mk (fun _ => 0) 0 0 0 false 0 0 0 ([] : List UInt8))).length)))) (by simp [copyL_length]) (by simp [copyL_length]) (Rest.view hr) (Sat.own_cap h70).1 hp hy71)) rfl rfl rfl ?_
          rintro _ w74 ⟨U77, hb78, r172, r273, rfl, h76⟩
          have h75 : Sat W w74 [ow el_G_api_Instance r172 r273 31 r3_2, ow el_G_api_Instance a68 1 31 [i], blk b1 (bytesV (List.ofFn (n := 20) i.Publisher) ++ ([(v64 i.Seq), (v64 i.Born), (v32 i.Life), (.bool i.Gone), (v16 i.Priority), (v16 i.Weight), (v16 i.Port), (.string (str i.Target))] : List Value)) 31] := hb78 h76
          refine G.yl (yl_assign rfl) rfl rfl rfl ?_
          refine G.nil ?_
          refine QA.then_normal ?_
          refine C.seq ?_
          refine C.seq ?_
          refine C.region ?_
          refine G.yl (yl_move rfl) rfl rfl rfl ?_
          refine G.yl (yl_lenE Try.underlying22 rfl) rfl rfl rfl ?_
          refine G.yl (yl_leI rfl rfl) rfl rfl rfl ?_
          refine G.nil ?_
          refine QA.then_normal ?_
          rcases sp_ite hm with ⟨hc79, hm⟩ | ⟨hc79, hm⟩
          · refine C.cond_t rfl (dec_t hc79) ?_
            refine C.seq ?_
            refine C.region ?_
            refine G.yl (yl_move rfl) rfl rfl rfl ?_
            refine G.yl (yl_assign rfl) rfl rfl rfl ?_
            refine G.yl (yl_assign rfl) rfl rfl rfl ?_
            refine G.nil ?_
            refine QA.then_normal ?_
            refine C.ret ?_
            refine QA.then_ret ?_
            refine QA.ret2 rfl rfl rfl ?_
            obtain rfl := sp_ret1 hm
            exact ⟨r172, r273, rfl, (Sat.pick [0] h75)⟩
          · refine C.cond_f rfl (dec_f hc79) ?_
            refine C.skip ?_
            refine QA.then_normal ?_
            refine C.seq ?_
            refine C.region ?_
            refine G.yl (yl_move rfl) rfl rfl rfl ?_
            obtain ⟨r1_6, hy80, hm⟩ := sp_bind hm
            refine G.does (does_fn 0 rfl rfl rfl en27 h75 (fun U hU hp hr hs => M_roster_first_v_w (l := r3_2) (Rest.view hr) (Sat.own_cap h75).1 hp hy80)) rfl rfl rfl ?_
            rintro _ w81 ⟨U84, hb85, rfl, h83⟩
            have h82 : Sat W w81 [ow el_G_api_Instance r172 r273 31 r3_2, ow el_G_api_Instance a68 1 31 [i], blk b1 (bytesV (List.ofFn (n := 20) i.Publisher) ++ ([(v64 i.Seq), (v64 i.Born), (v32 i.Life), (.bool i.Gone), (v16 i.Priority), (v16 i.Weight), (v16 i.Port), (.string (str i.Target))] : List Value)) 31] := hb85 h83
            refine G.yl (yl_assign rfl) rfl rfl rfl ?_
            refine G.nil ?_
            refine QA.then_normal ?_
            refine C.seq ?_
            refine C.region ?_
            refine G.yl (yl_move rfl) rfl rfl rfl ?_
            refine G.yl (yl_move rfl) rfl rfl rfl ?_
            refine G.yl (yl_move rfl) rfl rfl rfl ?_
            obtain ⟨hc86, hm⟩ := sp_chk hm
            refine G.yl (yl_addI rfl rfl hc86) rfl rfl rfl ?_
            obtain ⟨r1_7, hy87, hm⟩ := sp_bind hm
            refine G.does (does_fn 1 rfl rfl rfl en28 (Sat.pick [0, 0, 0] h82) (fun U hU hp hr hs => M_slices_Delete_Instance_o_w (s := r3_2) (i := r1_6) (j := r1_6 + 1) hp hy87)) rfl rfl rfl ?_
            rintro _ w88 ⟨U91, hb92, rfl, h90⟩
            have h89 : Sat W w88 [ow el_G_api_Instance r172 r273 31 r1_7, ow el_G_api_Instance a68 1 31 [i], blk b1 (bytesV (List.ofFn (n := 20) i.Publisher) ++ ([(v64 i.Seq), (v64 i.Born), (v32 i.Life), (.bool i.Gone), (v16 i.Priority), (v16 i.Weight), (v16 i.Port), (.string (str i.Target))] : List Value)) 31] := hb92 h90
            refine G.yl (yl_move rfl) rfl rfl rfl ?_
            refine G.yl (yl_move rfl) rfl rfl rfl ?_
            refine G.yl (yl_neI rfl rfl) rfl rfl rfl ?_
            refine G.yl (yl_assign rfl) rfl rfl rfl ?_
            refine G.yl (yl_assign rfl) rfl rfl rfl ?_
            refine G.nil ?_
            refine QA.then_normal ?_
            refine C.ret ?_
            refine QA.ret2 rfl rfl rfl ?_
            obtain rfl := sp_ret1 hm
            exact ⟨r172, r273, rfl, (Sat.pick [0] h89)⟩
set_option maxRecDepth 20000 in
set_option maxHeartbeats 1000000 in
theorem M_signpostlaw12_lives_w {W : Base} {w : World}   (h : Sat W w []) {r1 : Bool} (hm : M_signpostlaw12_lives = some r1) :
    Calls Try.prog 7 #[] w (Ret fun v w' => v = (.bool r1) ∧ Sat W w' []) := by
  unfold M_signpostlaw12_lives at hm
  refine C.enter (N := 41) Try.func7 rfl Try.ntmps7 rfl ?_
  show C _ _ _ [] _ _
  refine C.seq ?_
  refine C.region ?_
  refine G.yl (yl_assign rfl) rfl rfl rfl ?_
  refine G.nil ?_
  refine QA.then_normal ?_
  refine C.seq ?_
  refine C.region ?_
  refine G.yl (yl_build (vs := [(.int .u64 1), (.int .u32 5), (.int .u16 80), (.string (str ([97] : List UInt8)))]) (cells := (bytesV (List.ofFn (n := 20) (fun _ => 0)) ++ ([(.int .u64 1), (.int .u64 0), (.int .u32 5), (.bool false), (.int .u16 0), (.int .u16 0), (.int .u16 80), (.string (str ([97] : List UInt8)))] : List Value)).toArray) rfl (by kernel_rfl)) rfl rfl rfl ?_
  refine G.does (does_alloc (cs := (bytesV (List.ofFn (n := 20) (fun _ => 0)) ++ ([(.int .u64 0), (.int .u64 0), (.int .u32 0), (.bool false), (.int .u16 0), (.int .u16 0), (.int .u16 0), (.string (str ([] : List UInt8)))] : List Value))) h z31 rfl) rfl rfl rfl ?_
  rintro _ w2 ⟨b1, rfl, h3⟩
  refine G.unit (does_store (vs := (bytesV (List.ofFn (n := 20) (fun _ => 0)) ++ ([(.int .u64 1), (.int .u64 0), (.int .u32 5), (.bool false), (.int .u16 0), (.int .u16 0), (.int .u16 80), (.string (str ([97] : List UInt8)))] : List Value))) h3 sz31 rfl rfl rfl (by simp [bytesV_length]) (List.forall_mem_append.2 ⟨(bytesV_one _), (List.forall_mem_cons.2 ⟨rfl, (List.forall_mem_cons.2 ⟨rfl, (List.forall_mem_cons.2 ⟨rfl, (List.forall_mem_cons.2 ⟨rfl, (List.forall_mem_cons.2 ⟨rfl, (List.forall_mem_cons.2 ⟨rfl, (List.forall_mem_cons.2 ⟨rfl, (List.forall_mem_cons.2 ⟨rfl, (fun _ hh => by cases hh)⟩)⟩)⟩)⟩)⟩)⟩)⟩)⟩)⟩) (by simp [bytesV_length])) rfl rfl ?_
  rintro _ w4 h6
  have h5 : Sat W w4 [blk b1 (bytesV (List.ofFn (n := 20) (fun _ => 0)) ++ ([(.int .u64 1), (.int .u64 0), (.int .u32 5), (.bool false), (.int .u16 0), (.int .u16 0), (.int .u16 80), (.string (str ([97] : List UInt8)))] : List Value)) 31] := sl_blk (setN_all _ _ (by simp [bytesV_length])) h6
  refine G.nil ?_
  refine QA.then_normal ?_
  refine C.seq ?_
  refine C.region ?_
  refine G.yl (yl_loadN (vs := (bytesV (List.ofFn (n := 20) (fun _ => 0)) ++ ([(.int .u64 1), (.int .u64 0), (.int .u32 5), (.bool false), (.int .u16 0), (.int .u16 0), (.int .u16 80), (.string (str ([97] : List UInt8)))] : List Value))) ag31 sz31 (by simp [bytesV_length]) rfl (h5.isBlk.view0)) rfl rfl rfl ?_
  refine G.does (does_alloc (cs := (bytesV (List.ofFn (n := 20) (fun _ => 0)) ++ ([(.int .u64 0), (.int .u64 0), (.int .u32 0), (.bool false), (.int .u16 0), (.int .u16 0), (.int .u16 0), (.string (str ([] : List UInt8)))] : List Value))) h5 z31 rfl) rfl rfl rfl ?_
  rintro _ w8 ⟨b7, rfl, h9⟩
  refine G.unit (does_store (vs := (bytesV (List.ofFn (n := 20) (fun _ => 0)) ++ ([(.int .u64 1), (.int .u64 0), (.int .u32 5), (.bool false), (.int .u16 0), (.int .u16 0), (.int .u16 80), (.string (str ([97] : List UInt8)))] : List Value))) h9 sz31 rfl rfl rfl (by simp [bytesV_length]) (List.forall_mem_append.2 ⟨(bytesV_one _), (List.forall_mem_cons.2 ⟨rfl, (List.forall_mem_cons.2 ⟨rfl, (List.forall_mem_cons.2 ⟨rfl, (List.forall_mem_cons.2 ⟨rfl, (List.forall_mem_cons.2 ⟨rfl, (List.forall_mem_cons.2 ⟨rfl, (List.forall_mem_cons.2 ⟨rfl, (List.forall_mem_cons.2 ⟨rfl, (fun _ hh => by cases hh)⟩)⟩)⟩)⟩)⟩)⟩)⟩)⟩)⟩) (by simp [bytesV_length])) rfl rfl ?_
  rintro _ w10 h12
  have h11 : Sat W w10 [blk b7 (bytesV (List.ofFn (n := 20) (fun _ => 0)) ++ ([(.int .u64 1), (.int .u64 0), (.int .u32 5), (.bool false), (.int .u16 0), (.int .u16 0), (.int .u16 80), (.string (str ([97] : List UInt8)))] : List Value)) 31, blk b1 (bytesV (List.ofFn (n := 20) (fun _ => 0)) ++ ([(.int .u64 1), (.int .u64 0), (.int .u32 5), (.bool false), (.int .u16 0), (.int .u16 0), (.int .u16 80), (.string (str ([97] : List UInt8)))] : List Value)) 31] := sl_blk (setN_all _ _ (by simp [bytesV_length])) h12
  refine G.nil ?_
  refine QA.then_normal ?_
  refine C.seq ?_
  refine C.region ?_
  refine G.yl (yl_fieldAddr fo31_1 rfl) rfl rfl rfl ?_
  refine G.unit (does_store (vs := [(.int .u64 2)]) h11 sz27 rfl rfl rfl (by simp [bytesV_length]) (List.forall_mem_cons.2 ⟨rfl, (fun _ hh => by cases hh)⟩) (by simp [bytesV_length])) rfl rfl ?_
  rintro _ w13 h15
  have h14 : Sat W w13 [blk b7 (bytesV (List.ofFn (n := 20) (fun _ => 0)) ++ ([(.int .u64 2), (.int .u64 0), (.int .u32 5), (.bool false), (.int .u16 0), (.int .u16 0), (.int .u16 80), (.string (str ([97] : List UInt8)))] : List Value)) 31, blk b1 (bytesV (List.ofFn (n := 20) (fun _ => 0)) ++ ([(.int .u64 1), (.int .u64 0), (.int .u32 5), (.bool false), (.int .u16 0), (.int .u16 0), (.int .u16 80), (.string (str ([97] : List UInt8)))] : List Value)) 31] := sl_blk (by kernel_rfl) h15
  refine G.nil ?_
  refine QA.then_normal ?_
  refine C.seq ?_
  refine C.region ?_
  refine G.yl (yl_loadN (vs := (bytesV (List.ofFn (n := 20) (fun _ => 0)) ++ ([(.int .u64 1), (.int .u64 0), (.int .u32 5), (.bool false), (.int .u16 0), (.int .u16 0), (.int .u16 80), (.string (str ([97] : List UInt8)))] : List Value))) ag31 sz31 (by simp [bytesV_length]) rfl ((Sat.pick [1] h14).isBlk.view0)) rfl rfl rfl ?_
  obtain ⟨y_, hy16, hm⟩ := sp_bind hm
  rcases y_ with _ | ⟨r3_3, r4_3⟩
  · refine G.does (does_fn 0 rfl rfl rfl en9 h14 (fun U hU hp hr hs => M_roster_Put_v_w (l := ([] : List G_api_Instance)) (i := (G_api_Instance.mk (fun _ => 0) 1 0 5 false 0 0 80 ([97] : List UInt8))) (V.nil _ _) (Nat.zero_le _) hp hy16)) rfl rfl rfl ?_
    rintro _ w17 ⟨U20, hb21, rfl, h19⟩
    have h18 : Sat W w17 [blk b7 (bytesV (List.ofFn (n := 20) (fun _ => 0)) ++ ([(.int .u64 2), (.int .u64 0), (.int .u32 5), (.bool false), (.int .u16 0), (.int .u16 0), (.int .u16 80), (.string (str ([97] : List UInt8)))] : List Value)) 31, blk b1 (bytesV (List.ofFn (n := 20) (fun _ => 0)) ++ ([(.int .u64 1), (.int .u64 0), (.int .u32 5), (.bool false), (.int .u16 0), (.int .u16 0), (.int .u16 80), (.string (str ([97] : List UInt8)))] : List Value)) 31] := hb21 h19
    refine G.yl (yl_move rfl) rfl rfl rfl ?_
    refine G.yl (yl_extract rfl rfl) rfl rfl rfl ?_
    refine G.yl (yl_extract rfl rfl) rfl rfl rfl ?_
    refine G.yl (yl_assign rfl) rfl rfl rfl ?_
    refine G.yl (yl_assign rfl) rfl rfl rfl ?_
    refine G.nil ?_
    refine QA.then_normal ?_
    refine C.seq ?_
    refine C.region ?_
    refine G.yl (yl_move rfl) rfl rfl rfl ?_
    refine G.yl (yl_loadN (vs := (bytesV (List.ofFn (n := 20) (fun _ => 0)) ++ ([(.int .u64 2), (.int .u64 0), (.int .u32 5), (.bool false), (.int .u16 0), (.int .u16 0), (.int .u16 80), (.string (str ([97] : List UInt8)))] : List Value))) ag31 sz31 (by simp [bytesV_length]) rfl (h18.isBlk.view0)) rfl rfl rfl ?_
    obtain ⟨y__2, hy22, hm⟩ := sp_bind hm
    rcases y__2 with _ | ⟨r3_2, r4_2⟩
    · refine G.does (does_fn 0 rfl rfl rfl en9 h18 (fun U hU hp hr hs => M_roster_Put_v_w (l := ([] : List G_api_Instance)) (i := (G_api_Instance.mk (fun _ => 0) 2 0 5 false 0 0 80 ([97] : List UInt8))) (V.nil _ _) (Nat.zero_le _) hp hy22)) rfl rfl rfl ?_
      rintro _ w23 ⟨U26, hb27, rfl, h25⟩
      have h24 : Sat W w23 [blk b7 (bytesV (List.ofFn (n := 20) (fun _ => 0)) ++ ([(.int .u64 2), (.int .u64 0), (.int .u32 5), (.bool false), (.int .u16 0), (.int .u16 0), (.int .u16 80), (.string (str ([97] : List UInt8)))] : List Value)) 31, blk b1 (bytesV (List.ofFn (n := 20) (fun _ => 0)) ++ ([(.int .u64 1), (.int .u64 0), (.int .u32 5), (.bool false), (.int .u16 0), (.int .u16 0), (.int .u16 80), (.string (str ([97] : List UInt8)))] : List Value)) 31] := hb27 h25
      refine G.yl (yl_move rfl) rfl rfl rfl ?_
      refine G.yl (yl_extract rfl rfl) rfl rfl rfl ?_
      refine G.yl (yl_extract rfl rfl) rfl rfl rfl ?_
      refine G.yl (yl_assign rfl) rfl rfl rfl ?_
      refine G.yl (yl_assign rfl) rfl rfl rfl ?_
      refine G.nil ?_
      refine QA.then_normal ?_
      refine C.seq ?_
      refine C.draw (V := fun w' => True) (nd := []) (sp := []) (n := 21) rfl h24 rfl rfl ?_
      intro w28 h29
      have hS30 : Cls (fun w' => True) [] [] #[nn, nn, nn, nn, nn, nn, nn, nn, nn, nn, nn, nn, nn, nn, nn, nn, nn, nn, nn, nn, nn] w28 := Cls.keep (trivial) (by kernel_rfl)
      refine GH.yl (i := 0) (listed' := #[yy, nn, nn, nn, nn, nn, nn, nn, nn, nn, nn, nn, nn, nn, nn, nn, nn, nn, nn, nn, nn]) rfl (by kernel_rfl) rfl (NP.next NP.body) rfl rfl rfl (fun w' => yl_move rfl) hS30 (fun hS31 => ?_)
      refine GH.yl (i := 1) (listed' := #[yy, yy, nn, nn, nn, nn, nn, nn, nn, nn, nn, nn, nn, nn, nn, nn, nn, nn, nn, nn, nn]) rfl (by kernel_rfl) rfl (NP.next NP.body) rfl rfl rfl (fun w' => yl_move rfl) hS31 (fun hS32 => ?_)
      refine GH.off (i := 2) (listed' := #[yy, yy, yy, nn, nn, nn, nn, nn, nn, nn, nn, nn, nn, nn, nn, nn, nn, nn, nn, nn, nn]) rfl (by kernel_rfl) rfl (NP.next NP.body) rfl rfl rfl rfl rfl hS32 (fun hS33 => ?_)
      refine GH.yl (i := 3) (listed' := #[yy, yy, yy, yy, nn, nn, nn, nn, nn, nn, nn, nn, nn, nn, nn, nn, nn, nn, nn, nn, nn]) rfl (by kernel_rfl) rfl (NP.next NP.body) rfl rfl rfl (fun w' => yl_pick_f rfl rfl rfl) hS33 (fun hS34 => ?_)
      refine GH.yl (i := 4) (listed' := #[yy, yy, yy, yy, yy, nn, nn, nn, nn, nn, nn, nn, nn, nn, nn, nn, nn, nn, nn, nn, nn]) rfl (by kernel_rfl) rfl (NP.next NP.body) rfl rfl rfl (fun w' => yl_move rfl) hS34 (fun hS35 => ?_)
      refine GH.off (i := 5) (listed' := #[yy, yy, yy, yy, yy, yy, nn, nn, nn, nn, nn, nn, nn, nn, nn, nn, nn, nn, nn, nn, nn]) rfl (by kernel_rfl) rfl (NP.next NP.body) rfl rfl rfl rfl rfl hS35 (fun hS36 => ?_)
      refine GH.off (i := 6) (listed' := #[yy, yy, yy, yy, yy, yy, yy, nn, nn, nn, nn, nn, nn, nn, nn, nn, nn, nn, nn, nn, nn]) rfl (by kernel_rfl) rfl (NP.next NP.body) rfl rfl rfl rfl rfl hS36 (fun hS37 => ?_)
      refine GH.off (i := 7) (listed' := #[yy, yy, yy, yy, yy, yy, yy, yy, nn, nn, nn, nn, nn, nn, nn, nn, nn, nn, nn, nn, nn]) rfl (by kernel_rfl) rfl (NP.next NP.body) rfl rfl rfl rfl rfl hS37 (fun hS38 => ?_)
      refine GH.yl (i := 8) (listed' := #[yy, yy, yy, yy, yy, yy, yy, yy, yy, nn, nn, nn, nn, nn, nn, nn, nn, nn, nn, nn, nn]) rfl (by kernel_rfl) rfl (NP.next NP.body) rfl rfl rfl (fun w' => yl_pick_f rfl rfl rfl) hS38 (fun hS39 => ?_)
      refine GH.yl (i := 9) (listed' := #[yy, yy, yy, yy, yy, yy, yy, yy, yy, yy, nn, nn, nn, nn, nn, nn, nn, nn, nn, nn, nn]) rfl (by kernel_rfl) rfl (NP.next NP.body) rfl rfl rfl (fun w' => yl_move rfl) hS39 (fun hS40 => ?_)
      refine GH.off (i := 10) (listed' := #[yy, yy, yy, yy, yy, yy, yy, yy, yy, yy, yy, nn, nn, nn, nn, nn, nn, nn, nn, nn, nn]) rfl (by kernel_rfl) rfl (NP.next NP.body) rfl rfl rfl rfl rfl hS40 (fun hS41 => ?_)
      refine GH.off (i := 11) (listed' := #[yy, yy, yy, yy, yy, yy, yy, yy, yy, yy, yy, yy, nn, nn, nn, nn, nn, nn, nn, nn, nn]) rfl (by kernel_rfl) rfl (NP.next NP.body) rfl rfl rfl rfl rfl hS41 (fun hS42 => ?_)
      refine GH.off (i := 12) (listed' := #[yy, yy, yy, yy, yy, yy, yy, yy, yy, yy, yy, yy, yy, nn, nn, nn, nn, nn, nn, nn, nn]) rfl (by kernel_rfl) rfl (NP.next NP.body) rfl rfl rfl rfl rfl hS42 (fun hS43 => ?_)
      refine GH.off (i := 13) (listed' := #[yy, yy, yy, yy, yy, yy, yy, yy, yy, yy, yy, yy, yy, yy, nn, nn, nn, nn, nn, nn, nn]) rfl (by kernel_rfl) rfl (NP.next NP.body) rfl rfl rfl rfl rfl hS43 (fun hS44 => ?_)
      refine GH.off (i := 14) (listed' := #[yy, yy, yy, yy, yy, yy, yy, yy, yy, yy, yy, yy, yy, yy, yy, nn, nn, nn, nn, nn, nn]) rfl (by kernel_rfl) rfl (NP.next NP.body) rfl rfl rfl rfl rfl hS44 (fun hS45 => ?_)
      refine GH.yl (i := 15) (listed' := #[yy, yy, yy, yy, yy, yy, yy, yy, yy, yy, yy, yy, yy, yy, yy, yy, nn, nn, nn, nn, nn]) rfl (by kernel_rfl) rfl (NP.next NP.body) rfl rfl rfl (fun w' => yl_pick_f rfl rfl rfl) hS45 (fun hS46 => ?_)
      refine GH.yl (i := 16) (listed' := #[yy, yy, yy, yy, yy, yy, yy, yy, yy, yy, yy, yy, yy, yy, yy, yy, yy, nn, nn, nn, nn]) rfl (by kernel_rfl) rfl (NP.next NP.body) rfl rfl rfl (fun w' => yl_move rfl) hS46 (fun hS47 => ?_)
      refine GH.off (i := 17) (listed' := #[yy, yy, yy, yy, yy, yy, yy, yy, yy, yy, yy, yy, yy, yy, yy, yy, yy, yy, nn, nn, nn]) rfl (by kernel_rfl) rfl (NP.next NP.body) rfl rfl rfl rfl rfl hS47 (fun hS48 => ?_)
      refine GH.off (i := 18) (listed' := #[yy, yy, yy, yy, yy, yy, yy, yy, yy, yy, yy, yy, yy, yy, yy, yy, yy, yy, yy, nn, nn]) rfl (by kernel_rfl) rfl (NP.next NP.body) rfl rfl rfl rfl rfl hS48 (fun hS49 => ?_)
      refine GH.yl (i := 19) (listed' := #[yy, yy, yy, yy, yy, yy, yy, yy, yy, yy, yy, yy, yy, yy, yy, yy, yy, yy, yy, yy, nn]) rfl (by kernel_rfl) rfl (NP.next NP.body) rfl rfl rfl (fun w' => yl_pick_f rfl rfl rfl) hS49 (fun hS50 => ?_)
      refine GH.yl (i := 20) (listed' := #[yy, yy, yy, yy, yy, yy, yy, yy, yy, yy, yy, yy, yy, yy, yy, yy, yy, yy, yy, yy, yy]) rfl (by kernel_rfl) rfl (NP.next NP.body) rfl rfl rfl (fun w' => yl_assign rfl) hS50 (fun hS51 => ?_)
      refine GH.done (by kernel_rfl) ?_
      refine QA.then_normal ?_
      refine C.ret ?_
      refine QA.ret1 rfl rfl ?_
      obtain rfl := sp_ret1 hm
      exact ⟨rfl, (Sat.pick [] h29)⟩
    · refine G.does (does_fn 0 rfl rfl rfl en9 h18 (fun U hU hp hr hs => M_roster_Put_v_w (l := ([] : List G_api_Instance)) (i := (G_api_Instance.mk (fun _ => 0) 2 0 5 false 0 0 80 ([97] : List UInt8))) (V.nil _ _) (Nat.zero_le _) hp hy22)) rfl rfl rfl ?_
      rintro _ w54 ⟨U57, hb58, r152, r253, rfl, h56⟩
      have h55 : Sat W w54 [ow el_G_api_Instance r152 r253 31 r3_2, blk b7 (bytesV (List.ofFn (n := 20) (fun _ => 0)) ++ ([(.int .u64 2), (.int .u64 0), (.int .u32 5), (.bool false), (.int .u16 0), (.int .u16 0), (.int .u16 80), (.string (str ([97] : List UInt8)))] : List Value)) 31, blk b1 (bytesV (List.ofFn (n := 20) (fun _ => 0)) ++ ([(.int .u64 1), (.int .u64 0), (.int .u32 5), (.bool false), (.int .u16 0), (.int .u16 0), (.int .u16 80), (.string (str ([97] : List UInt8)))] : List Value)) 31] := hb58 h56
      refine G.yl (yl_move rfl) rfl rfl rfl ?_
      refine G.yl (yl_extract rfl rfl) rfl rfl rfl ?_
      refine G.yl (yl_extract rfl rfl) rfl rfl rfl ?_
      refine G.yl (yl_assign rfl) rfl rfl rfl ?_
      refine G.yl (yl_assign rfl) rfl rfl rfl ?_
      refine G.nil ?_
      refine QA.then_normal ?_
      refine C.seq ?_
      refine C.draw (V := fun w' => True) (nd := []) (sp := []) (n := 21) rfl h55 rfl rfl ?_
      intro w59 h60
      have hS61 : Cls (fun w' => True) [] [] #[nn, nn, nn, nn, nn, nn, nn, nn, nn, nn, nn, nn, nn, nn, nn, nn, nn, nn, nn, nn, nn] w59 := Cls.keep (trivial) (by kernel_rfl)
      refine GH.yl (i := 0) (listed' := #[yy, nn, nn, nn, nn, nn, nn, nn, nn, nn, nn, nn, nn, nn, nn, nn, nn, nn, nn, nn, nn]) rfl (by kernel_rfl) rfl (NP.next NP.body) rfl rfl rfl (fun w' => yl_move rfl) hS61 (fun hS62 => ?_)
      refine GH.yl (i := 1) (listed' := #[yy, yy, nn, nn, nn, nn, nn, nn, nn, nn, nn, nn, nn, nn, nn, nn, nn, nn, nn, nn, nn]) rfl (by kernel_rfl) rfl (NP.next NP.body) rfl rfl rfl (fun w' => yl_move rfl) hS62 (fun hS63 => ?_)
      refine GH.off (i := 2) (listed' := #[yy, yy, yy, nn, nn, nn, nn, nn, nn, nn, nn, nn, nn, nn, nn, nn, nn, nn, nn, nn, nn]) rfl (by kernel_rfl) rfl (NP.next NP.body) rfl rfl rfl rfl rfl hS63 (fun hS64 => ?_)
      refine GH.yl (i := 3) (listed' := #[yy, yy, yy, yy, nn, nn, nn, nn, nn, nn, nn, nn, nn, nn, nn, nn, nn, nn, nn, nn, nn]) rfl (by kernel_rfl) rfl (NP.next NP.body) rfl rfl rfl (fun w' => yl_pick_f rfl rfl rfl) hS64 (fun hS65 => ?_)
      refine GH.yl (i := 4) (listed' := #[yy, yy, yy, yy, yy, nn, nn, nn, nn, nn, nn, nn, nn, nn, nn, nn, nn, nn, nn, nn, nn]) rfl (by kernel_rfl) rfl (NP.next NP.body) rfl rfl rfl (fun w' => yl_move rfl) hS65 (fun hS66 => ?_)
      refine GH.off (i := 5) (listed' := #[yy, yy, yy, yy, yy, yy, nn, nn, nn, nn, nn, nn, nn, nn, nn, nn, nn, nn, nn, nn, nn]) rfl (by kernel_rfl) rfl (NP.next NP.body) rfl rfl rfl rfl rfl hS66 (fun hS67 => ?_)
      refine GH.off (i := 6) (listed' := #[yy, yy, yy, yy, yy, yy, yy, nn, nn, nn, nn, nn, nn, nn, nn, nn, nn, nn, nn, nn, nn]) rfl (by kernel_rfl) rfl (NP.next NP.body) rfl rfl rfl rfl rfl hS67 (fun hS68 => ?_)
      refine GH.off (i := 7) (listed' := #[yy, yy, yy, yy, yy, yy, yy, yy, nn, nn, nn, nn, nn, nn, nn, nn, nn, nn, nn, nn, nn]) rfl (by kernel_rfl) rfl (NP.next NP.body) rfl rfl rfl rfl rfl hS68 (fun hS69 => ?_)
      refine GH.yl (i := 8) (listed' := #[yy, yy, yy, yy, yy, yy, yy, yy, yy, nn, nn, nn, nn, nn, nn, nn, nn, nn, nn, nn, nn]) rfl (by kernel_rfl) rfl (NP.next NP.body) rfl rfl rfl (fun w' => yl_pick_f rfl rfl rfl) hS69 (fun hS70 => ?_)
      refine GH.yl (i := 9) (listed' := #[yy, yy, yy, yy, yy, yy, yy, yy, yy, yy, nn, nn, nn, nn, nn, nn, nn, nn, nn, nn, nn]) rfl (by kernel_rfl) rfl (NP.next NP.body) rfl rfl rfl (fun w' => yl_move rfl) hS70 (fun hS71 => ?_)
      refine GH.off (i := 10) (listed' := #[yy, yy, yy, yy, yy, yy, yy, yy, yy, yy, yy, nn, nn, nn, nn, nn, nn, nn, nn, nn, nn]) rfl (by kernel_rfl) rfl (NP.next NP.body) rfl rfl rfl rfl rfl hS71 (fun hS72 => ?_)
      refine GH.off (i := 11) (listed' := #[yy, yy, yy, yy, yy, yy, yy, yy, yy, yy, yy, yy, nn, nn, nn, nn, nn, nn, nn, nn, nn]) rfl (by kernel_rfl) rfl (NP.next NP.body) rfl rfl rfl rfl rfl hS72 (fun hS73 => ?_)
      refine GH.off (i := 12) (listed' := #[yy, yy, yy, yy, yy, yy, yy, yy, yy, yy, yy, yy, yy, nn, nn, nn, nn, nn, nn, nn, nn]) rfl (by kernel_rfl) rfl (NP.next NP.body) rfl rfl rfl rfl rfl hS73 (fun hS74 => ?_)
      refine GH.off (i := 13) (listed' := #[yy, yy, yy, yy, yy, yy, yy, yy, yy, yy, yy, yy, yy, yy, nn, nn, nn, nn, nn, nn, nn]) rfl (by kernel_rfl) rfl (NP.next NP.body) rfl rfl rfl rfl rfl hS74 (fun hS75 => ?_)
      refine GH.off (i := 14) (listed' := #[yy, yy, yy, yy, yy, yy, yy, yy, yy, yy, yy, yy, yy, yy, yy, nn, nn, nn, nn, nn, nn]) rfl (by kernel_rfl) rfl (NP.next NP.body) rfl rfl rfl rfl rfl hS75 (fun hS76 => ?_)
      refine GH.yl (i := 15) (listed' := #[yy, yy, yy, yy, yy, yy, yy, yy, yy, yy, yy, yy, yy, yy, yy, yy, nn, nn, nn, nn, nn]) rfl (by kernel_rfl) rfl (NP.next NP.body) rfl rfl rfl (fun w' => yl_pick_f rfl rfl rfl) hS76 (fun hS77 => ?_)
      refine GH.yl (i := 16) (listed' := #[yy, yy, yy, yy, yy, yy, yy, yy, yy, yy, yy, yy, yy, yy, yy, yy, yy, nn, nn, nn, nn]) rfl (by kernel_rfl) rfl (NP.next NP.body) rfl rfl rfl (fun w' => yl_move rfl) hS77 (fun hS78 => ?_)
      refine GH.off (i := 17) (listed' := #[yy, yy, yy, yy, yy, yy, yy, yy, yy, yy, yy, yy, yy, yy, yy, yy, yy, yy, nn, nn, nn]) rfl (by kernel_rfl) rfl (NP.next NP.body) rfl rfl rfl rfl rfl hS78 (fun hS79 => ?_)
      refine GH.off (i := 18) (listed' := #[yy, yy, yy, yy, yy, yy, yy, yy, yy, yy, yy, yy, yy, yy, yy, yy, yy, yy, yy, nn, nn]) rfl (by kernel_rfl) rfl (NP.next NP.body) rfl rfl rfl rfl rfl hS79 (fun hS80 => ?_)
      refine GH.yl (i := 19) (listed' := #[yy, yy, yy, yy, yy, yy, yy, yy, yy, yy, yy, yy, yy, yy, yy, yy, yy, yy, yy, yy, nn]) rfl (by kernel_rfl) rfl (NP.next NP.body) rfl rfl rfl (fun w' => yl_pick_f rfl rfl rfl) hS80 (fun hS81 => ?_)
      refine GH.yl (i := 20) (listed' := #[yy, yy, yy, yy, yy, yy, yy, yy, yy, yy, yy, yy, yy, yy, yy, yy, yy, yy, yy, yy, yy]) rfl (by kernel_rfl) rfl (NP.next NP.body) rfl rfl rfl (fun w' => yl_assign rfl) hS81 (fun hS82 => ?_)
      refine GH.done (by kernel_rfl) ?_
      refine QA.then_normal ?_
      refine C.ret ?_
      refine QA.ret1 rfl rfl ?_
      obtain rfl := sp_ret1 hm
      exact ⟨rfl, (Sat.pick [] h60)⟩
  · refine G.does (does_fn 0 rfl rfl rfl en9 h14 (fun U hU hp hr hs => M_roster_Put_v_w (l := ([] : List G_api_Instance)) (i := (G_api_Instance.mk (fun _ => 0) 1 0 5 false 0 0 80 ([97] : List UInt8))) (V.nil _ _) (Nat.zero_le _) hp hy16)) rfl rfl rfl ?_
    rintro _ w85 ⟨U88, hb89, r183, r284, rfl, h87⟩
    have h86 : Sat W w85 [ow el_G_api_Instance r183 r284 31 r3_3, blk b7 (bytesV (List.ofFn (n := 20) (fun _ => 0)) ++ ([(.int .u64 2), (.int .u64 0), (.int .u32 5), (.bool false), (.int .u16 0), (.int .u16 0), (.int .u16 80), (.string (str ([97] : List UInt8)))] : List Value)) 31, blk b1 (bytesV (List.ofFn (n := 20) (fun _ => 0)) ++ ([(.int .u64 1), (.int .u64 0), (.int .u32 5), (.bool false), (.int .u16 0), (.int .u16 0), (.int .u16 80), (.string (str ([97] : List UInt8)))] : List Value)) 31] := hb89 h87
    refine G.yl (yl_move rfl) rfl rfl rfl ?_
    refine G.yl (yl_extract rfl rfl) rfl rfl rfl ?_
    refine G.yl (yl_extract rfl rfl) rfl rfl rfl ?_
    refine G.yl (yl_assign rfl) rfl rfl rfl ?_
    refine G.yl (yl_assign rfl) rfl rfl rfl ?_
    refine G.nil ?_
    refine QA.then_normal ?_
    refine C.seq ?_
    refine C.region ?_
    refine G.yl (yl_move rfl) rfl rfl rfl ?_
    refine G.yl (yl_loadN (vs := (bytesV (List.ofFn (n := 20) (fun _ => 0)) ++ ([(.int .u64 2), (.int .u64 0), (.int .u32 5), (.bool false), (.int .u16 0), (.int .u16 0), (.int .u16 80), (.string (str ([97] : List UInt8)))] : List Value))) ag31 sz31 (by simp [bytesV_length]) rfl ((Sat.pick [1] h86).isBlk.view0)) rfl rfl rfl ?_
    obtain ⟨y__3, hy90, hm⟩ := sp_bind hm
    rcases y__3 with _ | ⟨r3_4, r4_4⟩
    · refine G.does (does_fn 0 rfl rfl rfl en9 h86 (fun U hU hp hr hs => M_roster_Put_v_w (l := r3_3) (i := (G_api_Instance.mk (fun _ => 0) 2 0 5 false 0 0 80 ([97] : List UInt8))) (Rest.view hr) (Sat.own_cap h86).1 hp hy90)) rfl rfl rfl ?_
      rintro _ w91 ⟨U94, hb95, rfl, h93⟩
      have h92 : Sat W w91 [ow el_G_api_Instance r183 r284 31 r3_3, blk b7 (bytesV (List.ofFn (n := 20) (fun _ => 0)) ++ ([(.int .u64 2), (.int .u64 0), (.int .u32 5), (.bool false), (.int .u16 0), (.int .u16 0), (.int .u16 80), (.string (str ([97] : List UInt8)))] : List Value)) 31, blk b1 (bytesV (List.ofFn (n := 20) (fun _ => 0)) ++ ([(.int .u64 1), (.int .u64 0), (.int .u32 5), (.bool false), (.int .u16 0), (.int .u16 0), (.int .u16 80), (.string (str ([97] : List UInt8)))] : List Value)) 31] := hb95 h93
      refine G.yl (yl_move rfl) rfl rfl rfl ?_
      refine G.yl (yl_extract rfl rfl) rfl rfl rfl ?_
      refine G.yl (yl_extract rfl rfl) rfl rfl rfl ?_
      refine G.yl (yl_assign rfl) rfl rfl rfl ?_
      refine G.yl (yl_assign rfl) rfl rfl rfl ?_
      refine G.nil ?_
      refine QA.then_normal ?_
      refine C.seq ?_
      refine C.draw (V := fun w' => True) (nd := [2]) (sp := []) (n := 21) rfl h92 rfl rfl ?_
      intro w96 h97
      have hS98 : Cls (fun w' => True) [2] [] #[nn, nn, nn, nn, nn, nn, nn, nn, nn, nn, nn, nn, nn, nn, nn, nn, nn, nn, nn, nn, nn] w96 := Cls.keep (trivial) (by kernel_rfl)
      refine GH.yl (i := 0) (listed' := #[yy, nn, nn, nn, nn, nn, nn, nn, nn, nn, nn, nn, nn, nn, nn, nn, nn, nn, nn, nn, nn]) rfl (by kernel_rfl) rfl (NP.next NP.body) rfl rfl rfl (fun w' => yl_move rfl) hS98 (fun hS99 => ?_)
      refine GH.yl (i := 1) (listed' := #[yy, yy, nn, nn, nn, nn, nn, nn, nn, nn, nn, nn, nn, nn, nn, nn, nn, nn, nn, nn, nn]) rfl (by kernel_rfl) rfl (NP.next NP.body) rfl rfl rfl (fun w' => yl_move rfl) hS99 (fun hS100 => ?_)
      rcases sp_b hm with ⟨hc101, hm⟩ | ⟨hc101, hm⟩
      · refine GH.on (i := 2) (listed' := #[yy, yy, yy, nn, nn, nn, nn, nn, nn, nn, nn, nn, nn, nn, nn, nn, nn, nn, nn, nn, nn]) rfl (by kernel_rfl) rfl rfl (NP.next NP.body) rfl rfl rfl rfl hc101 (fun w' hw' => yl_move rfl) hS100 (fun hS102 => ?_)
        refine GH.yl (i := 3) (listed' := #[yy, yy, yy, yy, nn, nn, nn, nn, nn, nn, nn, nn, nn, nn, nn, nn, nn, nn, nn, nn, nn]) rfl (by kernel_rfl) rfl (NP.next NP.body) rfl rfl rfl (fun w' => yl_pick_t rfl hc101 rfl) hS102 (fun hS103 => ?_)
        refine GH.yl (i := 4) (listed' := #[yy, yy, yy, yy, yy, nn, nn, nn, nn, nn, nn, nn, nn, nn, nn, nn, nn, nn, nn, nn, nn]) rfl (by kernel_rfl) rfl (NP.next NP.body) rfl rfl rfl (fun w' => yl_move rfl) hS103 (fun hS104 => ?_)
        refine GH.off (i := 5) (listed' := #[yy, yy, yy, yy, yy, yy, nn, nn, nn, nn, nn, nn, nn, nn, nn, nn, nn, nn, nn, nn, nn]) rfl (by kernel_rfl) rfl (NP.next NP.body) rfl rfl rfl rfl rfl hS104 (fun hS105 => ?_)
        refine GH.off (i := 6) (listed' := #[yy, yy, yy, yy, yy, yy, yy, nn, nn, nn, nn, nn, nn, nn, nn, nn, nn, nn, nn, nn, nn]) rfl (by kernel_rfl) rfl (NP.next NP.body) rfl rfl rfl rfl rfl hS105 (fun hS106 => ?_)
        refine GH.off (i := 7) (listed' := #[yy, yy, yy, yy, yy, yy, yy, yy, nn, nn, nn, nn, nn, nn, nn, nn, nn, nn, nn, nn, nn]) rfl (by kernel_rfl) rfl (NP.next NP.body) rfl rfl rfl rfl rfl hS106 (fun hS107 => ?_)
        refine GH.yl (i := 8) (listed' := #[yy, yy, yy, yy, yy, yy, yy, yy, yy, nn, nn, nn, nn, nn, nn, nn, nn, nn, nn, nn, nn]) rfl (by kernel_rfl) rfl (NP.next NP.body) rfl rfl rfl (fun w' => yl_pick_f rfl rfl rfl) hS107 (fun hS108 => ?_)
        refine GH.yl (i := 9) (listed' := #[yy, yy, yy, yy, yy, yy, yy, yy, yy, yy, nn, nn, nn, nn, nn, nn, nn, nn, nn, nn, nn]) rfl (by kernel_rfl) rfl (NP.next NP.body) rfl rfl rfl (fun w' => yl_move rfl) hS108 (fun hS109 => ?_)
        refine GH.off (i := 10) (listed' := #[yy, yy, yy, yy, yy, yy, yy, yy, yy, yy, yy, nn, nn, nn, nn, nn, nn, nn, nn, nn, nn]) rfl (by kernel_rfl) rfl (NP.next NP.body) rfl rfl rfl rfl rfl hS109 (fun hS110 => ?_)
        refine GH.off (i := 11) (listed' := #[yy, yy, yy, yy, yy, yy, yy, yy, yy, yy, yy, yy, nn, nn, nn, nn, nn, nn, nn, nn, nn]) rfl (by kernel_rfl) rfl (NP.next NP.body) rfl rfl rfl rfl rfl hS110 (fun hS111 => ?_)
        refine GH.off (i := 12) (listed' := #[yy, yy, yy, yy, yy, yy, yy, yy, yy, yy, yy, yy, yy, nn, nn, nn, nn, nn, nn, nn, nn]) rfl (by kernel_rfl) rfl (NP.next NP.body) rfl rfl rfl rfl rfl hS111 (fun hS112 => ?_)
        refine GH.off (i := 13) (listed' := #[yy, yy, yy, yy, yy, yy, yy, yy, yy, yy, yy, yy, yy, yy, nn, nn, nn, nn, nn, nn, nn]) rfl (by kernel_rfl) rfl (NP.next NP.body) rfl rfl rfl rfl rfl hS112 (fun hS113 => ?_)
        refine GH.off (i := 14) (listed' := #[yy, yy, yy, yy, yy, yy, yy, yy, yy, yy, yy, yy, yy, yy, yy, nn, nn, nn, nn, nn, nn]) rfl (by kernel_rfl) rfl (NP.next NP.body) rfl rfl rfl rfl rfl hS113 (fun hS114 => ?_)
        refine GH.yl (i := 15) (listed' := #[yy, yy, yy, yy, yy, yy, yy, yy, yy, yy, yy, yy, yy, yy, yy, yy, nn, nn, nn, nn, nn]) rfl (by kernel_rfl) rfl (NP.next NP.body) rfl rfl rfl (fun w' => yl_pick_f rfl rfl rfl) hS114 (fun hS115 => ?_)
        refine GH.yl (i := 16) (listed' := #[yy, yy, yy, yy, yy, yy, yy, yy, yy, yy, yy, yy, yy, yy, yy, yy, yy, nn, nn, nn, nn]) rfl (by kernel_rfl) rfl (NP.next NP.body) rfl rfl rfl (fun w' => yl_move rfl) hS115 (fun hS116 => ?_)
        refine GH.off (i := 17) (listed' := #[yy, yy, yy, yy, yy, yy, yy, yy, yy, yy, yy, yy, yy, yy, yy, yy, yy, yy, nn, nn, nn]) rfl (by kernel_rfl) rfl (NP.next NP.body) rfl rfl rfl rfl rfl hS116 (fun hS117 => ?_)
        refine GH.off (i := 18) (listed' := #[yy, yy, yy, yy, yy, yy, yy, yy, yy, yy, yy, yy, yy, yy, yy, yy, yy, yy, yy, nn, nn]) rfl (by kernel_rfl) rfl (NP.next NP.body) rfl rfl rfl rfl rfl hS117 (fun hS118 => ?_)
        refine GH.yl (i := 19) (listed' := #[yy, yy, yy, yy, yy, yy, yy, yy, yy, yy, yy, yy, yy, yy, yy, yy, yy, yy, yy, yy, nn]) rfl (by kernel_rfl) rfl (NP.next NP.body) rfl rfl rfl (fun w' => yl_pick_f rfl rfl rfl) hS118 (fun hS119 => ?_)
        refine GH.yl (i := 20) (listed' := #[yy, yy, yy, yy, yy, yy, yy, yy, yy, yy, yy, yy, yy, yy, yy, yy, yy, yy, yy, yy, yy]) rfl (by kernel_rfl) rfl (NP.next NP.body) rfl rfl rfl (fun w' => yl_assign rfl) hS119 (fun hS120 => ?_)
        refine GH.done (by kernel_rfl) ?_
        refine QA.then_normal ?_
        refine C.ret ?_
        refine QA.ret1 rfl rfl ?_
        obtain rfl := sp_ret1 hm
        exact ⟨rfl, (Sat.pick [] h97)⟩
      · refine GH.off (i := 2) (listed' := #[yy, yy, yy, nn, nn, nn, nn, nn, nn, nn, nn, nn, nn, nn, nn, nn, nn, nn, nn, nn, nn]) rfl (by kernel_rfl) rfl (NP.next NP.body) rfl rfl rfl rfl hc101 hS100 (fun hS121 => ?_)
        refine GH.yl (i := 3) (listed' := #[yy, yy, yy, yy, nn, nn, nn, nn, nn, nn, nn, nn, nn, nn, nn, nn, nn, nn, nn, nn, nn]) rfl (by kernel_rfl) rfl (NP.next NP.body) rfl rfl rfl (fun w' => yl_pick_f rfl hc101 rfl) hS121 (fun hS122 => ?_)
        refine GH.yl (i := 4) (listed' := #[yy, yy, yy, yy, yy, nn, nn, nn, nn, nn, nn, nn, nn, nn, nn, nn, nn, nn, nn, nn, nn]) rfl (by kernel_rfl) rfl (NP.next NP.body) rfl rfl rfl (fun w' => yl_move rfl) hS122 (fun hS123 => ?_)
        refine GH.off (i := 5) (listed' := #[yy, yy, yy, yy, yy, yy, nn, nn, nn, nn, nn, nn, nn, nn, nn, nn, nn, nn, nn, nn, nn]) rfl (by kernel_rfl) rfl (NP.next NP.body) rfl rfl rfl rfl rfl hS123 (fun hS124 => ?_)
        refine GH.off (i := 6) (listed' := #[yy, yy, yy, yy, yy, yy, yy, nn, nn, nn, nn, nn, nn, nn, nn, nn, nn, nn, nn, nn, nn]) rfl (by kernel_rfl) rfl (NP.next NP.body) rfl rfl rfl rfl rfl hS124 (fun hS125 => ?_)
        refine GH.off (i := 7) (listed' := #[yy, yy, yy, yy, yy, yy, yy, yy, nn, nn, nn, nn, nn, nn, nn, nn, nn, nn, nn, nn, nn]) rfl (by kernel_rfl) rfl (NP.next NP.body) rfl rfl rfl rfl rfl hS125 (fun hS126 => ?_)
        refine GH.yl (i := 8) (listed' := #[yy, yy, yy, yy, yy, yy, yy, yy, yy, nn, nn, nn, nn, nn, nn, nn, nn, nn, nn, nn, nn]) rfl (by kernel_rfl) rfl (NP.next NP.body) rfl rfl rfl (fun w' => yl_pick_f rfl rfl rfl) hS126 (fun hS127 => ?_)
        refine GH.yl (i := 9) (listed' := #[yy, yy, yy, yy, yy, yy, yy, yy, yy, yy, nn, nn, nn, nn, nn, nn, nn, nn, nn, nn, nn]) rfl (by kernel_rfl) rfl (NP.next NP.body) rfl rfl rfl (fun w' => yl_move rfl) hS127 (fun hS128 => ?_)
        refine GH.off (i := 10) (listed' := #[yy, yy, yy, yy, yy, yy, yy, yy, yy, yy, yy, nn, nn, nn, nn, nn, nn, nn, nn, nn, nn]) rfl (by kernel_rfl) rfl (NP.next NP.body) rfl rfl rfl rfl rfl hS128 (fun hS129 => ?_)
        refine GH.off (i := 11) (listed' := #[yy, yy, yy, yy, yy, yy, yy, yy, yy, yy, yy, yy, nn, nn, nn, nn, nn, nn, nn, nn, nn]) rfl (by kernel_rfl) rfl (NP.next NP.body) rfl rfl rfl rfl rfl hS129 (fun hS130 => ?_)
        refine GH.off (i := 12) (listed' := #[yy, yy, yy, yy, yy, yy, yy, yy, yy, yy, yy, yy, yy, nn, nn, nn, nn, nn, nn, nn, nn]) rfl (by kernel_rfl) rfl (NP.next NP.body) rfl rfl rfl rfl rfl hS130 (fun hS131 => ?_)
        refine GH.off (i := 13) (listed' := #[yy, yy, yy, yy, yy, yy, yy, yy, yy, yy, yy, yy, yy, yy, nn, nn, nn, nn, nn, nn, nn]) rfl (by kernel_rfl) rfl (NP.next NP.body) rfl rfl rfl rfl rfl hS131 (fun hS132 => ?_)
        refine GH.off (i := 14) (listed' := #[yy, yy, yy, yy, yy, yy, yy, yy, yy, yy, yy, yy, yy, yy, yy, nn, nn, nn, nn, nn, nn]) rfl (by kernel_rfl) rfl (NP.next NP.body) rfl rfl rfl rfl rfl hS132 (fun hS133 => ?_)
        refine GH.yl (i := 15) (listed' := #[yy, yy, yy, yy, yy, yy, yy, yy, yy, yy, yy, yy, yy, yy, yy, yy, nn, nn, nn, nn, nn]) rfl (by kernel_rfl) rfl (NP.next NP.body) rfl rfl rfl (fun w' => yl_pick_f rfl rfl rfl) hS133 (fun hS134 => ?_)
        refine GH.yl (i := 16) (listed' := #[yy, yy, yy, yy, yy, yy, yy, yy, yy, yy, yy, yy, yy, yy, yy, yy, yy, nn, nn, nn, nn]) rfl (by kernel_rfl) rfl (NP.next NP.body) rfl rfl rfl (fun w' => yl_move rfl) hS134 (fun hS135 => ?_)
        refine GH.off (i := 17) (listed' := #[yy, yy, yy, yy, yy, yy, yy, yy, yy, yy, yy, yy, yy, yy, yy, yy, yy, yy, nn, nn, nn]) rfl (by kernel_rfl) rfl (NP.next NP.body) rfl rfl rfl rfl rfl hS135 (fun hS136 => ?_)
        refine GH.off (i := 18) (listed' := #[yy, yy, yy, yy, yy, yy, yy, yy, yy, yy, yy, yy, yy, yy, yy, yy, yy, yy, yy, nn, nn]) rfl (by kernel_rfl) rfl (NP.next NP.body) rfl rfl rfl rfl rfl hS136 (fun hS137 => ?_)
        refine GH.yl (i := 19) (listed' := #[yy, yy, yy, yy, yy, yy, yy, yy, yy, yy, yy, yy, yy, yy, yy, yy, yy, yy, yy, yy, nn]) rfl (by kernel_rfl) rfl (NP.next NP.body) rfl rfl rfl (fun w' => yl_pick_f rfl rfl rfl) hS137 (fun hS138 => ?_)
        refine GH.yl (i := 20) (listed' := #[yy, yy, yy, yy, yy, yy, yy, yy, yy, yy, yy, yy, yy, yy, yy, yy, yy, yy, yy, yy, yy]) rfl (by kernel_rfl) rfl (NP.next NP.body) rfl rfl rfl (fun w' => yl_assign rfl) hS138 (fun hS139 => ?_)
        refine GH.done (by kernel_rfl) ?_
        refine QA.then_normal ?_
        refine C.ret ?_
        refine QA.ret1 rfl rfl ?_
        obtain rfl := sp_ret1 hm
        exact ⟨rfl, (Sat.pick [] h97)⟩
    · refine G.does (does_fn 0 rfl rfl rfl en9 h86 (fun U hU hp hr hs => M_roster_Put_v_w (l := r3_3) (i := (G_api_Instance.mk (fun _ => 0) 2 0 5 false 0 0 80 ([97] : List UInt8))) (Rest.view hr) (Sat.own_cap h86).1 hp hy90)) rfl rfl rfl ?_
      rintro _ w142 ⟨U145, hb146, r1140, r2141, rfl, h144⟩
      have h143 : Sat W w142 [ow el_G_api_Instance r1140 r2141 31 r3_4, ow el_G_api_Instance r183 r284 31 r3_3, blk b7 (bytesV (List.ofFn (n := 20) (fun _ => 0)) ++ ([(.int .u64 2), (.int .u64 0), (.int .u32 5), (.bool false), (.int .u16 0), (.int .u16 0), (.int .u16 80), (.string (str ([97] : List UInt8)))] : List Value)) 31, blk b1 (bytesV (List.ofFn (n := 20) (fun _ => 0)) ++ ([(.int .u64 1), (.int .u64 0), (.int .u32 5), (.bool false), (.int .u16 0), (.int .u16 0), (.int .u16 80), (.string (str ([97] : List UInt8)))] : List Value)) 31] := hb146 h144
      refine G.yl (yl_move rfl) rfl rfl rfl ?_
      refine G.yl (yl_extract rfl rfl) rfl rfl rfl ?_
      refine G.yl (yl_extract rfl rfl) rfl rfl rfl ?_
      refine G.yl (yl_assign rfl) rfl rfl rfl ?_
      refine G.yl (yl_assign rfl) rfl rfl rfl ?_
      refine G.nil ?_
      refine QA.then_normal ?_
      refine C.seq ?_
      refine C.draw (V := fun w' => View w' r1140 (el_G_api_Instance.row r3_4) ∧ View w' (some ⟨b7, 0, none⟩) (bytesV (List.ofFn (n := 20) (fun _ => 0)) ++ ([(.int .u64 2), (.int .u64 0), (.int .u32 5), (.bool false), (.int .u16 0), (.int .u16 0), (.int .u16 80), (.string (str ([97] : List UInt8)))] : List Value))) (nd := [2, 5, 6, 7, 10, 11, 12, 13, 14, 17]) (sp := []) (n := 21) rfl h143 rfl rfl ?_
      intro w147 h148
      have hS149 : Cls (fun w' => View w' r1140 (el_G_api_Instance.row r3_4) ∧ View w' (some ⟨b7, 0, none⟩) (bytesV (List.ofFn (n := 20) (fun _ => 0)) ++ ([(.int .u64 2), (.int .u64 0), (.int .u32 5), (.bool false), (.int .u16 0), (.int .u16 0), (.int .u16 80), (.string (str ([97] : List UInt8)))] : List Value))) [2, 5, 6, 7, 10, 11, 12, 13, 14, 17] [] #[nn, nn, nn, nn, nn, nn, nn, nn, nn, nn, nn, nn, nn, nn, nn, nn, nn, nn, nn, nn, nn] w147 := Cls.keep (⟨(Sat.own_view h148), ((Sat.pick [2] h148).isBlk.view0)⟩) (by kernel_rfl)
      refine GH.yl (i := 0) (listed' := #[yy, nn, nn, nn, nn, nn, nn, nn, nn, nn, nn, nn, nn, nn, nn, nn, nn, nn, nn, nn, nn]) rfl (by kernel_rfl) rfl (NP.next NP.body) rfl rfl rfl (fun w' => yl_move rfl) hS149 (fun hS150 => ?_)
      refine GH.yl (i := 1) (listed' := #[yy, yy, nn, nn, nn, nn, nn, nn, nn, nn, nn, nn, nn, nn, nn, nn, nn, nn, nn, nn, nn]) rfl (by kernel_rfl) rfl (NP.next NP.body) rfl rfl rfl (fun w' => yl_move rfl) hS150 (fun hS151 => ?_)
      rcases sp_b hm with ⟨hc152, hm⟩ | ⟨hc152, hm⟩
      · refine GH.on (i := 2) (listed' := #[yy, yy, yy, nn, nn, nn, nn, nn, nn, nn, nn, nn, nn, nn, nn, nn, nn, nn, nn, nn, nn]) rfl (by kernel_rfl) rfl rfl (NP.next NP.body) rfl rfl rfl rfl hc152 (fun w' hw' => yl_move rfl) hS151 (fun hS153 => ?_)
        refine GH.yl (i := 3) (listed' := #[yy, yy, yy, yy, nn, nn, nn, nn, nn, nn, nn, nn, nn, nn, nn, nn, nn, nn, nn, nn, nn]) rfl (by kernel_rfl) rfl (NP.next NP.body) rfl rfl rfl (fun w' => yl_pick_t rfl hc152 rfl) hS153 (fun hS154 => ?_)
        refine GH.yl (i := 4) (listed' := #[yy, yy, yy, yy, yy, nn, nn, nn, nn, nn, nn, nn, nn, nn, nn, nn, nn, nn, nn, nn, nn]) rfl (by kernel_rfl) rfl (NP.next NP.body) rfl rfl rfl (fun w' => yl_move rfl) hS154 (fun hS155 => ?_)
        rcases sp_b hm with ⟨hc156, hm⟩ | ⟨hc156, hm⟩
        · refine GH.on (i := 5) (listed' := #[yy, yy, yy, yy, yy, yy, nn, nn, nn, nn, nn, nn, nn, nn, nn, nn, nn, nn, nn, nn, nn]) rfl (by kernel_rfl) rfl rfl (NP.next NP.body) rfl rfl rfl rfl hc156 (fun w' hw' => yl_move rfl) hS155 (fun hS157 => ?_)
          refine GH.on (i := 6) (listed' := #[yy, yy, yy, yy, yy, yy, yy, nn, nn, nn, nn, nn, nn, nn, nn, nn, nn, nn, nn, nn, nn]) rfl (by kernel_rfl) rfl rfl (NP.next NP.body) rfl rfl rfl rfl hc156 (fun w' hw' => yl_lenE Try.underlying22 rfl) hS157 (fun hS158 => ?_)
          refine GH.on (i := 7) (listed' := #[yy, yy, yy, yy, yy, yy, yy, yy, nn, nn, nn, nn, nn, nn, nn, nn, nn, nn, nn, nn, nn]) rfl (by kernel_rfl) rfl rfl (NP.next NP.body) rfl rfl rfl rfl hc156 (fun w' hw' => yl_eqI rfl rfl) hS158 (fun hS159 => ?_)
          refine GH.yl (i := 8) (listed' := #[yy, yy, yy, yy, yy, yy, yy, yy, yy, nn, nn, nn, nn, nn, nn, nn, nn, nn, nn, nn, nn]) rfl (by kernel_rfl) rfl (NP.next NP.body) rfl rfl rfl (fun w' => yl_pick_t rfl hc156 rfl) hS159 (fun hS160 => ?_)
          refine GH.yl (i := 9) (listed' := #[yy, yy, yy, yy, yy, yy, yy, yy, yy, yy, nn, nn, nn, nn, nn, nn, nn, nn, nn, nn, nn]) rfl (by kernel_rfl) rfl (NP.next NP.body) rfl rfl rfl (fun w' => yl_move rfl) hS160 (fun hS161 => ?_)
          rcases sp_ite hm with ⟨hc162, hm⟩ | ⟨hc162, hm⟩
          · refine GH.on (i := 10) (listed' := #[yy, yy, yy, yy, yy, yy, yy, yy, yy, yy, yy, nn, nn, nn, nn, nn, nn, nn, nn, nn, nn]) rfl (by kernel_rfl) rfl rfl (NP.next NP.body) rfl rfl rfl rfl (dec_t hc162) (fun w' hw' => yl_move rfl) hS161 (fun hS163 => ?_)
            obtain ⟨x, hy164, hm⟩ := sp_bind hm
            refine GH.on (i := 11) (listed' := #[yy, yy, yy, yy, yy, yy, yy, yy, yy, yy, yy, yy, nn, nn, nn, nn, nn, nn, nn, nn, nn]) rfl (by kernel_rfl) rfl rfl (NP.next NP.body) rfl rfl rfl rfl (dec_t hc162) (fun w' hw' => yl_ixP (l := r3_4) sl22 rfl rfl (View.isA (E := el_G_api_Instance) (Sat.own_view h148) (by decide) (at?_lt hy164)) rfl (at?_lt hy164)) hS163 (fun hS165 => ?_)
            refine GH.on (i := 12) (listed' := #[yy, yy, yy, yy, yy, yy, yy, yy, yy, yy, yy, yy, yy, nn, nn, nn, nn, nn, nn, nn, nn]) rfl (by kernel_rfl) rfl rfl (NP.next NP.body) rfl rfl rfl rfl (dec_t hc162) (fun w' hw' => yl_ldE (E := el_G_api_Instance) ag31 sz31 rfl (hw'.1) (at?_some hy164).2) hS165 (fun hS166 => ?_)
            refine GH.on (i := 13) (listed' := #[yy, yy, yy, yy, yy, yy, yy, yy, yy, yy, yy, yy, yy, yy, nn, nn, nn, nn, nn, nn, nn]) rfl (by kernel_rfl) rfl rfl (NP.next NP.body) rfl rfl rfl rfl (dec_t hc162) (fun w' hw' => yl_loadN (vs := (bytesV (List.ofFn (n := 20) (fun _ => 0)) ++ ([(.int .u64 2), (.int .u64 0), (.int .u32 5), (.bool false), (.int .u16 0), (.int .u16 0), (.int .u16 80), (.string (str ([97] : List UInt8)))] : List Value))) ag31 sz31 (by simp [bytesV_length]) rfl (hw'.2)) hS166 (fun hS167 => ?_)
            obtain ⟨hc168, hm⟩ := sp_chk hm
            refine GH.on (i := 14) (listed' := #[yy, yy, yy, yy, yy, yy, yy, yy, yy, yy, yy, yy, yy, yy, yy, nn, nn, nn, nn, nn, nn]) rfl (by kernel_rfl) rfl rfl (NP.next NP.body) rfl rfl rfl rfl (dec_t hc162) (fun w' hw' => yl_eq_agg (r := decide (x = (G_api_Instance.mk (fun _ => 0) 2 0 5 false 0 0 80 ([97] : List UInt8)))) (vs := (el_G_api_Instance.f x)) (us := (el_G_api_Instance.f (G_api_Instance.mk (fun _ => 0) 2 0 5 false 0 0 80 ([97] : List UInt8)))) rfl rfl (by rw [decide_eq_true_eq]; exact G_api_Instance_inj) eqT31.1 eqT31.2.1 eqT31.2.2.1 eqT31.2.2.2.1 eqT31.2.2.2.2 (G_api_Instance_fits x hc168) (G_api_Instance_fits (G_api_Instance.mk (fun _ => 0) 2 0 5 false 0 0 80 ([97] : List UInt8)) (by first | decide | exact Nat.zero_le _))) hS167 (fun hS169 => ?_)
            refine GH.yl (i := 15) (listed' := #[yy, yy, yy, yy, yy, yy, yy, yy, yy, yy, yy, yy, yy, yy, yy, yy, nn, nn, nn, nn, nn]) rfl (by kernel_rfl) rfl (NP.next NP.body) rfl rfl rfl (fun w' => yl_pick_t rfl (dec_t hc162) rfl) hS169 (fun hS170 => ?_)
            refine GH.yl (i := 16) (listed' := #[yy, yy, yy, yy, yy, yy, yy, yy, yy, yy, yy, yy, yy, yy, yy, yy, yy, nn, nn, nn, nn]) rfl (by kernel_rfl) rfl (NP.next NP.body) rfl rfl rfl (fun w' => yl_move rfl) hS170 (fun hS171 => ?_)
            rcases sp_ite hm with ⟨hc172, hm⟩ | ⟨hc172, hm⟩
            · refine GH.on (i := 17) (listed' := #[yy, yy, yy, yy, yy, yy, yy, yy, yy, yy, yy, yy, yy, yy, yy, yy, yy, yy, nn, nn, nn]) rfl (by kernel_rfl) rfl rfl (NP.next NP.body) rfl rfl rfl rfl (dec_t hc172) (fun w' hw' => yl_move rfl) hS171 (fun hS173 => ?_)
              obtain ⟨r1_2, hy174, hm⟩ := sp_bind hm
              refine GH.doesOn (i := 18) (listed' := #[yy, yy, yy, yy, yy, yy, yy, yy, yy, yy, yy, yy, yy, yy, yy, yy, yy, yy, yy, nn, nn]) rfl (by kernel_rfl) rfl rfl rfl (dec_t hc172) rfl rfl (does_fn 0 rfl rfl rfl en10 h148 (fun U hU hp hr hs => M_roster_Good_v_w (l := r3_4) (Rest.view hr) (Sat.own_cap h148).1 hp hy174)) ?_
              rintro _ w175 ⟨U178, hb179, rfl, h177⟩
              have h176 : Sat W w175 [ow el_G_api_Instance r1140 r2141 31 r3_4, ow el_G_api_Instance r183 r284 31 r3_3, blk b7 (bytesV (List.ofFn (n := 20) (fun _ => 0)) ++ ([(.int .u64 2), (.int .u64 0), (.int .u32 5), (.bool false), (.int .u16 0), (.int .u16 0), (.int .u16 80), (.string (str ([97] : List UInt8)))] : List Value)) 31, blk b1 (bytesV (List.ofFn (n := 20) (fun _ => 0)) ++ ([(.int .u64 1), (.int .u64 0), (.int .u32 5), (.bool false), (.int .u16 0), (.int .u16 0), (.int .u16 80), (.string (str ([97] : List UInt8)))] : List Value)) 31] := hb179 h177
              have hS180 : Cls (fun w' => View w' r1140 (el_G_api_Instance.row r3_4) ∧ View w' (some ⟨b7, 0, none⟩) (bytesV (List.ofFn (n := 20) (fun _ => 0)) ++ ([(.int .u64 2), (.int .u64 0), (.int .u32 5), (.bool false), (.int .u16 0), (.int .u16 0), (.int .u16 80), (.string (str ([97] : List UInt8)))] : List Value))) [2, 5, 6, 7, 10, 11, 12, 13, 14, 17] [] #[yy, yy, yy, yy, yy, yy, yy, yy, yy, yy, yy, yy, yy, yy, yy, yy, yy, yy, yy, nn, nn] w175 := Cls.keep (⟨(Sat.own_view h176), ((Sat.pick [2] h176).isBlk.view0)⟩) (by kernel_rfl)
              refine ⟨hS180, ?_⟩
              refine GH.yl (i := 19) (listed' := #[yy, yy, yy, yy, yy, yy, yy, yy, yy, yy, yy, yy, yy, yy, yy, yy, yy, yy, yy, yy, nn]) rfl (by kernel_rfl) rfl (NP.next NP.body) rfl rfl rfl (fun w' => yl_pick_t rfl (dec_t hc172) rfl) hS180 (fun hS181 => ?_)
              refine GH.yl (i := 20) (listed' := #[yy, yy, yy, yy, yy, yy, yy, yy, yy, yy, yy, yy, yy, yy, yy, yy, yy, yy, yy, yy, yy]) rfl (by kernel_rfl) rfl (NP.next NP.body) rfl rfl rfl (fun w' => yl_assign rfl) hS181 (fun hS182 => ?_)
              refine GH.done (by kernel_rfl) ?_
              refine QA.then_normal ?_
              refine C.ret ?_
              refine QA.ret1 rfl rfl ?_
              obtain rfl := sp_ret1 hm
              exact ⟨rfl, (Sat.pick [] h176)⟩
            · refine GH.off (i := 17) (listed' := #[yy, yy, yy, yy, yy, yy, yy, yy, yy, yy, yy, yy, yy, yy, yy, yy, yy, yy, nn, nn, nn]) rfl (by kernel_rfl) rfl (NP.next NP.body) rfl rfl rfl rfl (dec_f hc172) hS171 (fun hS183 => ?_)
              refine GH.off (i := 18) (listed' := #[yy, yy, yy, yy, yy, yy, yy, yy, yy, yy, yy, yy, yy, yy, yy, yy, yy, yy, yy, nn, nn]) rfl (by kernel_rfl) rfl (NP.next NP.body) rfl rfl rfl rfl (dec_f hc172) hS183 (fun hS184 => ?_)
              refine GH.yl (i := 19) (listed' := #[yy, yy, yy, yy, yy, yy, yy, yy, yy, yy, yy, yy, yy, yy, yy, yy, yy, yy, yy, yy, nn]) rfl (by kernel_rfl) rfl (NP.next NP.body) rfl rfl rfl (fun w' => yl_pick_f rfl (dec_f hc172) rfl) hS184 (fun hS185 => ?_)
              refine GH.yl (i := 20) (listed' := #[yy, yy, yy, yy, yy, yy, yy, yy, yy, yy, yy, yy, yy, yy, yy, yy, yy, yy, yy, yy, yy]) rfl (by kernel_rfl) rfl (NP.next NP.body) rfl rfl rfl (fun w' => yl_assign rfl) hS185 (fun hS186 => ?_)
              refine GH.done (by kernel_rfl) ?_
              refine QA.then_normal ?_
              refine C.ret ?_
              refine QA.ret1 rfl rfl ?_
              obtain rfl := sp_ret1 hm
              exact ⟨rfl, (Sat.pick [] h148)⟩
          · refine GH.off (i := 10) (listed' := #[yy, yy, yy, yy, yy, yy, yy, yy, yy, yy, yy, nn, nn, nn, nn, nn, nn, nn, nn, nn, nn]) rfl (by kernel_rfl) rfl (NP.next NP.body) rfl rfl rfl rfl (dec_f hc162) hS161 (fun hS187 => ?_)
            refine GH.off (i := 11) (listed' := #[yy, yy, yy, yy, yy, yy, yy, yy, yy, yy, yy, yy, nn, nn, nn, nn, nn, nn, nn, nn, nn]) rfl (by kernel_rfl) rfl (NP.next NP.body) rfl rfl rfl rfl (dec_f hc162) hS187 (fun hS188 => ?_)
            refine GH.off (i := 12) (listed' := #[yy, yy, yy, yy, yy, yy, yy, yy, yy, yy, yy, yy, yy, nn, nn, nn, nn, nn, nn, nn, nn]) rfl (by kernel_rfl) rfl (NP.next NP.body) rfl rfl rfl rfl (dec_f hc162) hS188 (fun hS189 => ?_)
            refine GH.off (i := 13) (listed' := #[yy, yy, yy, yy, yy, yy, yy, yy, yy, yy, yy, yy, yy, yy, nn, nn, nn, nn, nn, nn, nn]) rfl (by kernel_rfl) rfl (NP.next NP.body) rfl rfl rfl rfl (dec_f hc162) hS189 (fun hS190 => ?_)
            refine GH.off (i := 14) (listed' := #[yy, yy, yy, yy, yy, yy, yy, yy, yy, yy, yy, yy, yy, yy, yy, nn, nn, nn, nn, nn, nn]) rfl (by kernel_rfl) rfl (NP.next NP.body) rfl rfl rfl rfl (dec_f hc162) hS190 (fun hS191 => ?_)
            refine GH.yl (i := 15) (listed' := #[yy, yy, yy, yy, yy, yy, yy, yy, yy, yy, yy, yy, yy, yy, yy, yy, nn, nn, nn, nn, nn]) rfl (by kernel_rfl) rfl (NP.next NP.body) rfl rfl rfl (fun w' => yl_pick_f rfl (dec_f hc162) rfl) hS191 (fun hS192 => ?_)
            refine GH.yl (i := 16) (listed' := #[yy, yy, yy, yy, yy, yy, yy, yy, yy, yy, yy, yy, yy, yy, yy, yy, yy, nn, nn, nn, nn]) rfl (by kernel_rfl) rfl (NP.next NP.body) rfl rfl rfl (fun w' => yl_move rfl) hS192 (fun hS193 => ?_)
            refine GH.off (i := 17) (listed' := #[yy, yy, yy, yy, yy, yy, yy, yy, yy, yy, yy, yy, yy, yy, yy, yy, yy, yy, nn, nn, nn]) rfl (by kernel_rfl) rfl (NP.next NP.body) rfl rfl rfl rfl rfl hS193 (fun hS194 => ?_)
            refine GH.off (i := 18) (listed' := #[yy, yy, yy, yy, yy, yy, yy, yy, yy, yy, yy, yy, yy, yy, yy, yy, yy, yy, yy, nn, nn]) rfl (by kernel_rfl) rfl (NP.next NP.body) rfl rfl rfl rfl rfl hS194 (fun hS195 => ?_)
            refine GH.yl (i := 19) (listed' := #[yy, yy, yy, yy, yy, yy, yy, yy, yy, yy, yy, yy, yy, yy, yy, yy, yy, yy, yy, yy, nn]) rfl (by kernel_rfl) rfl (NP.next NP.body) rfl rfl rfl (fun w' => yl_pick_f rfl rfl rfl) hS195 (fun hS196 => ?_)
            refine GH.yl (i := 20) (listed' := #[yy, yy, yy, yy, yy, yy, yy, yy, yy, yy, yy, yy, yy, yy, yy, yy, yy, yy, yy, yy, yy]) rfl (by kernel_rfl) rfl (NP.next NP.body) rfl rfl rfl (fun w' => yl_assign rfl) hS196 (fun hS197 => ?_)
            refine GH.done (by kernel_rfl) ?_
            refine QA.then_normal ?_
            refine C.ret ?_
            refine QA.ret1 rfl rfl ?_
            obtain rfl := sp_ret1 hm
            exact ⟨rfl, (Sat.pick [] h148)⟩
        · refine GH.off (i := 5) (listed' := #[yy, yy, yy, yy, yy, yy, nn, nn, nn, nn, nn, nn, nn, nn, nn, nn, nn, nn, nn, nn, nn]) rfl (by kernel_rfl) rfl (NP.next NP.body) rfl rfl rfl rfl hc156 hS155 (fun hS198 => ?_)
          refine GH.off (i := 6) (listed' := #[yy, yy, yy, yy, yy, yy, yy, nn, nn, nn, nn, nn, nn, nn, nn, nn, nn, nn, nn, nn, nn]) rfl (by kernel_rfl) rfl (NP.next NP.body) rfl rfl rfl rfl hc156 hS198 (fun hS199 => ?_)
          refine GH.off (i := 7) (listed' := #[yy, yy, yy, yy, yy, yy, yy, yy, nn, nn, nn, nn, nn, nn, nn, nn, nn, nn, nn, nn, nn]) rfl (by kernel_rfl) rfl (NP.next NP.body) rfl rfl rfl rfl hc156 hS199 (fun hS200 => ?_)
          refine GH.yl (i := 8) (listed' := #[yy, yy, yy, yy, yy, yy, yy, yy, yy, nn, nn, nn, nn, nn, nn, nn, nn, nn, nn, nn, nn]) rfl (by kernel_rfl) rfl (NP.next NP.body) rfl rfl rfl (fun w' => yl_pick_f rfl hc156 rfl) hS200 (fun hS201 => ?_)
          refine GH.yl (i := 9) (listed' := #[yy, yy, yy, yy, yy, yy, yy, yy, yy, yy, nn, nn, nn, nn, nn, nn, nn, nn, nn, nn, nn]) rfl (by kernel_rfl) rfl (NP.next NP.body) rfl rfl rfl (fun w' => yl_move rfl) hS201 (fun hS202 => ?_)
          refine GH.off (i := 10) (listed' := #[yy, yy, yy, yy, yy, yy, yy, yy, yy, yy, yy, nn, nn, nn, nn, nn, nn, nn, nn, nn, nn]) rfl (by kernel_rfl) rfl (NP.next NP.body) rfl rfl rfl rfl rfl hS202 (fun hS203 => ?_)
          refine GH.off (i := 11) (listed' := #[yy, yy, yy, yy, yy, yy, yy, yy, yy, yy, yy, yy, nn, nn, nn, nn, nn, nn, nn, nn, nn]) rfl (by kernel_rfl) rfl (NP.next NP.body) rfl rfl rfl rfl rfl hS203 (fun hS204 => ?_)
          refine GH.off (i := 12) (listed' := #[yy, yy, yy, yy, yy, yy, yy, yy, yy, yy, yy, yy, yy, nn, nn, nn, nn, nn, nn, nn, nn]) rfl (by kernel_rfl) rfl (NP.next NP.body) rfl rfl rfl rfl rfl hS204 (fun hS205 => ?_)
          refine GH.off (i := 13) (listed' := #[yy, yy, yy, yy, yy, yy, yy, yy, yy, yy, yy, yy, yy, yy, nn, nn, nn, nn, nn, nn, nn]) rfl (by kernel_rfl) rfl (NP.next NP.body) rfl rfl rfl rfl rfl hS205 (fun hS206 => ?_)
          refine GH.off (i := 14) (listed' := #[yy, yy, yy, yy, yy, yy, yy, yy, yy, yy, yy, yy, yy, yy, yy, nn, nn, nn, nn, nn, nn]) rfl (by kernel_rfl) rfl (NP.next NP.body) rfl rfl rfl rfl rfl hS206 (fun hS207 => ?_)
          refine GH.yl (i := 15) (listed' := #[yy, yy, yy, yy, yy, yy, yy, yy, yy, yy, yy, yy, yy, yy, yy, yy, nn, nn, nn, nn, nn]) rfl (by kernel_rfl) rfl (NP.next NP.body) rfl rfl rfl (fun w' => yl_pick_f rfl rfl rfl) hS207 (fun hS208 => ?_)
          refine GH.yl (i := 16) (listed' := #[yy, yy, yy, yy, yy, yy, yy, yy, yy, yy, yy, yy, yy, yy, yy, yy, yy, nn, nn, nn, nn]) rfl (by kernel_rfl) rfl (NP.next NP.body) rfl rfl rfl (fun w' => yl_move rfl) hS208 (fun hS209 => ?_)
          refine GH.off (i := 17) (listed' := #[yy, yy, yy, yy, yy, yy, yy, yy, yy, yy, yy, yy, yy, yy, yy, yy, yy, yy, nn, nn, nn]) rfl (by kernel_rfl) rfl (NP.next NP.body) rfl rfl rfl rfl rfl hS209 (fun hS210 => ?_)
          refine GH.off (i := 18) (listed' := #[yy, yy, yy, yy, yy, yy, yy, yy, yy, yy, yy, yy, yy, yy, yy, yy, yy, yy, yy, nn, nn]) rfl (by kernel_rfl) rfl (NP.next NP.body) rfl rfl rfl rfl rfl hS210 (fun hS211 => ?_)
          refine GH.yl (i := 19) (listed' := #[yy, yy, yy, yy, yy, yy, yy, yy, yy, yy, yy, yy, yy, yy, yy, yy, yy, yy, yy, yy, nn]) rfl (by kernel_rfl) rfl (NP.next NP.body) rfl rfl rfl (fun w' => yl_pick_f rfl rfl rfl) hS211 (fun hS212 => ?_)
          refine GH.yl (i := 20) (listed' := #[yy, yy, yy, yy, yy, yy, yy, yy, yy, yy, yy, yy, yy, yy, yy, yy, yy, yy, yy, yy, yy]) rfl (by kernel_rfl) rfl (NP.next NP.body) rfl rfl rfl (fun w' => yl_assign rfl) hS212 (fun hS213 => ?_)
          refine GH.done (by kernel_rfl) ?_
          refine QA.then_normal ?_
          refine C.ret ?_
          refine QA.ret1 rfl rfl ?_
          obtain rfl := sp_ret1 hm
          exact ⟨rfl, (Sat.pick [] h148)⟩
      · refine GH.off (i := 2) (listed' := #[yy, yy, yy, nn, nn, nn, nn, nn, nn, nn, nn, nn, nn, nn, nn, nn, nn, nn, nn, nn, nn]) rfl (by kernel_rfl) rfl (NP.next NP.body) rfl rfl rfl rfl hc152 hS151 (fun hS214 => ?_)
        refine GH.yl (i := 3) (listed' := #[yy, yy, yy, yy, nn, nn, nn, nn, nn, nn, nn, nn, nn, nn, nn, nn, nn, nn, nn, nn, nn]) rfl (by kernel_rfl) rfl (NP.next NP.body) rfl rfl rfl (fun w' => yl_pick_f rfl hc152 rfl) hS214 (fun hS215 => ?_)
        refine GH.yl (i := 4) (listed' := #[yy, yy, yy, yy, yy, nn, nn, nn, nn, nn, nn, nn, nn, nn, nn, nn, nn, nn, nn, nn, nn]) rfl (by kernel_rfl) rfl (NP.next NP.body) rfl rfl rfl (fun w' => yl_move rfl) hS215 (fun hS216 => ?_)
        refine GH.off (i := 5) (listed' := #[yy, yy, yy, yy, yy, yy, nn, nn, nn, nn, nn, nn, nn, nn, nn, nn, nn, nn, nn, nn, nn]) rfl (by kernel_rfl) rfl (NP.next NP.body) rfl rfl rfl rfl rfl hS216 (fun hS217 => ?_)
        refine GH.off (i := 6) (listed' := #[yy, yy, yy, yy, yy, yy, yy, nn, nn, nn, nn, nn, nn, nn, nn, nn, nn, nn, nn, nn, nn]) rfl (by kernel_rfl) rfl (NP.next NP.body) rfl rfl rfl rfl rfl hS217 (fun hS218 => ?_)
        refine GH.off (i := 7) (listed' := #[yy, yy, yy, yy, yy, yy, yy, yy, nn, nn, nn, nn, nn, nn, nn, nn, nn, nn, nn, nn, nn]) rfl (by kernel_rfl) rfl (NP.next NP.body) rfl rfl rfl rfl rfl hS218 (fun hS219 => ?_)
        refine GH.yl (i := 8) (listed' := #[yy, yy, yy, yy, yy, yy, yy, yy, yy, nn, nn, nn, nn, nn, nn, nn, nn, nn, nn, nn, nn]) rfl (by kernel_rfl) rfl (NP.next NP.body) rfl rfl rfl (fun w' => yl_pick_f rfl rfl rfl) hS219 (fun hS220 => ?_)
        refine GH.yl (i := 9) (listed' := #[yy, yy, yy, yy, yy, yy, yy, yy, yy, yy, nn, nn, nn, nn, nn, nn, nn, nn, nn, nn, nn]) rfl (by kernel_rfl) rfl (NP.next NP.body) rfl rfl rfl (fun w' => yl_move rfl) hS220 (fun hS221 => ?_)
        refine GH.off (i := 10) (listed' := #[yy, yy, yy, yy, yy, yy, yy, yy, yy, yy, yy, nn, nn, nn, nn, nn, nn, nn, nn, nn, nn]) rfl (by kernel_rfl) rfl (NP.next NP.body) rfl rfl rfl rfl rfl hS221 (fun hS222 => ?_)
        refine GH.off (i := 11) (listed' := #[yy, yy, yy, yy, yy, yy, yy, yy, yy, yy, yy, yy, nn, nn, nn, nn, nn, nn, nn, nn, nn]) rfl (by kernel_rfl) rfl (NP.next NP.body) rfl rfl rfl rfl rfl hS222 (fun hS223 => ?_)
        refine GH.off (i := 12) (listed' := #[yy, yy, yy, yy, yy, yy, yy, yy, yy, yy, yy, yy, yy, nn, nn, nn, nn, nn, nn, nn, nn]) rfl (by kernel_rfl) rfl (NP.next NP.body) rfl rfl rfl rfl rfl hS223 (fun hS224 => ?_)
        refine GH.off (i := 13) (listed' := #[yy, yy, yy, yy, yy, yy, yy, yy, yy, yy, yy, yy, yy, yy, nn, nn, nn, nn, nn, nn, nn]) rfl (by kernel_rfl) rfl (NP.next NP.body) rfl rfl rfl rfl rfl hS224 (fun hS225 => ?_)
        refine GH.off (i := 14) (listed' := #[yy, yy, yy, yy, yy, yy, yy, yy, yy, yy, yy, yy, yy, yy, yy, nn, nn, nn, nn, nn, nn]) rfl (by kernel_rfl) rfl (NP.next NP.body) rfl rfl rfl rfl rfl hS225 (fun hS226 => ?_)
        refine GH.yl (i := 15) (listed' := #[yy, yy, yy, yy, yy, yy, yy, yy, yy, yy, yy, yy, yy, yy, yy, yy, nn, nn, nn, nn, nn]) rfl (by kernel_rfl) rfl (NP.next NP.body) rfl rfl rfl (fun w' => yl_pick_f rfl rfl rfl) hS226 (fun hS227 => ?_)
        refine GH.yl (i := 16) (listed' := #[yy, yy, yy, yy, yy, yy, yy, yy, yy, yy, yy, yy, yy, yy, yy, yy, yy, nn, nn, nn, nn]) rfl (by kernel_rfl) rfl (NP.next NP.body) rfl rfl rfl (fun w' => yl_move rfl) hS227 (fun hS228 => ?_)
        refine GH.off (i := 17) (listed' := #[yy, yy, yy, yy, yy, yy, yy, yy, yy, yy, yy, yy, yy, yy, yy, yy, yy, yy, nn, nn, nn]) rfl (by kernel_rfl) rfl (NP.next NP.body) rfl rfl rfl rfl rfl hS228 (fun hS229 => ?_)
        refine GH.off (i := 18) (listed' := #[yy, yy, yy, yy, yy, yy, yy, yy, yy, yy, yy, yy, yy, yy, yy, yy, yy, yy, yy, nn, nn]) rfl (by kernel_rfl) rfl (NP.next NP.body) rfl rfl rfl rfl rfl hS229 (fun hS230 => ?_)
        refine GH.yl (i := 19) (listed' := #[yy, yy, yy, yy, yy, yy, yy, yy, yy, yy, yy, yy, yy, yy, yy, yy, yy, yy, yy, yy, nn]) rfl (by kernel_rfl) rfl (NP.next NP.body) rfl rfl rfl (fun w' => yl_pick_f rfl rfl rfl) hS230 (fun hS231 => ?_)
        refine GH.yl (i := 20) (listed' := #[yy, yy, yy, yy, yy, yy, yy, yy, yy, yy, yy, yy, yy, yy, yy, yy, yy, yy, yy, yy, yy]) rfl (by kernel_rfl) rfl (NP.next NP.body) rfl rfl rfl (fun w' => yl_assign rfl) hS231 (fun hS232 => ?_)
        refine GH.done (by kernel_rfl) ?_
        refine QA.then_normal ?_
        refine C.ret ?_
        refine QA.ret1 rfl rfl ?_
        obtain rfl := sp_ret1 hm
        exact ⟨rfl, (Sat.pick [] h148)⟩
set_option maxRecDepth 20000 in
set_option maxHeartbeats 1000000 in
theorem M_roster_Merge_vv_w {W : Base} {w : World} {a : Option Addr} {c : Nat} {a2 : List G_api_Instance} {a3 : Option Addr} {c2 : Nat} {b : List G_api_Instance} (hv_a2 : V W a (el_G_api_Instance.row a2)) (hq_a2 : a2.length ≤ c) (hv_b : V W a3 (el_G_api_Instance.row b)) (hq_b : b.length ≤ c2) (h : Sat W w []) {r : Unit ⊕ (List G_api_Instance)} (hm : M_roster_Merge_vv a2 b = some r) :
    Calls Try.prog 20 #[(.slice a a2.length c), (.slice a3 b.length c2)] w (Ret fun v w' => match r with | .inl () => v = (.slice a a2.length c) ∧ Sat W w' [] | .inr r3 => ∃ r1 : Option Addr, ∃ r2 : Nat, v = (.slice r1 r3.length r2) ∧ Sat W w' [ow el_G_api_Instance r1 r2 31 r3]) := by
  unfold M_roster_Merge_vv at hm
  refine C.enter (N := 30) Try.func20 rfl Try.ntmps20 rfl ?_
  show C _ _ _ [(0, (.slice a a2.length c)), (1, (.slice a3 b.length c2))] _ _
  refine C.seq ?_
  refine C.region ?_
  refine G.yl (yl_assign rfl) rfl rfl rfl ?_
  refine G.nil ?_
  refine QA.then_normal ?_
  refine C.seq ?_
  refine C.join (γ := Bool) (fun g => match g with | t14 => [(0, (.slice a a2.length c)), (1, (.slice a3 b.length c2)), (4, (.slice none 0 0)), (14, (.bool t14))]) (fun g ww => match g with | t14 => (M_roster_Merge_vv_k1 a2 b t14 = some r) ∧ Sat W ww []) ?_ ?_
  · refine C.region ?_
    refine G.yl (yl_move rfl) rfl rfl rfl ?_
    obtain ⟨r1_2, hy1, hm⟩ := sp_bind hm
    refine G.does (does_fn 0 rfl rfl rfl en10 h (fun U hU hp hr hs => M_roster_Good_v_w (l := a2) (hs.v hv_a2) hq_a2 hp hy1)) rfl rfl rfl ?_
    rintro _ w2 ⟨U5, hb6, rfl, h4⟩
    have h3 : Sat W w2 [] := hb6 h4
    refine G.yl (yl_not rfl) rfl rfl rfl ?_
    refine G.yl (yl_move rfl) rfl rfl rfl ?_
    rcases sp_b hm with ⟨hc7, hm⟩ | ⟨hc7, hm⟩
    · refine G.on rfl rfl (not_f hc7) ?_
      refine G.yl (yl_move rfl) rfl rfl rfl ?_
      refine G.on rfl rfl (not_f hc7) ?_
      obtain ⟨r1_3, hy8, hm⟩ := sp_bind hm
      refine G.does (does_fn 0 rfl rfl rfl en10 h3 (fun U hU hp hr hs => M_roster_Good_v_w (l := b) (hs.v hv_b) hq_b hp hy8)) rfl rfl rfl ?_
      rintro _ w9 ⟨U12, hb13, rfl, h11⟩
      have h10 : Sat W w9 [] := hb13 h11
      refine G.on rfl rfl (not_f hc7) ?_
      refine G.yl (yl_not rfl) rfl rfl rfl ?_
      refine G.yl (yl_pick_f rfl (not_f hc7) rfl) rfl rfl rfl ?_
      refine G.nil ?_
      exact QA.join (!r1_3) (Sub.of ⟨rfl, rfl, rfl, rfl, trivial⟩) ⟨hm, (Sat.pick [] h10)⟩
    · refine G.offU rfl rfl (not_t hc7) rfl ?_
      refine G.offU rfl rfl (not_t hc7) rfl ?_
      refine G.offU rfl rfl (not_t hc7) rfl ?_
      refine G.yl (yl_pick_t rfl (not_t hc7) rfl) rfl rfl rfl ?_
      refine G.nil ?_
      exact QA.join true (Sub.of ⟨rfl, rfl, rfl, rfl, trivial⟩) ⟨hm, (Sat.pick [] h3)⟩
  · rintro t14 w14 ⟨hm, h15⟩
    show C _ _ _ [(0, (.slice a a2.length c)), (1, (.slice a3 b.length c2)), (4, (.slice none 0 0)), (14, (.bool t14))] _ _
    unfold M_roster_Merge_vv_k1 at hm
    rcases sp_b hm with ⟨hc16, hm⟩ | ⟨hc16, hm⟩
    · refine C.cond_t rfl hc16 ?_
      refine C.seq ?_
      refine C.region ?_
      refine G.yl (yl_move rfl) rfl rfl rfl ?_
      refine G.yl (yl_assign rfl) rfl rfl rfl ?_
      refine G.nil ?_
      refine QA.then_normal ?_
      refine C.ret ?_
      refine QA.then_ret ?_
      refine QA.ret1 rfl rfl ?_
      obtain rfl := sp_ret1 hm
      exact ⟨rfl, (Sat.pick [] h15)⟩
    · refine C.cond_f rfl hc16 ?_
      refine C.skip ?_
      refine QA.then_normal ?_
      refine C.seq ?_
      refine C.seq ?_
      refine C.region ?_
      refine G.yl (yl_move rfl) rfl rfl rfl ?_
      refine G.yl (yl_lenE Try.underlying22 rfl) rfl rfl rfl ?_
      refine G.yl (yl_move rfl) rfl rfl rfl ?_
      refine G.nil ?_
      refine QA.then_normal ?_
      refine C.block ?_
      obtain ⟨o, ho17, hm18⟩ := sp_bind hm
      refine C.left (γ := Unit ⊕ (Option Addr × Nat × List G_api_Instance)) (.exit 0) (fun g => match g with | .inl () => [(0, (.slice a a2.length c)), (4, (.slice none 0 0))] | .inr (a_4, c_3, a_5) => [(0, (.slice a_4 a_5.length c_3)), (4, (.slice none 0 0))]) (fun g ww => match g with | .inl () => .inl () = o ∧ Sat W ww [] | .inr (a_4, c_3, a_5) => .inr a_5 = o ∧ Sat W ww [ow el_G_api_Instance a_4 c_3 31 a_5]) ?_ ?_
      · refine C.loopO (γ := Int ⊕ (Option Addr × Nat × List G_api_Instance × Int)) (σ := Int ⊕ (List G_api_Instance × Int)) (fun g => match g with | .inl t18 => [(0, (.slice a a2.length c)), (4, (.slice none 0 0)), (16, (.slice a3 b.length c2)), (17, (vI (b.length : Int))), (18, (vI t18))] | .inr (a_2, c_2, a_3, t18_2) => [(0, (.slice a_2 a_3.length c_2)), (4, (.slice none 0 0)), (16, (.slice a3 b.length c2)), (17, (vI (b.length : Int))), (18, (vI t18_2))]) (fun g ww => match g with | .inl t18 => Sat W ww [] | .inr (a_2, c_2, a_3, t18_2) => Sat W ww [ow el_G_api_Instance a_2 c_2 31 a_3]) (fun g => match g with | .inl t18 => .inl t18 | .inr (a_2, c_2, a_3, t18_2) => .inr (a_3, t18_2)) (.inl 0) ho17 (Sub.of ⟨rfl, rfl, rfl, rfl, rfl, trivial⟩) (Sat.pick [] h15) ?_
        rintro (t18 | ⟨a_2, c_2, a_3, t18_2⟩) k19 w22 y_ hS21 hm hg20
        · have h23 := hS21
          show C _ _ _ [(0, (.slice a a2.length c)), (4, (.slice none 0 0)), (16, (.slice a3 b.length c2)), (17, (vI (b.length : Int))), (18, (vI t18))] _ _
          change M_roster_Merge_vv_b2 a2 b t18 = some y_ at hm
          unfold M_roster_Merge_vv_b2 at hm
          refine C.seq ?_
          refine C.region ?_
          refine G.yl (yl_ltI rfl rfl) rfl rfl rfl ?_
          refine G.nil ?_
          refine QA.then_normal ?_
          refine C.seq ?_
          rcases sp_ite hm with ⟨hc24, hm⟩ | ⟨hc24, hm⟩
          · refine C.cond_t rfl (dec_t hc24) ?_
            refine C.skip ?_
            refine QA.then_normal ?_
            refine C.seq ?_
            refine C.block ?_
            refine C.seq ?_
            refine C.region ?_
            obtain ⟨x, hy25, hm⟩ := sp_bind hm
            refine G.yl (yl_ixP (l := b) sl22 rfl rfl (View.isA (E := el_G_api_Instance) (hv_b.at_ h23) (by decide) (at?_lt hy25)) rfl (at?_lt hy25)) rfl rfl rfl ?_
            refine G.yl (yl_ldE (E := el_G_api_Instance) ag31 sz31 rfl (hv_b.at_ h23) (at?_some hy25).2) rfl rfl rfl ?_
            refine G.does (does_alloc (cs := (bytesV (List.ofFn (n := 20) (fun _ => 0)) ++ ([(.int .u64 0), (.int .u64 0), (.int .u32 0), (.bool false), (.int .u16 0), (.int .u16 0), (.int .u16 0), (.string (str ([] : List UInt8)))] : List Value))) h23 z31 rfl) rfl rfl rfl ?_
            rintro _ w27 ⟨b26, rfl, h28⟩
            refine G.unit (does_store (vs := (bytesV (List.ofFn (n := 20) x.Publisher) ++ ([(v64 x.Seq), (v64 x.Born), (v32 x.Life), (.bool x.Gone), (v16 x.Priority), (v16 x.Weight), (v16 x.Port), (.string (str x.Target))] : List Value))) h28 sz31 rfl rfl rfl (by simp [bytesV_length]) (List.forall_mem_append.2 ⟨(bytesV_one _), (List.forall_mem_cons.2 ⟨rfl, (List.forall_mem_cons.2 ⟨rfl, (List.forall_mem_cons.2 ⟨rfl, (List.forall_mem_cons.2 ⟨rfl, (List.forall_mem_cons.2 ⟨rfl, (List.forall_mem_cons.2 ⟨rfl, (List.forall_mem_cons.2 ⟨rfl, (List.forall_mem_cons.2 ⟨rfl, (fun _ hh => by cases hh)⟩)⟩)⟩)⟩)⟩)⟩)⟩)⟩)⟩) (by simp [bytesV_length])) rfl rfl ?_
            rintro _ w29 h31
            have h30 : Sat W w29 [blk b26 (bytesV (List.ofFn (n := 20) x.Publisher) ++ ([(v64 x.Seq), (v64 x.Born), (v32 x.Life), (.bool x.Gone), (v16 x.Priority), (v16 x.Weight), (v16 x.Port), (.string (str x.Target))] : List Value)) 31] := sl_blk (setN_all _ _ (by simp [bytesV_length])) h31
            refine G.nil ?_
            refine QA.then_normal ?_
            refine C.region ?_
            refine G.yl (yl_move rfl) rfl rfl rfl ?_
            refine G.yl (yl_loadN (vs := (bytesV (List.ofFn (n := 20) x.Publisher) ++ ([(v64 x.Seq), (v64 x.Born), (v32 x.Life), (.bool x.Gone), (v16 x.Priority), (v16 x.Weight), (v16 x.Port), (.string (str x.Target))] : List Value))) ag31 sz31 (by simp [bytesV_length]) rfl (h30.isBlk.view0)) rfl rfl rfl ?_
            obtain ⟨y__2, hy32, hm⟩ := sp_bind hm
            rcases y__2 with _ | ⟨r3_2, r4_2⟩
            · refine G.does (does_fn 0 rfl rfl rfl en9 h30 (fun U hU hp hr hs => M_roster_Put_v_w (l := a2) (i := x) (hs.v hv_a2) hq_a2 hp hy32)) rfl rfl rfl ?_
              rintro _ w33 ⟨U36, hb37, rfl, h35⟩
              have h34 : Sat W w33 [blk b26 (bytesV (List.ofFn (n := 20) x.Publisher) ++ ([(v64 x.Seq), (v64 x.Born), (v32 x.Life), (.bool x.Gone), (v16 x.Priority), (v16 x.Weight), (v16 x.Port), (.string (str x.Target))] : List Value)) 31] := hb37 h35
              refine G.yl (yl_move rfl) rfl rfl rfl ?_
              refine G.yl (yl_extract rfl rfl) rfl rfl rfl ?_
              refine G.yl (yl_extract rfl rfl) rfl rfl rfl ?_
              refine G.yl (yl_assign rfl) rfl rfl rfl ?_
              refine G.nil ?_
              refine QA.block_normal ?_
              refine QA.then_normal ?_
              refine C.region ?_
              obtain ⟨hc38, hm⟩ := sp_chk hm
              refine G.yl (yl_addI rfl rfl hc38) rfl rfl rfl ?_
              refine G.yl (yl_move rfl) rfl rfl rfl ?_
              refine G.nil ?_
              obtain rfl := sp_ret1 hm
              exact QA.againO (.inl (t18 + 1)) hg20 (Sub.of ⟨rfl, rfl, rfl, rfl, rfl, trivial⟩) (Sat.pick [] h34)
            · refine G.does (does_fn 0 rfl rfl rfl en9 h30 (fun U hU hp hr hs => M_roster_Put_v_w (l := a2) (i := x) (hs.v hv_a2) hq_a2 hp hy32)) rfl rfl rfl ?_
              rintro _ w41 ⟨U44, hb45, r139, r240, rfl, h43⟩
              have h42 : Sat W w41 [ow el_G_api_Instance r139 r240 31 r3_2, blk b26 (bytesV (List.ofFn (n := 20) x.Publisher) ++ ([(v64 x.Seq), (v64 x.Born), (v32 x.Life), (.bool x.Gone), (v16 x.Priority), (v16 x.Weight), (v16 x.Port), (.string (str x.Target))] : List Value)) 31] := hb45 h43
              refine G.yl (yl_move rfl) rfl rfl rfl ?_
              refine G.yl (yl_extract rfl rfl) rfl rfl rfl ?_
              refine G.yl (yl_extract rfl rfl) rfl rfl rfl ?_
              refine G.yl (yl_assign rfl) rfl rfl rfl ?_
              refine G.nil ?_
              refine QA.block_normal ?_
              refine QA.then_normal ?_
              refine C.region ?_
              obtain ⟨hc46, hm⟩ := sp_chk hm
              refine G.yl (yl_addI rfl rfl hc46) rfl rfl rfl ?_
              refine G.yl (yl_move rfl) rfl rfl rfl ?_
              refine G.nil ?_
              obtain rfl := sp_ret1 hm
              exact QA.againO (.inr (r139, r240, r3_2, t18 + 1)) hg20 (Sub.of ⟨rfl, rfl, rfl, rfl, rfl, trivial⟩) (Sat.pick [0] h42)
          · refine C.cond_f rfl (dec_f hc24) ?_
            refine C.exit ?_
            refine QA.then_exit ?_
            refine QA.then_exit ?_
            obtain rfl := sp_ret1 hm
            exact QA.left (.inl ()) (Sub.of ⟨rfl, rfl, trivial⟩) ⟨hg20, (Sat.pick [] h23)⟩
        · have h47 := hS21
          show C _ _ _ [(0, (.slice a_2 a_3.length c_2)), (4, (.slice none 0 0)), (16, (.slice a3 b.length c2)), (17, (vI (b.length : Int))), (18, (vI t18_2))] _ _
          change M_roster_Merge_vv_b3 b a_3 t18_2 = some y_ at hm
          unfold M_roster_Merge_vv_b3 at hm
          refine C.seq ?_
          refine C.region ?_
          refine G.yl (yl_ltI rfl rfl) rfl rfl rfl ?_
          refine G.nil ?_
          refine QA.then_normal ?_
          refine C.seq ?_
          rcases sp_ite hm with ⟨hc48, hm⟩ | ⟨hc48, hm⟩
          · refine C.cond_t rfl (dec_t hc48) ?_
            refine C.skip ?_
            refine QA.then_normal ?_
            refine C.seq ?_
            refine C.block ?_
            refine C.seq ?_
            refine C.region ?_
            obtain ⟨x_2, hy49, hm⟩ := sp_bind hm
            refine G.yl (yl_ixP (l := b) sl22 rfl rfl (View.isA (E := el_G_api_Instance) (hv_b.at_ h47) (by decide) (at?_lt hy49)) rfl (at?_lt hy49)) rfl rfl rfl ?_
            refine G.yl (yl_ldE (E := el_G_api_Instance) ag31 sz31 rfl (hv_b.at_ h47) (at?_some hy49).2) rfl rfl rfl ?_
            refine G.does (does_alloc (cs := (bytesV (List.ofFn (n := 20) (fun _ => 0)) ++ ([(.int .u64 0), (.int .u64 0), (.int .u32 0), (.bool false), (.int .u16 0), (.int .u16 0), (.int .u16 0), (.string (str ([] : List UInt8)))] : List Value))) h47 z31 rfl) rfl rfl rfl ?_
            rintro _ w51 ⟨b50, rfl, h52⟩
            refine G.unit (does_store (vs := (bytesV (List.ofFn (n := 20) x_2.Publisher) ++ ([(v64 x_2.Seq), (v64 x_2.Born), (v32 x_2.Life), (.bool x_2.Gone), (v16 x_2.Priority), (v16 x_2.Weight), (v16 x_2.Port), (.string (str x_2.Target))] : List Value))) h52 sz31 rfl rfl rfl (by simp [bytesV_length]) (List.forall_mem_append.2 ⟨(bytesV_one _), (List.forall_mem_cons.2 ⟨rfl, (List.forall_mem_cons.2 ⟨rfl, (List.forall_mem_cons.2 ⟨rfl, (List.forall_mem_cons.2 ⟨rfl, (List.forall_mem_cons.2 ⟨rfl, (List.forall_mem_cons.2 ⟨rfl, (List.forall_mem_cons.2 ⟨rfl, (List.forall_mem_cons.2 ⟨rfl, (fun _ hh => by cases hh)⟩)⟩)⟩)⟩)⟩)⟩)⟩)⟩)⟩) (by simp [bytesV_length])) rfl rfl ?_
            rintro _ w53 h55
            have h54 : Sat W w53 [blk b50 (bytesV (List.ofFn (n := 20) x_2.Publisher) ++ ([(v64 x_2.Seq), (v64 x_2.Born), (v32 x_2.Life), (.bool x_2.Gone), (v16 x_2.Priority), (v16 x_2.Weight), (v16 x_2.Port), (.string (str x_2.Target))] : List Value)) 31, ow el_G_api_Instance a_2 c_2 31 a_3] := sl_blk (setN_all _ _ (by simp [bytesV_length])) h55
            refine G.nil ?_
            refine QA.then_normal ?_
            refine C.region ?_
            refine G.yl (yl_move rfl) rfl rfl rfl ?_
            refine G.yl (yl_loadN (vs := (bytesV (List.ofFn (n := 20) x_2.Publisher) ++ ([(v64 x_2.Seq), (v64 x_2.Born), (v32 x_2.Life), (.bool x_2.Gone), (v16 x_2.Priority), (v16 x_2.Weight), (v16 x_2.Port), (.string (str x_2.Target))] : List Value))) ag31 sz31 (by simp [bytesV_length]) rfl (h54.isBlk.view0)) rfl rfl rfl ?_
            obtain ⟨y__3, hy56, hm⟩ := sp_bind hm
            rcases y__3 with _ | ⟨r3_3, r4_3⟩
            · refine G.does (does_fn 0 rfl rfl rfl en9 h54 (fun U hU hp hr hs => M_roster_Put_v_w (l := a_3) (i := x_2) (Rest.view (Rest.front 1 hr)) (Sat.own_cap (Sat.pick [1] h54)).1 hp hy56)) rfl rfl rfl ?_
              rintro _ w57 ⟨U60, hb61, rfl, h59⟩
              have h58 : Sat W w57 [blk b50 (bytesV (List.ofFn (n := 20) x_2.Publisher) ++ ([(v64 x_2.Seq), (v64 x_2.Born), (v32 x_2.Life), (.bool x_2.Gone), (v16 x_2.Priority), (v16 x_2.Weight), (v16 x_2.Port), (.string (str x_2.Target))] : List Value)) 31, ow el_G_api_Instance a_2 c_2 31 a_3] := hb61 h59
              refine G.yl (yl_move rfl) rfl rfl rfl ?_
              refine G.yl (yl_extract rfl rfl) rfl rfl rfl ?_
              refine G.yl (yl_extract rfl rfl) rfl rfl rfl ?_
              refine G.yl (yl_assign rfl) rfl rfl rfl ?_
              refine G.nil ?_
              refine QA.block_normal ?_
              refine QA.then_normal ?_
              refine C.region ?_
              obtain ⟨hc62, hm⟩ := sp_chk hm
              refine G.yl (yl_addI rfl rfl hc62) rfl rfl rfl ?_
              refine G.yl (yl_move rfl) rfl rfl rfl ?_
              refine G.nil ?_
              obtain rfl := sp_ret1 hm
              exact QA.againO (.inr (a_2, c_2, a_3, t18_2 + 1)) hg20 (Sub.of ⟨rfl, rfl, rfl, rfl, rfl, trivial⟩) (Sat.pick [1] h58)
            · refine G.does (does_fn 0 rfl rfl rfl en9 h54 (fun U hU hp hr hs => M_roster_Put_v_w (l := a_3) (i := x_2) (Rest.view (Rest.front 1 hr)) (Sat.own_cap (Sat.pick [1] h54)).1 hp hy56)) rfl rfl rfl ?_
              rintro _ w65 ⟨U68, hb69, r163, r264, rfl, h67⟩
              have h66 : Sat W w65 [ow el_G_api_Instance r163 r264 31 r3_3, blk b50 (bytesV (List.ofFn (n := 20) x_2.Publisher) ++ ([(v64 x_2.Seq), (v64 x_2.Born), (v32 x_2.Life), (.bool x_2.Gone), (v16 x_2.Priority), (v16 x_2.Weight), (v16 x_2.Port), (.string (str x_2.Target))] : List Value)) 31, ow el_G_api_Instance a_2 c_2 31 a_3] := hb69 h67
              refine G.yl (yl_move rfl) rfl rfl rfl ?_
              refine G.yl (yl_extract rfl rfl) rfl rfl rfl ?_
              refine G.yl (yl_extract rfl rfl) rfl rfl rfl ?_
              refine G.yl (yl_assign rfl) rfl rfl rfl ?_
              refine G.nil ?_
              refine QA.block_normal ?_
              refine QA.then_normal ?_
              refine C.region ?_
              obtain ⟨hc70, hm⟩ := sp_chk hm
              refine G.yl (yl_addI rfl rfl hc70) rfl rfl rfl ?_
              refine G.yl (yl_move rfl) rfl rfl rfl ?_
              refine G.nil ?_
              obtain rfl := sp_ret1 hm
              exact QA.againO (.inr (r163, r264, r3_3, t18_2 + 1)) hg20 (Sub.of ⟨rfl, rfl, rfl, rfl, rfl, trivial⟩) (Sat.pick [0] h66)
          · refine C.cond_f rfl (dec_f hc48) ?_
            refine C.exit ?_
            refine QA.then_exit ?_
            refine QA.then_exit ?_
            obtain rfl := sp_ret1 hm
            exact QA.left (.inr (a_2, c_2, a_3)) (Sub.of ⟨rfl, rfl, trivial⟩) ⟨hg20, (Sat.pick [0] h47)⟩
      · rintro (_ | ⟨a_4, c_3, a_5⟩) w71 hS72
        · obtain ⟨rfl, h73⟩ := hS72
          have hm := hm18
          show QA _ _ [(0, (.slice a a2.length c)), (4, (.slice none 0 0))] _ _
          refine QA.block_here ?_
          refine QA.then_normal ?_
          refine C.seq ?_
          refine C.region ?_
          refine G.yl (yl_move rfl) rfl rfl rfl ?_
          refine G.yl (yl_assign rfl) rfl rfl rfl ?_
          refine G.nil ?_
          refine QA.then_normal ?_
          refine C.ret ?_
          refine QA.ret1 rfl rfl ?_
          obtain rfl := sp_ret1 hm
          exact ⟨rfl, (Sat.pick [] h73)⟩
        · obtain ⟨rfl, h74⟩ := hS72
          have hm := hm18
          show QA _ _ [(0, (.slice a_4 a_5.length c_3)), (4, (.slice none 0 0))] _ _
          refine QA.block_here ?_
          refine QA.then_normal ?_
          refine C.seq ?_
          refine C.region ?_
          refine G.yl (yl_move rfl) rfl rfl rfl ?_
          refine G.yl (yl_assign rfl) rfl rfl rfl ?_
          refine G.nil ?_
          refine QA.then_normal ?_
          refine C.ret ?_
          refine QA.ret1 rfl rfl ?_
          obtain rfl := sp_ret1 hm
          exact ⟨a_4, c_3, rfl, (Sat.pick [0] h74)⟩
end Go.Proofs.Ytmjcemhojhbijaa
