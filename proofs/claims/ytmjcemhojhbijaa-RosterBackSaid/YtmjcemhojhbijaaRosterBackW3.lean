/-
  That the functions of the program compute what their Lean functions say, part 3. No condition.
-/
import Derived.Test.YtmjcemhojhbijaaRosterBackW2
namespace Go.Proofs.Ytmjcemhojhbijaa
open Go Go.RowKit
set_option linter.unusedVariables false
set_option linter.unusedSimpArgs false
set_option linter.unnecessarySimpa false
set_option maxRecDepth 20000 in
set_option maxHeartbeats 1000000 in
theorem M_roster_Bytes_v_w {W : Base} {w : World} {a : Option Addr} {c : Nat} {l : List G_api_Instance} (hv_l : V W a (el_G_api_Instance.row l)) (hq_l : l.length ≤ c) (h : Sat W w []) {r3 : List UInt8} {r4 : Int} (hm : M_roster_Bytes_v l = some (r3, r4)) :
    Calls Try.prog 14 #[(.slice a l.length c)] w (Ret fun v w' => ∃ r1 : Option Addr, ∃ r2 : Nat, v = (.tuple #[(.slice r1 r3.length r2), (vI r4)]) ∧ Sat W w' [ow elU8 r1 r2 5 r3]) := by
  unfold M_roster_Bytes_v at hm
  refine C.enter (N := 32) Try.func14 rfl Try.ntmps14 rfl ?_
  show C _ _ _ [(0, (.slice a l.length c))] _ _
  refine C.seq ?_
  refine C.region ?_
  refine G.yl (yl_assign rfl) rfl rfl rfl ?_
  refine G.yl (yl_assign rfl) rfl rfl rfl ?_
  refine G.nil ?_
  refine QA.then_normal ?_
  refine C.seq ?_
  refine C.seq ?_
  refine C.region ?_
  refine G.yl (yl_move rfl) rfl rfl rfl ?_
  obtain ⟨r1_2, hy1, hm⟩ := sp_bind hm
  refine G.does (does_fn 0 rfl rfl rfl en10 h (fun U hU hp hr hs => M_roster_Good_v_w (l := l) (hs.v hv_l) hq_l hp hy1)) rfl rfl rfl ?_
  rintro _ w2 ⟨U5, hb6, rfl, h4⟩
  have h3 : Sat W w2 [] := hb6 h4
  refine G.yl (yl_not rfl) rfl rfl rfl ?_
  refine G.nil ?_
  refine QA.then_normal ?_
  rcases sp_b hm with ⟨hc7, hm⟩ | ⟨hc7, hm⟩
  · refine C.cond_f rfl (not_f hc7) ?_
    refine C.skip ?_
    refine QA.then_normal ?_
    refine C.seq ?_
    refine C.region ?_
    refine G.yl (yl_move rfl) rfl rfl rfl ?_
    refine G.yl (yl_lenE Try.underlying22 rfl) rfl rfl rfl ?_
    refine G.yl (yl_I64 us3 Try.underlying27 rfl) rfl rfl rfl ?_
    obtain ⟨r3_2, hy8, hm⟩ := sp_bind hm
    refine G.does (does_fn 0 rfl rfl rfl en39 h3 (fun U hU hp hr hs => M_octet_Put_v_w (b := ([] : List UInt8)) (n := UInt64.ofInt (l.length : Int)) (width := 1) (V.nil _ _) (Nat.zero_le _) hp hy8)) rfl rfl rfl ?_
    rintro _ w11 ⟨U14, hb15, r19, r210, rfl, h13⟩
    have h12 : Sat W w11 [ow elU8 r19 r210 5 r3_2] := hb15 h13
    refine G.yl (yl_assign rfl) rfl rfl rfl ?_
    refine G.nil ?_
    refine QA.then_normal ?_
    refine C.seq ?_
    refine C.seq ?_
    refine C.region ?_
    refine G.yl (yl_move rfl) rfl rfl rfl ?_
    refine G.yl (yl_lenE Try.underlying22 rfl) rfl rfl rfl ?_
    refine G.yl (yl_move rfl) rfl rfl rfl ?_
    refine G.nil ?_
    refine QA.then_normal ?_
    refine C.block ?_
    obtain ⟨o, ho16, hm17⟩ := sp_bind hm
    refine C.left (γ := Option Addr × Nat × List UInt8) (.exit 0) (fun g => match g with | (a_3, c_3, out_2) => [(2, (.slice none 0 0)), (3, (vI 0)), (4, (.slice a_3 out_2.length c_3))]) (fun g ww => match g with | (a_3, c_3, out_2) => out_2 = o ∧ Sat W ww [ow elU8 a_3 c_3 5 out_2]) ?_ ?_
    · refine C.loopO (γ := Option Addr × Nat × List UInt8 × Int) (fun g => match g with | (a_2, c_2, out, t18) => [(2, (.slice none 0 0)), (3, (vI 0)), (4, (.slice a_2 out.length c_2)), (16, (.slice a l.length c)), (17, (vI (l.length : Int))), (18, (vI t18))]) (fun g ww => match g with | (a_2, c_2, out, t18) => Sat W ww [ow elU8 a_2 c_2 5 out]) (fun g => match g with | (a_2, c_2, out, t18) => (out, t18)) (r19, r210, r3_2, 0) ho16 (Sub.of ⟨rfl, rfl, rfl, rfl, rfl, rfl, trivial⟩) (Sat.pick [0] h12) ?_
      rintro ⟨a_2, c_2, out, t18⟩ k20 w18 y_ h19 hm hg21
      show C _ _ _ [(2, (.slice none 0 0)), (3, (vI 0)), (4, (.slice a_2 out.length c_2)), (16, (.slice a l.length c)), (17, (vI (l.length : Int))), (18, (vI t18))] _ _
      change M_roster_Bytes_v_b1 l out t18 = some y_ at hm
      unfold M_roster_Bytes_v_b1 at hm
      refine C.seq ?_
      refine C.region ?_
      refine G.yl (yl_ltI rfl rfl) rfl rfl rfl ?_
      refine G.nil ?_
      refine QA.then_normal ?_
      refine C.seq ?_
      rcases sp_ite hm with ⟨hc22, hm⟩ | ⟨hc22, hm⟩
      · refine C.cond_t rfl (dec_t hc22) ?_
        refine C.skip ?_
        refine QA.then_normal ?_
        refine C.seq ?_
        refine C.block ?_
        refine C.seq ?_
        refine C.region ?_
        obtain ⟨x, hy23, hm⟩ := sp_bind hm
        refine G.yl (yl_ixP (l := l) sl22 rfl rfl (View.isA (E := el_G_api_Instance) (hv_l.at_ h19) (by decide) (at?_lt hy23)) rfl (at?_lt hy23)) rfl rfl rfl ?_
        refine G.yl (yl_ldE (E := el_G_api_Instance) ag31 sz31 rfl (hv_l.at_ h19) (at?_some hy23).2) rfl rfl rfl ?_
        refine G.does (does_alloc (cs := (bytesV (List.ofFn (n := 20) (fun _ => 0)) ++ ([(.int .u64 0), (.int .u64 0), (.int .u32 0), (.bool false), (.int .u16 0), (.int .u16 0), (.int .u16 0), (.string (str ([] : List UInt8)))] : List Value))) h19 z31 rfl) rfl rfl rfl ?_
        rintro _ w25 ⟨b24, rfl, h26⟩
        refine G.unit (does_store (vs := (bytesV (List.ofFn (n := 20) x.Publisher) ++ ([(v64 x.Seq), (v64 x.Born), (v32 x.Life), (.bool x.Gone), (v16 x.Priority), (v16 x.Weight), (v16 x.Port), (.string (str x.Target))] : List Value))) h26 sz31 rfl rfl rfl (by simp [bytesV_length]) (List.forall_mem_append.2 ⟨(bytesV_one _), (List.forall_mem_cons.2 ⟨rfl, (List.forall_mem_cons.2 ⟨rfl, (List.forall_mem_cons.2 ⟨rfl, (List.forall_mem_cons.2 ⟨rfl, (List.forall_mem_cons.2 ⟨rfl, (List.forall_mem_cons.2 ⟨rfl, (List.forall_mem_cons.2 ⟨rfl, (List.forall_mem_cons.2 ⟨rfl, (fun _ hh => by cases hh)⟩)⟩)⟩)⟩)⟩)⟩)⟩)⟩)⟩) (by simp [bytesV_length])) rfl rfl ?_
        rintro _ w27 h29
        have h28 : Sat W w27 [blk b24 (bytesV (List.ofFn (n := 20) x.Publisher) ++ ([(v64 x.Seq), (v64 x.Born), (v32 x.Life), (.bool x.Gone), (v16 x.Priority), (v16 x.Weight), (v16 x.Port), (.string (str x.Target))] : List Value)) 31, ow elU8 a_2 c_2 5 out] := sl_blk (setN_all _ _ (by simp [bytesV_length])) h29
        refine G.nil ?_
        refine QA.then_normal ?_
        refine C.seq ?_
        refine C.region ?_
        refine G.yl (yl_loadN (vs := (bytesV (List.ofFn (n := 20) x.Publisher) ++ ([(v64 x.Seq), (v64 x.Born), (v32 x.Life), (.bool x.Gone), (v16 x.Priority), (v16 x.Weight), (v16 x.Port), (.string (str x.Target))] : List Value))) ag31 sz31 (by simp [bytesV_length]) rfl (h28.isBlk.view0)) rfl rfl rfl ?_
        obtain ⟨⟨r3_3, r4_2⟩, hy30, hm⟩ := sp_bind hm
        refine G.does (does_fn 0 rfl rfl rfl en40 h28 (fun U hU hp hr hs => M_inst_Bytes_w (i := x) hp hy30)) rfl rfl rfl ?_
        rintro _ w33 ⟨U36, hb37, r131, r232, rfl, h35⟩
        have h34 : Sat W w33 [ow elU8 r131 r232 5 r3_3, blk b24 (bytesV (List.ofFn (n := 20) x.Publisher) ++ ([(v64 x.Seq), (v64 x.Born), (v32 x.Life), (.bool x.Gone), (v16 x.Priority), (v16 x.Weight), (v16 x.Port), (.string (str x.Target))] : List Value)) 31, ow elU8 a_2 c_2 5 out] := hb37 h35
        refine G.yl (yl_move rfl) rfl rfl rfl ?_
        refine G.yl (yl_extract rfl rfl) rfl rfl rfl ?_
        refine G.yl (yl_extract rfl rfl) rfl rfl rfl ?_
        refine G.yl (yl_assign rfl) rfl rfl rfl ?_
        refine G.yl (yl_assign rfl) rfl rfl rfl ?_
        refine G.nil ?_
        refine QA.then_normal ?_
        refine C.region ?_
        refine G.yl (yl_move rfl) rfl rfl rfl ?_
        refine G.yl (yl_move rfl) rfl rfl rfl ?_
        obtain ⟨hc38, hm⟩ := sp_chk hm
        refine G.does (does_app (E := elU8) (l := out) (l2 := r3_3) Try.underlying39 el5 (Sat.pick [2, 0, 0] h34) rfl rfl rfl rfl (by decide) (Sat.own_view h34) hc38 (by decide)) rfl rfl rfl ?_
        rintro _ w41 ⟨a39, c40, rfl, h42⟩
        refine G.yl (yl_assign rfl) rfl rfl rfl ?_
        refine G.nil ?_
        refine QA.block_normal ?_
        refine QA.then_normal ?_
        refine C.region ?_
        obtain ⟨hc43, hm⟩ := sp_chk hm
        refine G.yl (yl_addI rfl rfl hc43) rfl rfl rfl ?_
        refine G.yl (yl_move rfl) rfl rfl rfl ?_
        refine G.nil ?_
        obtain rfl := sp_ret1 hm
        exact QA.againO (a39, c40, out ++ r3_3, t18 + 1) hg21 (Sub.of ⟨rfl, rfl, rfl, rfl, rfl, rfl, trivial⟩) (Sat.pick [0] h42)
      · refine C.cond_f rfl (dec_f hc22) ?_
        refine C.exit ?_
        refine QA.then_exit ?_
        refine QA.then_exit ?_
        obtain rfl := sp_ret1 hm
        exact QA.left (a_2, c_2, out) (Sub.of ⟨rfl, rfl, rfl, trivial⟩) ⟨hg21, (Sat.pick [0] h19)⟩
    · rintro ⟨a_3, c_3, out_2⟩ w44 ⟨rfl, h45⟩
      have hm := hm17
      show QA _ _ [(2, (.slice none 0 0)), (3, (vI 0)), (4, (.slice a_3 out_2.length c_3))] _ _
      refine QA.block_here ?_
      refine QA.then_normal ?_
      refine C.seq ?_
      refine C.region ?_
      refine G.yl (yl_move rfl) rfl rfl rfl ?_
      refine G.yl (yl_assign rfl) rfl rfl rfl ?_
      refine G.yl (yl_assign rfl) rfl rfl rfl ?_
      refine G.nil ?_
      refine QA.then_normal ?_
      refine C.ret ?_
      refine QA.ret2 rfl rfl rfl ?_
      obtain ⟨rfl, rfl⟩ := sp_ret2 hm
      exact ⟨a_3, c_3, rfl, (Sat.pick [0] h45)⟩
  · refine C.cond_t rfl (not_t hc7) ?_
    refine C.seq ?_
    refine C.region ?_
    refine G.yl (yl_assign rfl) rfl rfl rfl ?_
    refine G.yl (yl_assign rfl) rfl rfl rfl ?_
    refine G.nil ?_
    refine QA.then_normal ?_
    refine C.ret ?_
    refine QA.then_ret ?_
    refine QA.ret2 rfl rfl rfl ?_
    obtain ⟨rfl, rfl⟩ := sp_ret2 hm
    exact ⟨none, 0, rfl, (Sat.pick [0] (Sat.own_zero h3 elU8 none 5))⟩
set_option maxRecDepth 20000 in
set_option maxHeartbeats 1000000 in
theorem M_octet_Open_v_w {W : Base} {w : World} {a : Option Addr} {c : Nat} {b : List UInt8} (hv_b : V W a (elU8.row b)) (hq_b : b.length ≤ c) (h : Sat W w [])  (hm : M_octet_Open_v b = some ()) :
    Calls Try.prog 15 #[(.slice a b.length c)] w (Ret fun v w' => ∃ r1 : Nat, ∃ r2 : Option Addr, ∃ r3 : Nat, v = (.pointer (some ⟨r1, 0, none⟩)) ∧ Sat W w' [blk r1 [(.slice r2 ((([] : List UInt8) ++ b).length) r3), (.bool true), (.bool false)] 72, ow elU8 r2 r3 5 (([] : List UInt8) ++ b)]) := by
  unfold M_octet_Open_v at hm
  refine C.enter (N := 9) Try.func15 rfl Try.ntmps15 rfl ?_
  show C _ _ _ [(0, (.slice a b.length c))] _ _
  refine C.seq ?_
  refine C.region ?_
  refine G.yl (yl_assign rfl) rfl rfl rfl ?_
  refine G.nil ?_
  refine QA.then_normal ?_
  refine C.seq ?_
  refine C.region ?_
  refine G.does (does_lit (E := elU8) (l := ([] : List UInt8)) (vs := []) (cs := []) (e := 5) h rfl (by kernel_rfl) rfl rfl (by decide)) rfl rfl rfl ?_
  rintro _ w2 ⟨a1, rfl, h3⟩
  refine G.yl (yl_move rfl) rfl rfl rfl ?_
  obtain ⟨hc4, hm⟩ := sp_chk hm
  refine G.does (does_app (E := elU8) (l := ([] : List UInt8)) (l2 := b) Try.underlying39 el5 (Sat.own_zero h3 elU8 a1 5) rfl rfl rfl rfl (by decide) (hv_b.at_ h3) hc4 (by decide)) rfl rfl rfl ?_
  rintro _ w7 ⟨a5, c6, rfl, h8⟩
  refine G.yl (yl_build (vs := [(.slice a5 ((([] : List UInt8) ++ b).length) c6), (.bool true)]) (cells := #[(.slice a5 ((([] : List UInt8) ++ b).length) c6), (.bool true), (.bool false)]) rfl (by kernel_rfl)) rfl rfl rfl ?_
  refine G.yl (yl_build (vs := [(.agg #[(.slice a5 ((([] : List UInt8) ++ b).length) c6), (.bool true), (.bool false)])]) (cells := #[(.slice a5 ((([] : List UInt8) ++ b).length) c6), (.bool true), (.bool false)]) rfl (by kernel_rfl)) rfl rfl rfl ?_
  refine G.does (does_box (cs := [(.slice a5 ((([] : List UInt8) ++ b).length) c6), (.bool true), (.bool false)]) h8 rfl rfl) rfl rfl rfl ?_
  rintro _ w10 ⟨b9, rfl, h11⟩
  refine G.yl (yl_assign rfl) rfl rfl rfl ?_
  refine G.nil ?_
  refine QA.then_normal ?_
  refine C.ret ?_
  refine QA.ret1 rfl rfl ?_
  exact ⟨b9, a5, c6, rfl, (Sat.pick [0, 0] h11)⟩
set_option maxRecDepth 20000 in
set_option maxHeartbeats 1000000 in
theorem M_octet_Reader_none_po_w {W : Base} {w : World} {b : Nat} {a : Option Addr} {c : Nat} {b2 : List UInt8} {open_ : Bool} {bad : Bool}  (h : Sat W w [blk b [(.slice a b2.length c), (.bool open_), (.bool bad)] 72, ow elU8 a c 5 b2])  (hm : M_octet_Reader_none_po b2 open_ bad = some ()) :
    Calls Try.prog 44 #[(.pointer (some ⟨b, 0, none⟩))] w (Ret fun v w' => v = (.bool (!open_)) ∧ Sat W w' [blk b [(.slice a b2.length c), (.bool open_), (.bool bad)] 72, ow elU8 a c 5 b2]) := by
  unfold M_octet_Reader_none_po at hm
  refine C.enter (N := 13) Try.func44 rfl Try.ntmps44 rfl ?_
  show C _ _ _ [(0, (.pointer (some ⟨b, 0, none⟩)))] _ _
  refine C.seq ?_
  refine C.region ?_
  refine G.yl (yl_assign rfl) rfl rfl rfl ?_
  refine G.nil ?_
  refine QA.then_normal ?_
  refine C.seq ?_
  refine C.region ?_
  refine G.yl (yl_move rfl) rfl rfl rfl ?_
  refine G.yl (yl_eq_nil np43 rfl rfl) rfl rfl rfl ?_
  refine G.yl (yl_move rfl) rfl rfl rfl ?_
  refine G.on rfl rfl rfl ?_
  refine G.yl (yl_move rfl) rfl rfl rfl ?_
  refine G.on rfl rfl rfl ?_
  refine G.yl (yl_nilCheck rfl) rfl rfl rfl ?_
  refine G.on rfl rfl rfl ?_
  refine G.yl (yl_fieldAddr fo72_0 rfl) rfl rfl rfl ?_
  refine G.on rfl rfl rfl ?_
  refine G.yl (yl_fieldAddr fo70_1 rfl) rfl rfl rfl ?_
  refine G.on rfl rfl rfl ?_
  refine G.yl (yl_load (v := (.bool open_)) ag4 rfl (View.at0 (j := 1) h.isBlk.view0 rfl)) rfl rfl rfl ?_
  refine G.on rfl rfl rfl ?_
  refine G.yl (yl_not rfl) rfl rfl rfl ?_
  refine G.yl (yl_pick_f rfl rfl rfl) rfl rfl rfl ?_
  refine G.yl (yl_assign rfl) rfl rfl rfl ?_
  refine G.nil ?_
  refine QA.then_normal ?_
  refine C.ret ?_
  refine QA.ret1 rfl rfl ?_
  exact ⟨rfl, (Sat.pick [0, 0] h)⟩
set_option maxRecDepth 20000 in
set_option maxHeartbeats 1000000 in
theorem M_octet_rest_fail_po_w {W : Base} {w : World} {b : Nat} {a : Option Addr} {c : Nat} {b2 : List UInt8} {open_ : Bool} {bad : Bool}  (h : Sat W w [blk b [(.slice a b2.length c), (.bool open_), (.bool bad)] 72, ow elU8 a c 5 b2])  (hm : M_octet_rest_fail_po b2 open_ bad = some ()) :
    Calls Try.prog 62 #[(.pointer (some ⟨b, 0, none⟩))] w (Ret fun v w' => v = (.tuple #[]) ∧ Sat W w' [blk b [(.slice none 0 0), (.bool open_), (.bool true)] 72]) := by
  unfold M_octet_rest_fail_po at hm
  refine C.enter (N := 8) Try.func62 rfl Try.ntmps62 rfl ?_
  show C _ _ _ [(0, (.pointer (some ⟨b, 0, none⟩)))] _ _
  refine C.region ?_
  refine G.yl (yl_move rfl) rfl rfl rfl ?_
  refine G.yl (yl_move rfl) rfl rfl rfl ?_
  refine G.yl (yl_nilCheck rfl) rfl rfl rfl ?_
  refine G.yl (yl_fieldAddr fo70_0 rfl) rfl rfl rfl ?_
  refine G.unit (does_store (vs := [(.slice none 0 0)]) h sz39 rfl rfl rfl rfl (List.forall_mem_cons.2 ⟨rfl, (fun _ hh => by cases hh)⟩) (Nat.le_of_ble_eq_true rfl)) rfl rfl ?_
  rintro _ w1 h3
  have h2 : Sat W w1 [blk b [(.slice none 0 0), (.bool open_), (.bool bad)] 72, ow elU8 a c 5 b2] := h3
  refine G.yl (yl_nilCheck rfl) rfl rfl rfl ?_
  refine G.yl (yl_fieldAddr fo70_2 rfl) rfl rfl rfl ?_
  refine G.unit (does_store (vs := [(.bool true)]) h2 sz4 rfl rfl rfl rfl (List.forall_mem_cons.2 ⟨rfl, (fun _ hh => by cases hh)⟩) (Nat.le_of_ble_eq_true rfl)) rfl rfl ?_
  rintro _ w4 h6
  have h5 : Sat W w4 [blk b [(.slice none 0 0), (.bool open_), (.bool true)] 72, ow elU8 a c 5 b2] := h6
  refine G.nil ?_
  refine QA.end0 rfl ?_
  exact ⟨rfl, (Sat.pick [0] h5)⟩
set_option maxRecDepth 20000 in
set_option maxHeartbeats 1000000 in
theorem M_octet_rest_cut_po_w {W : Base} {w : World} {b : Nat} {a : Option Addr} {c : Nat} {b2 : List UInt8} {open_ : Bool} {bad : Bool} {n : Int}  (h : Sat W w [blk b [(.slice a b2.length c), (.bool open_), (.bool bad)] 72, ow elU8 a c 5 b2]) {r : Unit ⊕ Unit} (hm : M_octet_rest_cut_po b2 open_ bad n = some r) :
    Calls Try.prog 63 #[(.pointer (some ⟨b, 0, none⟩)), (vI n)] w (Ret fun v w' => match r with | .inl () => v = (.tuple #[(.slice none 0 0), (.bool false)]) ∧ Sat W w' [blk b [(.slice none 0 0), (.bool open_), (.bool true)] 72] | .inr () => ∃ r1 : Option Addr, v = (.tuple #[(.slice a ((b2.take n.toNat).length) c), (.bool true)]) ∧ (Cut r1 a c n.toNat 1) ∧ Sat W w' [ow elU8 a c 5 b2, blk b [(.slice r1 ((b2.drop n.toNat).length) (c - n.toNat)), (.bool open_), (.bool bad)] 72]) := by
  unfold M_octet_rest_cut_po at hm
  refine C.enter (N := 42) Try.func63 rfl Try.ntmps63 rfl ?_
  show C _ _ _ [(0, (.pointer (some ⟨b, 0, none⟩))), (1, (vI n))] _ _
  refine C.seq ?_
  refine C.region ?_
  refine G.yl (yl_assign rfl) rfl rfl rfl ?_
  refine G.yl (yl_assign rfl) rfl rfl rfl ?_
  refine G.nil ?_
  refine QA.then_normal ?_
  refine C.seq ?_
  refine C.join (γ := Bool) (fun g => match g with | t23 => [(0, (.pointer (some ⟨b, 0, none⟩))), (1, (vI n)), (4, (.slice none 0 0)), (5, (.bool false)), (23, (.bool t23))]) (fun g ww => match g with | t23 => (M_octet_rest_cut_po_k1 b2 bad n open_ t23 = some r) ∧ Sat W ww [blk b [(.slice a b2.length c), (.bool open_), (.bool bad)] 72, ow elU8 a c 5 b2]) ?_ ?_
  · refine C.region ?_
    refine G.yl (yl_move rfl) rfl rfl rfl ?_
    refine G.yl (yl_nilCheck rfl) rfl rfl rfl ?_
    refine G.yl (yl_fieldAddr fo70_2 rfl) rfl rfl rfl ?_
    refine G.yl (yl_load (v := (.bool bad)) ag4 rfl (View.at0 (j := 2) h.isBlk.view0 rfl)) rfl rfl rfl ?_
    refine G.yl (yl_move rfl) rfl rfl rfl ?_
    rcases sp_b hm with ⟨hc1, hm⟩ | ⟨hc1, hm⟩
    · refine G.offU rfl rfl hc1 rfl ?_
      refine G.offU rfl rfl hc1 rfl ?_
      refine G.yl (yl_pick_t rfl hc1 rfl) rfl rfl rfl ?_
      refine G.yl (yl_move rfl) rfl rfl rfl ?_
      refine G.offU rfl rfl rfl rfl ?_
      refine G.offU rfl rfl rfl rfl ?_
      refine G.offU rfl rfl rfl rfl ?_
      refine G.offU rfl rfl rfl rfl ?_
      refine G.offU rfl rfl rfl rfl ?_
      refine G.offU rfl rfl rfl rfl ?_
      refine G.offU rfl rfl rfl rfl ?_
      refine G.yl (yl_pick_t rfl rfl rfl) rfl rfl rfl ?_
      refine G.nil ?_
      exact QA.join true (Sub.of ⟨rfl, rfl, rfl, rfl, rfl, trivial⟩) ⟨hm, (Sat.pick [0, 0] h)⟩
    · refine G.on rfl rfl hc1 ?_
      refine G.yl (yl_move rfl) rfl rfl rfl ?_
      refine G.on rfl rfl hc1 ?_
      refine G.yl (yl_ltI rfl rfl) rfl rfl rfl ?_
      refine G.yl (yl_pick_f rfl hc1 rfl) rfl rfl rfl ?_
      refine G.yl (yl_move rfl) rfl rfl rfl ?_
      rcases sp_ite hm with ⟨hc2, hm⟩ | ⟨hc2, hm⟩
      · refine G.offU rfl rfl (dec_t hc2) rfl ?_
        refine G.offU rfl rfl (dec_t hc2) rfl ?_
        refine G.offU rfl rfl (dec_t hc2) rfl ?_
        refine G.offU rfl rfl (dec_t hc2) rfl ?_
        refine G.offU rfl rfl (dec_t hc2) rfl ?_
        refine G.offU rfl rfl (dec_t hc2) rfl ?_
        refine G.offU rfl rfl (dec_t hc2) rfl ?_
        refine G.yl (yl_pick_t rfl (dec_t hc2) rfl) rfl rfl rfl ?_
        refine G.nil ?_
        exact QA.join true (Sub.of ⟨rfl, rfl, rfl, rfl, rfl, trivial⟩) ⟨hm, (Sat.pick [0, 0] h)⟩
      · refine G.on rfl rfl (dec_f hc2) ?_
        refine G.yl (yl_move rfl) rfl rfl rfl ?_
        refine G.on rfl rfl (dec_f hc2) ?_
        refine G.yl (yl_move rfl) rfl rfl rfl ?_
        refine G.on rfl rfl (dec_f hc2) ?_
        refine G.yl (yl_nilCheck rfl) rfl rfl rfl ?_
        refine G.on rfl rfl (dec_f hc2) ?_
        refine G.yl (yl_fieldAddr fo70_0 rfl) rfl rfl rfl ?_
        refine G.on rfl rfl (dec_f hc2) ?_
        refine G.yl (yl_load (v := (.slice a b2.length c)) ag39 rfl (View.at0 (j := 0) h.isBlk.view0 rfl)) rfl rfl rfl ?_
        refine G.on rfl rfl (dec_f hc2) ?_
        refine G.yl (yl_lenE Try.underlying39 rfl) rfl rfl rfl ?_
        refine G.on rfl rfl (dec_f hc2) ?_
        refine G.yl (yl_gtI rfl rfl) rfl rfl rfl ?_
        refine G.yl (yl_pick_f rfl (dec_f hc2) rfl) rfl rfl rfl ?_
        refine G.nil ?_
        exact QA.join (decide ((b2.length : Int) < n)) (Sub.of ⟨rfl, rfl, rfl, rfl, rfl, trivial⟩) ⟨hm, (Sat.pick [0, 0] h)⟩
  · rintro t23 w3 ⟨hm, h4⟩
    show C _ _ _ [(0, (.pointer (some ⟨b, 0, none⟩))), (1, (vI n)), (4, (.slice none 0 0)), (5, (.bool false)), (23, (.bool t23))] _ _
    unfold M_octet_rest_cut_po_k1 at hm
    rcases sp_b hm with ⟨hc5, hm⟩ | ⟨hc5, hm⟩
    · refine C.cond_t rfl hc5 ?_
      refine C.seq ?_
      refine C.region ?_
      refine G.yl (yl_move rfl) rfl rfl rfl ?_
      obtain ⟨_, hy6, hm⟩ := sp_bind hm
      refine G.does (does_fn 2 rfl rfl rfl en62 (Sat.pick [0, 0] h4) (fun U hU hp hr hs => M_octet_rest_fail_po_w (b2 := b2) (open_ := open_) (bad := bad) hp hy6)) rfl rfl rfl ?_
      rintro _ w7 ⟨U10, hb11, rfl, h9⟩
      have h8 : Sat W w7 [blk b [(.slice none 0 0), (.bool open_), (.bool true)] 72] := hb11 h9
      refine G.nil ?_
      refine QA.then_normal ?_
      refine C.seq ?_
      refine C.region ?_
      refine G.yl (yl_assign rfl) rfl rfl rfl ?_
      refine G.yl (yl_assign rfl) rfl rfl rfl ?_
      refine G.nil ?_
      refine QA.then_normal ?_
      refine C.ret ?_
      refine QA.then_ret ?_
      refine QA.ret2 rfl rfl rfl ?_
      obtain rfl := sp_ret1 hm
      exact ⟨rfl, (Sat.pick [0] h8)⟩
    · refine C.cond_f rfl hc5 ?_
      refine C.skip ?_
      refine QA.then_normal ?_
      refine C.seq ?_
      refine C.region ?_
      refine G.yl (yl_move rfl) rfl rfl rfl ?_
      refine G.yl (yl_nilCheck rfl) rfl rfl rfl ?_
      refine G.yl (yl_fieldAddr fo70_0 rfl) rfl rfl rfl ?_
      refine G.yl (yl_load (v := (.slice a b2.length c)) ag39 rfl (View.at0 (j := 0) h4.isBlk.view0 rfl)) rfl rfl rfl ?_
      refine G.yl (yl_move rfl) rfl rfl rfl ?_
      obtain ⟨hc12, hm⟩ := sp_chk hm
      refine G.yl (yl_slH (E := elU8) (l := b2) sl39 rfl rfl rfl hc12 (Sat.own_cap (Sat.pick [1] h4)).1) rfl rfl rfl ?_
      refine G.yl (yl_assign rfl) rfl rfl rfl ?_
      refine G.nil ?_
      refine QA.then_normal ?_
      refine C.seq ?_
      refine C.region ?_
      refine G.yl (yl_move rfl) rfl rfl rfl ?_
      refine G.yl (yl_move rfl) rfl rfl rfl ?_
      refine G.yl (yl_nilCheck rfl) rfl rfl rfl ?_
      refine G.yl (yl_fieldAddr fo70_0 rfl) rfl rfl rfl ?_
      refine G.yl (yl_load (v := (.slice a b2.length c)) ag39 rfl (View.at0 (j := 0) h4.isBlk.view0 rfl)) rfl rfl rfl ?_
      refine G.yl (yl_move rfl) rfl rfl rfl ?_
      obtain ⟨a13, ha14⟩ : ∃ p', Cut p' a c n.toNat 1 := Cut.mk _ _ _ _
      obtain ⟨hc15, hm⟩ := sp_chk hm
      refine G.yl (yl_slL (E := elU8) (l := b2) sl39 rfl rfl rfl hc15 ha14) rfl rfl rfl ?_
      refine G.yl (yl_nilCheck rfl) rfl rfl rfl ?_
      refine G.yl (yl_fieldAddr fo70_0 rfl) rfl rfl rfl ?_
      refine G.unit (does_store (vs := [(.slice a13 ((b2.drop n.toNat).length) (c - n.toNat))]) h4 sz39 rfl rfl rfl rfl (List.forall_mem_cons.2 ⟨rfl, (fun _ hh => by cases hh)⟩) (Nat.le_of_ble_eq_true rfl)) rfl rfl ?_
      rintro _ w16 h18
      have h17 : Sat W w16 [blk b [(.slice a13 ((b2.drop n.toNat).length) (c - n.toNat)), (.bool open_), (.bool bad)] 72, ow elU8 a c 5 b2] := h18
      refine G.nil ?_
      refine QA.then_normal ?_
      refine C.seq ?_
      refine C.region ?_
      refine G.yl (yl_move rfl) rfl rfl rfl ?_
      refine G.yl (yl_assign rfl) rfl rfl rfl ?_
      refine G.yl (yl_assign rfl) rfl rfl rfl ?_
      refine G.nil ?_
      refine QA.then_normal ?_
      refine C.ret ?_
      refine QA.ret2 rfl rfl rfl ?_
      obtain rfl := sp_ret1 hm
      exact ⟨a13, rfl, ha14, (Sat.pick [1, 0] h17)⟩
set_option maxRecDepth 20000 in
set_option maxHeartbeats 1000000 in
theorem M_octet_Get_v_w {W : Base} {w : World} {a : Option Addr} {c : Nat} {b : List UInt8} {at_ : Int} {width : Int} (hv_b : V W a (elU8.row b)) (hq_b : b.length ≤ c) (h : Sat W w []) {r1 : UInt64} {r2 : Bool} (hm : M_octet_Get_v b at_ width = some (r1, r2)) :
    Calls Try.prog 64 #[(.slice a b.length c), (vI at_), (vI width)] w (Ret fun v w' => v = (.tuple #[(v64 r1), (.bool r2)]) ∧ Sat W w' []) := by
  unfold M_octet_Get_v at hm
  refine C.enter (N := 50) Try.func64 rfl Try.ntmps64 rfl ?_
  show C _ _ _ [(0, (.slice a b.length c)), (1, (vI at_)), (2, (vI width))] _ _
  refine C.seq ?_
  refine C.region ?_
  refine G.yl (yl_assign rfl) rfl rfl rfl ?_
  refine G.yl (yl_assign rfl) rfl rfl rfl ?_
  refine G.nil ?_
  refine QA.then_normal ?_
  refine C.seq ?_
  refine C.join (γ := Bool) (fun g => match g with | t31 => [(0, (.slice a b.length c)), (1, (vI at_)), (2, (vI width)), (6, (.int .u64 0)), (7, (.bool false)), (31, (.bool t31))]) (fun g ww => match g with | t31 => (M_octet_Get_v_k1 at_ b width t31 = some (r1, r2)) ∧ Sat W ww []) ?_ ?_
  · refine C.region ?_
    refine G.yl (yl_move rfl) rfl rfl rfl ?_
    obtain ⟨r1_2, hy1, hm⟩ := sp_bind hm
    refine G.does (does_fn 0 rfl rfl rfl en58 h (fun U hU hp hr hs => M_octet_may_w (width := width) hp hy1)) rfl rfl rfl ?_
    rintro _ w2 ⟨U5, hb6, rfl, h4⟩
    have h3 : Sat W w2 [] := hb6 h4
    refine G.yl (yl_not rfl) rfl rfl rfl ?_
    refine G.yl (yl_move rfl) rfl rfl rfl ?_
    rcases sp_b hm with ⟨hc7, hm⟩ | ⟨hc7, hm⟩
    · refine G.on rfl rfl (not_f hc7) ?_
      refine G.yl (yl_move rfl) rfl rfl rfl ?_
      refine G.on rfl rfl (not_f hc7) ?_
      refine G.yl (yl_ltI rfl rfl) rfl rfl rfl ?_
      refine G.yl (yl_pick_f rfl (not_f hc7) rfl) rfl rfl rfl ?_
      refine G.yl (yl_move rfl) rfl rfl rfl ?_
      rcases sp_ite hm with ⟨hc8, hm⟩ | ⟨hc8, hm⟩
      · refine G.offU rfl rfl (dec_t hc8) rfl ?_
        refine G.offU rfl rfl (dec_t hc8) rfl ?_
        refine G.offU rfl rfl (dec_t hc8) rfl ?_
        refine G.offU rfl rfl (dec_t hc8) rfl ?_
        refine G.yl (yl_pick_t rfl (dec_t hc8) rfl) rfl rfl rfl ?_
        refine G.yl (yl_move rfl) rfl rfl rfl ?_
        refine G.offU rfl rfl rfl rfl ?_
        refine G.offU rfl rfl rfl rfl ?_
        refine G.offU rfl rfl rfl rfl ?_
        refine G.offU rfl rfl rfl rfl ?_
        refine G.offU rfl rfl rfl rfl ?_
        refine G.offU rfl rfl rfl rfl ?_
        refine G.yl (yl_pick_t rfl rfl rfl) rfl rfl rfl ?_
        refine G.nil ?_
        exact QA.join true (Sub.of ⟨rfl, rfl, rfl, rfl, rfl, rfl, trivial⟩) ⟨hm, (Sat.pick [] h3)⟩
      · refine G.on rfl rfl (dec_f hc8) ?_
        refine G.yl (yl_move rfl) rfl rfl rfl ?_
        refine G.on rfl rfl (dec_f hc8) ?_
        refine G.yl (yl_move rfl) rfl rfl rfl ?_
        refine G.on rfl rfl (dec_f hc8) ?_
        refine G.yl (yl_lenE Try.underlying39 rfl) rfl rfl rfl ?_
        refine G.on rfl rfl (dec_f hc8) ?_
        refine G.yl (yl_gtI rfl rfl) rfl rfl rfl ?_
        refine G.yl (yl_pick_f rfl (dec_f hc8) rfl) rfl rfl rfl ?_
        refine G.yl (yl_move rfl) rfl rfl rfl ?_
        rcases sp_ite hm with ⟨hc9, hm⟩ | ⟨hc9, hm⟩
        · refine G.offU rfl rfl (dec_t hc9) rfl ?_
          refine G.offU rfl rfl (dec_t hc9) rfl ?_
          refine G.offU rfl rfl (dec_t hc9) rfl ?_
          refine G.offU rfl rfl (dec_t hc9) rfl ?_
          refine G.offU rfl rfl (dec_t hc9) rfl ?_
          refine G.offU rfl rfl (dec_t hc9) rfl ?_
          refine G.yl (yl_pick_t rfl (dec_t hc9) rfl) rfl rfl rfl ?_
          refine G.nil ?_
          exact QA.join true (Sub.of ⟨rfl, rfl, rfl, rfl, rfl, rfl, trivial⟩) ⟨hm, (Sat.pick [] h3)⟩
        · refine G.on rfl rfl (dec_f hc9) ?_
          refine G.yl (yl_move rfl) rfl rfl rfl ?_
          refine G.on rfl rfl (dec_f hc9) ?_
          refine G.yl (yl_lenE Try.underlying39 rfl) rfl rfl rfl ?_
          refine G.on rfl rfl (dec_f hc9) ?_
          refine G.yl (yl_move rfl) rfl rfl rfl ?_
          refine G.on rfl rfl (dec_f hc9) ?_
          obtain ⟨hc10, hm⟩ := sp_chk hm
          refine G.yl (yl_subI rfl rfl hc10) rfl rfl rfl ?_
          refine G.on rfl rfl (dec_f hc9) ?_
          refine G.yl (yl_move rfl) rfl rfl rfl ?_
          refine G.on rfl rfl (dec_f hc9) ?_
          refine G.yl (yl_ltI rfl rfl) rfl rfl rfl ?_
          refine G.yl (yl_pick_f rfl (dec_f hc9) rfl) rfl rfl rfl ?_
          refine G.nil ?_
          exact QA.join (decide (((b.length : Int) - at_) < width)) (Sub.of ⟨rfl, rfl, rfl, rfl, rfl, rfl, trivial⟩) ⟨hm, (Sat.pick [] h3)⟩
    · refine G.offU rfl rfl (not_t hc7) rfl ?_
      refine G.offU rfl rfl (not_t hc7) rfl ?_
      refine G.yl (yl_pick_t rfl (not_t hc7) rfl) rfl rfl rfl ?_
      refine G.yl (yl_move rfl) rfl rfl rfl ?_
      refine G.offU rfl rfl rfl rfl ?_
      refine G.offU rfl rfl rfl rfl ?_
      refine G.offU rfl rfl rfl rfl ?_
      refine G.offU rfl rfl rfl rfl ?_
      refine G.yl (yl_pick_t rfl rfl rfl) rfl rfl rfl ?_
      refine G.yl (yl_move rfl) rfl rfl rfl ?_
      refine G.offU rfl rfl rfl rfl ?_
      refine G.offU rfl rfl rfl rfl ?_
      refine G.offU rfl rfl rfl rfl ?_
      refine G.offU rfl rfl rfl rfl ?_
      refine G.offU rfl rfl rfl rfl ?_
      refine G.offU rfl rfl rfl rfl ?_
      refine G.yl (yl_pick_t rfl rfl rfl) rfl rfl rfl ?_
      refine G.nil ?_
      exact QA.join true (Sub.of ⟨rfl, rfl, rfl, rfl, rfl, rfl, trivial⟩) ⟨hm, (Sat.pick [] h3)⟩
  · rintro t31 w11 ⟨hm, h12⟩
    show C _ _ _ [(0, (.slice a b.length c)), (1, (vI at_)), (2, (vI width)), (6, (.int .u64 0)), (7, (.bool false)), (31, (.bool t31))] _ _
    unfold M_octet_Get_v_k1 at hm
    rcases sp_b hm with ⟨hc13, hm⟩ | ⟨hc13, hm⟩
    · refine C.cond_t rfl hc13 ?_
      refine C.seq ?_
      refine C.region ?_
      refine G.yl (yl_assign rfl) rfl rfl rfl ?_
      refine G.yl (yl_assign rfl) rfl rfl rfl ?_
      refine G.nil ?_
      refine QA.then_normal ?_
      refine C.ret ?_
      refine QA.then_ret ?_
      refine QA.ret2 rfl rfl rfl ?_
      obtain ⟨rfl, rfl⟩ := sp_ret2 hm
      exact ⟨rfl, (Sat.pick [] h12)⟩
    · refine C.cond_f rfl hc13 ?_
      refine C.skip ?_
      refine QA.then_normal ?_
      refine C.seq ?_
      refine C.region ?_
      refine G.yl (yl_assign rfl) rfl rfl rfl ?_
      refine G.nil ?_
      refine QA.then_normal ?_
      refine C.seq ?_
      refine C.seq ?_
      refine C.region ?_
      refine G.yl (yl_move rfl) rfl rfl rfl ?_
      refine G.yl (yl_move rfl) rfl rfl rfl ?_
      refine G.yl (yl_move rfl) rfl rfl rfl ?_
      refine G.yl (yl_move rfl) rfl rfl rfl ?_
      obtain ⟨hc14, hm⟩ := sp_chk hm
      refine G.yl (yl_addI rfl rfl hc14) rfl rfl rfl ?_
      obtain ⟨a15, ha16⟩ : ∃ p', Cut p' a c at_.toNat 1 := Cut.mk _ _ _ _
      obtain ⟨hc17, hm⟩ := sp_chk hm
      refine G.yl (yl_slLH (E := elU8) (l := b) sl39 rfl rfl rfl rfl hc17 hq_b ha16) rfl rfl rfl ?_
      refine G.yl (yl_lenE Try.underlying39 rfl) rfl rfl rfl ?_
      refine G.yl (yl_move rfl) rfl rfl rfl ?_
      refine G.nil ?_
      refine QA.then_normal ?_
      refine C.block ?_
      obtain ⟨o, ho18, hm19⟩ := sp_bind hm
      refine C.left (γ := UInt64) (.exit 0) (fun g => match g with | n_2 => [(6, (.int .u64 0)), (7, (.bool false)), (8, (v64 n_2))]) (fun g ww => match g with | n_2 => n_2 = o ∧ Sat W ww []) ?_ ?_
      · refine C.loopO (γ := UInt64 × Int) (fun g => match g with | (n, t39) => [(6, (.int .u64 0)), (7, (.bool false)), (8, (v64 n)), (37, (.slice a15 (((b.take ((at_ + width).toNat)).drop at_.toNat).length) (c - at_.toNat))), (38, (vI (((b.take ((at_ + width).toNat)).drop at_.toNat).length : Int))), (39, (vI t39))]) (fun g ww => match g with | (n, t39) => Sat W ww []) (fun g => match g with | (n, t39) => (n, t39)) (0, 0) ho18 (Sub.of ⟨rfl, rfl, rfl, rfl, rfl, rfl, trivial⟩) (Sat.pick [] h12) ?_
        rintro ⟨n, t39⟩ k22 w20 y_ h21 hm hg23
        show C _ _ _ [(6, (.int .u64 0)), (7, (.bool false)), (8, (v64 n)), (37, (.slice a15 (((b.take ((at_ + width).toNat)).drop at_.toNat).length) (c - at_.toNat))), (38, (vI (((b.take ((at_ + width).toNat)).drop at_.toNat).length : Int))), (39, (vI t39))] _ _
        change M_octet_Get_v_b2 at_ b width n t39 = some y_ at hm
        unfold M_octet_Get_v_b2 at hm
        refine C.seq ?_
        refine C.region ?_
        refine G.yl (yl_ltI rfl rfl) rfl rfl rfl ?_
        refine G.nil ?_
        refine QA.then_normal ?_
        refine C.seq ?_
        rcases sp_ite hm with ⟨hc24, hm⟩ | ⟨hc24, hm⟩
        · refine C.cond_t rfl (dec_t hc24) ?_
          refine C.skip ?_
          refine QA.then_normal ?_
          refine C.seq ?_
          refine C.block ?_
          refine C.seq ?_
          refine C.region ?_
          obtain ⟨x, hy25, hm⟩ := sp_bind hm
          refine G.yl (yl_ixP (l := (b.take ((at_ + width).toNat)).drop at_.toNat) sl39 rfl rfl (View.isA (E := elU8) (View.cut (View.rtake (hv_b.at_ h21) ((at_ + width).toNat)) ha16 (by have := hq_b; simp only [List.length_drop, List.length_take, List.length_append, List.length_set, List.length_cons, List.length_nil, List.length_ofFn, copyL_length] at *; omega)) (by decide) (at?_lt hy25)) rfl (at?_lt hy25)) rfl rfl rfl ?_
          refine G.yl (yl_ld1 (E := elU8) (v := (v8 x)) ag5 rfl (View.cut (View.rtake (hv_b.at_ h21) ((at_ + width).toNat)) ha16 (by have := hq_b; simp only [List.length_drop, List.length_take, List.length_append, List.length_set, List.length_cons, List.length_nil, List.length_ofFn, copyL_length] at *; omega)) (at?_some hy25).2 rfl) rfl rfl rfl ?_
          refine G.yl (yl_assign rfl) rfl rfl rfl ?_
          refine G.nil ?_
          refine QA.then_normal ?_
          refine C.region ?_
          refine G.yl (yl_move rfl) rfl rfl rfl ?_
          refine G.yl (yl_shl64 rfl rfl (by decide)) rfl rfl rfl ?_
          refine G.yl (yl_move rfl) rfl rfl rfl ?_
          refine G.yl (yl_8to64 us5 Try.underlying27 rfl) rfl rfl rfl ?_
          refine G.yl (yl_or64 rfl rfl) rfl rfl rfl ?_
          refine G.yl (yl_assign rfl) rfl rfl rfl ?_
          refine G.nil ?_
          refine QA.block_normal ?_
          refine QA.then_normal ?_
          refine C.region ?_
          obtain ⟨hc26, hm⟩ := sp_chk hm
          refine G.yl (yl_addI rfl rfl hc26) rfl rfl rfl ?_
          refine G.yl (yl_move rfl) rfl rfl rfl ?_
          refine G.nil ?_
          obtain rfl := sp_ret1 hm
          exact QA.againO ((shl64 n 8) ||| x.toUInt64, t39 + 1) hg23 (Sub.of ⟨rfl, rfl, rfl, rfl, rfl, rfl, trivial⟩) (Sat.pick [] h21)
        · refine C.cond_f rfl (dec_f hc24) ?_
          refine C.exit ?_
          refine QA.then_exit ?_
          refine QA.then_exit ?_
          obtain rfl := sp_ret1 hm
          exact QA.left n (Sub.of ⟨rfl, rfl, rfl, trivial⟩) ⟨hg23, (Sat.pick [] h21)⟩
      · rintro n_2 w27 ⟨rfl, h28⟩
        have hm := hm19
        show QA _ _ [(6, (.int .u64 0)), (7, (.bool false)), (8, (v64 n_2))] _ _
        refine QA.block_here ?_
        refine QA.then_normal ?_
        refine C.seq ?_
        refine C.region ?_
        refine G.yl (yl_move rfl) rfl rfl rfl ?_
        refine G.yl (yl_assign rfl) rfl rfl rfl ?_
        refine G.yl (yl_assign rfl) rfl rfl rfl ?_
        refine G.nil ?_
        refine QA.then_normal ?_
        refine C.ret ?_
        refine QA.ret2 rfl rfl rfl ?_
        obtain ⟨rfl, rfl⟩ := sp_ret2 hm
        exact ⟨rfl, (Sat.pick [] h28)⟩
set_option maxRecDepth 20000 in
set_option maxHeartbeats 1000000 in
theorem M_octet_Reader_Num_po_w {W : Base} {w : World} {b : Nat} {a : Option Addr} {c : Nat} {b2 : List UInt8} {open_ : Bool} {bad : Bool} {width : Int}  (h : Sat W w [blk b [(.slice a b2.length c), (.bool open_), (.bool bad)] 72, ow elU8 a c 5 b2]) {r1 : UInt64} {r4 : List UInt8} {r5 : Bool} (hm : M_octet_Reader_Num_po b2 open_ bad width = some (r1, r4, r5)) :
    Calls Try.prog 41 #[(.pointer (some ⟨b, 0, none⟩)), (vI width)] w (Ret fun v w' => ∃ r2 : Option Addr, ∃ r3 : Nat, v = (v64 r1) ∧ Sat W w' [blk b [(.slice r2 r4.length r3), (.bool open_), (.bool r5)] 72, ow elU8 r2 r3 5 r4]) := by
  unfold M_octet_Reader_Num_po at hm
  refine C.enter (N := 35) Try.func41 rfl Try.ntmps41 rfl ?_
  show C _ _ _ [(0, (.pointer (some ⟨b, 0, none⟩))), (1, (vI width))] _ _
  refine C.seq ?_
  refine C.region ?_
  refine G.yl (yl_assign rfl) rfl rfl rfl ?_
  refine G.nil ?_
  refine QA.then_normal ?_
  refine C.seq ?_
  refine C.seq ?_
  refine C.region ?_
  refine G.yl (yl_move rfl) rfl rfl rfl ?_
  obtain ⟨_, hy1, hm⟩ := sp_bind hm
  refine G.does (does_fn 2 rfl rfl rfl en44 (Sat.pick [0, 0] h) (fun U hU hp hr hs => M_octet_Reader_none_po_w (b2 := b2) (open_ := open_) (bad := bad) hp hy1)) rfl rfl rfl ?_
  rintro _ w2 ⟨U5, hb6, rfl, h4⟩
  have h3 : Sat W w2 [blk b [(.slice a b2.length c), (.bool open_), (.bool bad)] 72, ow elU8 a c 5 b2] := hb6 h4
  refine G.nil ?_
  refine QA.then_normal ?_
  rcases sp_b hm with ⟨hc7, hm⟩ | ⟨hc7, hm⟩
  · refine C.cond_f rfl (not_f hc7) ?_
    refine C.skip ?_
    refine QA.then_normal ?_
    refine C.seq ?_
    refine C.seq ?_
    refine C.region ?_
    refine G.yl (yl_move rfl) rfl rfl rfl ?_
    obtain ⟨r1_2, hy8, hm⟩ := sp_bind hm
    refine G.does (does_fn 0 rfl rfl rfl en58 h3 (fun U hU hp hr hs => M_octet_may_w (width := width) hp hy8)) rfl rfl rfl ?_
    rintro _ w9 ⟨U12, hb13, rfl, h11⟩
    have h10 : Sat W w9 [blk b [(.slice a b2.length c), (.bool open_), (.bool bad)] 72, ow elU8 a c 5 b2] := hb13 h11
    refine G.yl (yl_not rfl) rfl rfl rfl ?_
    refine G.nil ?_
    refine QA.then_normal ?_
    rcases sp_b hm with ⟨hc14, hm⟩ | ⟨hc14, hm⟩
    · refine C.cond_f rfl (not_f hc14) ?_
      refine C.skip ?_
      refine QA.then_normal ?_
      refine C.seq ?_
      refine C.region ?_
      refine G.yl (yl_move rfl) rfl rfl rfl ?_
      refine G.yl (yl_nilCheck rfl) rfl rfl rfl ?_
      refine G.yl (yl_fieldAddr fo72_0 rfl) rfl rfl rfl ?_
      refine G.yl (yl_move rfl) rfl rfl rfl ?_
      obtain ⟨y_, hy15, hm⟩ := sp_bind hm
      rcases y_ with _ | _
      · refine G.does (does_fn 2 rfl rfl rfl en63 (Sat.pick [0, 0] h10) (fun U hU hp hr hs => M_octet_rest_cut_po_w (b2 := b2) (open_ := open_) (bad := bad) (n := width) hp hy15)) rfl rfl rfl ?_
        rintro _ w16 ⟨U19, hb20, rfl, h18⟩
        have h17 : Sat W w16 [blk b [(.slice none 0 0), (.bool open_), (.bool true)] 72] := hb20 h18
        refine G.yl (yl_move rfl) rfl rfl rfl ?_
        refine G.yl (yl_extract rfl rfl) rfl rfl rfl ?_
        refine G.yl (yl_extract rfl rfl) rfl rfl rfl ?_
        refine G.yl (yl_assign rfl) rfl rfl rfl ?_
        refine G.yl (yl_assign rfl) rfl rfl rfl ?_
        refine G.nil ?_
        refine QA.then_normal ?_
        refine C.seq ?_
        refine C.seq ?_
        refine C.region ?_
        refine G.yl (yl_move rfl) rfl rfl rfl ?_
        refine G.yl (yl_not rfl) rfl rfl rfl ?_
        refine G.nil ?_
        refine QA.then_normal ?_
        refine C.cond_t rfl (not_t rfl) ?_
        refine C.seq ?_
        refine C.region ?_
        refine G.yl (yl_assign rfl) rfl rfl rfl ?_
        refine G.nil ?_
        refine QA.then_normal ?_
        refine C.ret ?_
        refine QA.then_ret ?_
        refine QA.ret1 rfl rfl ?_
        obtain ⟨rfl, rfl, rfl⟩ := sp_ret3 hm
        exact ⟨none, 0, rfl, (Sat.pick [1, 0] (Sat.own_zero h17 elU8 none 5))⟩
      · refine G.does (does_fn 2 rfl rfl rfl en63 (Sat.pick [0, 0] h10) (fun U hU hp hr hs => M_octet_rest_cut_po_w (b2 := b2) (open_ := open_) (bad := bad) (n := width) hp hy15)) rfl rfl rfl ?_
        rintro _ w23 ⟨U26, hb27, r121, rfl, hf22, h25⟩
        have h24 : Sat W w23 [ow elU8 a c 5 b2, blk b [(.slice r121 ((b2.drop width.toNat).length) (c - width.toNat)), (.bool open_), (.bool bad)] 72] := hb27 h25
        refine G.yl (yl_move rfl) rfl rfl rfl ?_
        refine G.yl (yl_extract rfl rfl) rfl rfl rfl ?_
        refine G.yl (yl_extract rfl rfl) rfl rfl rfl ?_
        refine G.yl (yl_assign rfl) rfl rfl rfl ?_
        refine G.yl (yl_assign rfl) rfl rfl rfl ?_
        refine G.nil ?_
        refine QA.then_normal ?_
        refine C.seq ?_
        refine C.seq ?_
        refine C.region ?_
        refine G.yl (yl_move rfl) rfl rfl rfl ?_
        refine G.yl (yl_not rfl) rfl rfl rfl ?_
        refine G.nil ?_
        refine QA.then_normal ?_
        refine C.cond_f rfl (not_f rfl) ?_
        refine C.skip ?_
        refine QA.then_normal ?_
        refine C.seq ?_
        refine C.region ?_
        refine G.yl (yl_move rfl) rfl rfl rfl ?_
        refine G.yl (yl_move rfl) rfl rfl rfl ?_
        obtain ⟨⟨r1_3, r2_2⟩, hy28, hm⟩ := sp_bind hm
        refine G.does (does_fn 0 rfl rfl rfl en64 h24 (fun U hU hp hr hs => M_octet_Get_v_w (b := b2.take width.toNat) (at_ := 0) (width := width) (V.rtake (Rest.view hr) width.toNat) (by have := (Sat.own_cap h24).1; simp only [List.length_drop, List.length_take, List.length_append, List.length_set, List.length_cons, List.length_nil, List.length_ofFn, copyL_length] at *; omega) hp hy28)) rfl rfl rfl ?_
        rintro _ w29 ⟨U32, hb33, rfl, h31⟩
        have h30 : Sat W w29 [ow elU8 a c 5 b2, blk b [(.slice r121 ((b2.drop width.toNat).length) (c - width.toNat)), (.bool open_), (.bool bad)] 72] := hb33 h31
        refine G.yl (yl_move rfl) rfl rfl rfl ?_
        refine G.yl (yl_extract rfl rfl) rfl rfl rfl ?_
        refine G.yl (yl_extract rfl rfl) rfl rfl rfl ?_
        refine G.yl (yl_assign rfl) rfl rfl rfl ?_
        refine G.yl (yl_assign rfl) rfl rfl rfl ?_
        refine G.nil ?_
        refine QA.then_normal ?_
        refine C.seq ?_
        refine C.region ?_
        refine G.yl (yl_move rfl) rfl rfl rfl ?_
        refine G.yl (yl_assign rfl) rfl rfl rfl ?_
        refine G.nil ?_
        refine QA.then_normal ?_
        refine C.ret ?_
        refine QA.ret1 rfl rfl ?_
        have h34 : Sat W w29 [ow elU8 r121 (c - width.toNat) 5 (b2.drop width.toNat), blk b [(.slice r121 ((b2.drop width.toNat).length) (c - width.toNat)), (.bool open_), (.bool bad)] 72] := Sat.own_cut h30 hf22
        obtain ⟨rfl, rfl, rfl⟩ := sp_ret3 hm
        exact ⟨r121, c - width.toNat, rfl, (Sat.pick [1, 0] h34)⟩
    · refine C.cond_t rfl (not_t hc14) ?_
      refine C.seq ?_
      refine C.region ?_
      refine G.yl (yl_move rfl) rfl rfl rfl ?_
      refine G.yl (yl_nilCheck rfl) rfl rfl rfl ?_
      refine G.yl (yl_fieldAddr fo72_0 rfl) rfl rfl rfl ?_
      obtain ⟨_, hy35, hm⟩ := sp_bind hm
      refine G.does (does_fn 2 rfl rfl rfl en62 (Sat.pick [0, 0] h10) (fun U hU hp hr hs => M_octet_rest_fail_po_w (b2 := b2) (open_ := open_) (bad := bad) hp hy35)) rfl rfl rfl ?_
      rintro _ w36 ⟨U39, hb40, rfl, h38⟩
      have h37 : Sat W w36 [blk b [(.slice none 0 0), (.bool open_), (.bool true)] 72] := hb40 h38
      refine G.nil ?_
      refine QA.then_normal ?_
      refine C.seq ?_
      refine C.region ?_
      refine G.yl (yl_assign rfl) rfl rfl rfl ?_
      refine G.nil ?_
      refine QA.then_normal ?_
      refine C.ret ?_
      refine QA.then_ret ?_
      refine QA.ret1 rfl rfl ?_
      obtain ⟨rfl, rfl, rfl⟩ := sp_ret3 hm
      exact ⟨none, 0, rfl, (Sat.pick [1, 0] (Sat.own_zero h37 elU8 none 5))⟩
  · refine C.cond_t rfl (not_t hc7) ?_
    refine C.seq ?_
    refine C.region ?_
    refine G.yl (yl_assign rfl) rfl rfl rfl ?_
    refine G.nil ?_
    refine QA.then_normal ?_
    refine C.ret ?_
    refine QA.then_ret ?_
    refine QA.ret1 rfl rfl ?_
    obtain ⟨rfl, rfl, rfl⟩ := sp_ret3 hm
    exact ⟨a, c, rfl, (Sat.pick [0, 0] h3)⟩
set_option maxRecDepth 20000 in
set_option maxHeartbeats 1000000 in
theorem M_octet_Reader_Take_po_w {W : Base} {w : World} {b : Nat} {a : Option Addr} {c : Nat} {b2 : List UInt8} {open_ : Bool} {bad : Bool} {n : Int}  (h : Sat W w [blk b [(.slice a b2.length c), (.bool open_), (.bool bad)] 72, ow elU8 a c 5 b2]) {r3 : List UInt8} {r6 : List UInt8} {r7 : Bool} (hm : M_octet_Reader_Take_po b2 open_ bad n = some (r3, r6, r7)) :
    Calls Try.prog 43 #[(.pointer (some ⟨b, 0, none⟩)), (vI n)] w (Ret fun v w' => ∃ r1 : Option Addr, ∃ r2 : Nat, ∃ r4 : Option Addr, ∃ r5 : Nat, v = (.slice r1 r3.length r2) ∧ Sat W w' [ow elU8 r1 r2 5 r3, blk b [(.slice r4 r6.length r5), (.bool open_), (.bool r7)] 72, ow elU8 r4 r5 5 r6]) := by
  unfold M_octet_Reader_Take_po at hm
  refine C.enter (N := 22) Try.func43 rfl Try.ntmps43 rfl ?_
  show C _ _ _ [(0, (.pointer (some ⟨b, 0, none⟩))), (1, (vI n))] _ _
  refine C.seq ?_
  refine C.region ?_
  refine G.yl (yl_assign rfl) rfl rfl rfl ?_
  refine G.nil ?_
  refine QA.then_normal ?_
  refine C.seq ?_
  refine C.seq ?_
  refine C.region ?_
  refine G.yl (yl_move rfl) rfl rfl rfl ?_
  obtain ⟨_, hy1, hm⟩ := sp_bind hm
  refine G.does (does_fn 2 rfl rfl rfl en44 (Sat.pick [0, 0] h) (fun U hU hp hr hs => M_octet_Reader_none_po_w (b2 := b2) (open_ := open_) (bad := bad) hp hy1)) rfl rfl rfl ?_
  rintro _ w2 ⟨U5, hb6, rfl, h4⟩
  have h3 : Sat W w2 [blk b [(.slice a b2.length c), (.bool open_), (.bool bad)] 72, ow elU8 a c 5 b2] := hb6 h4
  refine G.nil ?_
  refine QA.then_normal ?_
  rcases sp_b hm with ⟨hc7, hm⟩ | ⟨hc7, hm⟩
  · refine C.cond_f rfl (not_f hc7) ?_
    refine C.skip ?_
    refine QA.then_normal ?_
    refine C.seq ?_
    refine C.region ?_
    refine G.yl (yl_move rfl) rfl rfl rfl ?_
    refine G.yl (yl_nilCheck rfl) rfl rfl rfl ?_
    refine G.yl (yl_fieldAddr fo72_0 rfl) rfl rfl rfl ?_
    refine G.yl (yl_move rfl) rfl rfl rfl ?_
    obtain ⟨y_, hy8, hm⟩ := sp_bind hm
    rcases y_ with _ | _
    · refine G.does (does_fn 2 rfl rfl rfl en63 (Sat.pick [0, 0] h3) (fun U hU hp hr hs => M_octet_rest_cut_po_w (b2 := b2) (open_ := open_) (bad := bad) (n := n) hp hy8)) rfl rfl rfl ?_
      rintro _ w9 ⟨U12, hb13, rfl, h11⟩
      have h10 : Sat W w9 [blk b [(.slice none 0 0), (.bool open_), (.bool true)] 72] := hb13 h11
      refine G.yl (yl_move rfl) rfl rfl rfl ?_
      refine G.yl (yl_extract rfl rfl) rfl rfl rfl ?_
      refine G.yl (yl_extract rfl rfl) rfl rfl rfl ?_
      refine G.yl (yl_assign rfl) rfl rfl rfl ?_
      refine G.yl (yl_assign rfl) rfl rfl rfl ?_
      refine G.nil ?_
      refine QA.then_normal ?_
      refine C.seq ?_
      refine C.seq ?_
      refine C.region ?_
      refine G.yl (yl_move rfl) rfl rfl rfl ?_
      refine G.yl (yl_not rfl) rfl rfl rfl ?_
      refine G.nil ?_
      refine QA.then_normal ?_
      refine C.cond_t rfl (not_t rfl) ?_
      refine C.seq ?_
      refine C.region ?_
      refine G.yl (yl_assign rfl) rfl rfl rfl ?_
      refine G.nil ?_
      refine QA.then_normal ?_
      refine C.ret ?_
      refine QA.then_ret ?_
      refine QA.ret1 rfl rfl ?_
      obtain ⟨rfl, rfl, rfl⟩ := sp_ret3 hm
      exact ⟨none, 0, none, 0, rfl, (Sat.pick [0, 1, 0] (Sat.own_zero (Sat.own_zero h10 elU8 none 5) elU8 none 5))⟩
    · refine G.does (does_fn 2 rfl rfl rfl en63 (Sat.pick [0, 0] h3) (fun U hU hp hr hs => M_octet_rest_cut_po_w (b2 := b2) (open_ := open_) (bad := bad) (n := n) hp hy8)) rfl rfl rfl ?_
      rintro _ w16 ⟨U19, hb20, r114, rfl, hf15, h18⟩
      have h17 : Sat W w16 [ow elU8 a c 5 b2, blk b [(.slice r114 ((b2.drop n.toNat).length) (c - n.toNat)), (.bool open_), (.bool bad)] 72] := hb20 h18
      refine G.yl (yl_move rfl) rfl rfl rfl ?_
      refine G.yl (yl_extract rfl rfl) rfl rfl rfl ?_
      refine G.yl (yl_extract rfl rfl) rfl rfl rfl ?_
      refine G.yl (yl_assign rfl) rfl rfl rfl ?_
      refine G.yl (yl_assign rfl) rfl rfl rfl ?_
      refine G.nil ?_
      refine QA.then_normal ?_
      refine C.seq ?_
      refine C.seq ?_
      refine C.region ?_
      refine G.yl (yl_move rfl) rfl rfl rfl ?_
      refine G.yl (yl_not rfl) rfl rfl rfl ?_
      refine G.nil ?_
      refine QA.then_normal ?_
      refine C.cond_f rfl (not_f rfl) ?_
      refine C.skip ?_
      refine QA.then_normal ?_
      refine C.seq ?_
      refine C.region ?_
      refine G.does (does_lit (E := elU8) (l := ([] : List UInt8)) (vs := []) (cs := []) (e := 5) h17 rfl (by kernel_rfl) rfl rfl (by decide)) rfl rfl rfl ?_
      rintro _ w22 ⟨a21, rfl, h23⟩
      refine G.yl (yl_move rfl) rfl rfl rfl ?_
      obtain ⟨hc24, hm⟩ := sp_chk hm
      refine G.does (does_app (E := elU8) (l := ([] : List UInt8)) (l2 := b2.take n.toNat) Try.underlying39 el5 (Sat.own_zero h23 elU8 a21 5) rfl rfl rfl rfl (by decide) (View.rtake (Sat.own_view (Sat.pick [1] h23)) n.toNat) hc24 (by decide)) rfl rfl rfl ?_
      rintro _ w27 ⟨a25, c26, rfl, h28⟩
      refine G.yl (yl_assign rfl) rfl rfl rfl ?_
      refine G.nil ?_
      refine QA.then_normal ?_
      refine C.ret ?_
      refine QA.ret1 rfl rfl ?_
      have h29 : Sat W w27 [ow elU8 r114 (c - n.toNat) 5 (b2.drop n.toNat), ow elU8 a25 c26 5 (([] : List UInt8) ++ (b2.take n.toNat)), ow elU8 a21 0 5 ([] : List UInt8), blk b [(.slice r114 ((b2.drop n.toNat).length) (c - n.toNat)), (.bool open_), (.bool bad)] 72] := Sat.own_cut (Sat.pick [2, 0, 0, 0] h28) hf15
      obtain ⟨rfl, rfl, rfl⟩ := sp_ret3 hm
      exact ⟨a25, c26, r114, c - n.toNat, rfl, (Sat.pick [1, 2, 0] h29)⟩
  · refine C.cond_t rfl (not_t hc7) ?_
    refine C.seq ?_
    refine C.region ?_
    refine G.yl (yl_assign rfl) rfl rfl rfl ?_
    refine G.nil ?_
    refine QA.then_normal ?_
    refine C.ret ?_
    refine QA.then_ret ?_
    refine QA.ret1 rfl rfl ?_
    obtain ⟨rfl, rfl, rfl⟩ := sp_ret3 hm
    exact ⟨none, 0, a, c, rfl, (Sat.pick [0, 0, 0] (Sat.own_zero h3 elU8 none 5))⟩
set_option maxRecDepth 20000 in
set_option maxHeartbeats 1000000 in
theorem M_octet_Reader_Text_po_w {W : Base} {w : World} {b : Nat} {a : Option Addr} {c : Nat} {b2 : List UInt8} {open_ : Bool} {bad : Bool} {most : Int}  (h : Sat W w [blk b [(.slice a b2.length c), (.bool open_), (.bool bad)] 72, ow elU8 a c 5 b2]) {r1 : List UInt8} {r4 : List UInt8} {r5 : Bool} (hm : M_octet_Reader_Text_po b2 open_ bad most = some (r1, r4, r5)) :
    Calls Try.prog 65 #[(.pointer (some ⟨b, 0, none⟩)), (vI most)] w (Ret fun v w' => ∃ r2 : Option Addr, ∃ r3 : Nat, v = (.string (str r1)) ∧ Sat W w' [blk b [(.slice r2 r4.length r3), (.bool open_), (.bool r5)] 72, ow elU8 r2 r3 5 r4]) := by
  unfold M_octet_Reader_Text_po at hm
  refine C.enter (N := 33) Try.func65 rfl Try.ntmps65 rfl ?_
  show C _ _ _ [(0, (.pointer (some ⟨b, 0, none⟩))), (1, (vI most))] _ _
  refine C.seq ?_
  refine C.region ?_
  refine G.yl (yl_assign rfl) rfl rfl rfl ?_
  refine G.nil ?_
  refine QA.then_normal ?_
  refine C.seq ?_
  refine C.seq ?_
  refine C.region ?_
  refine G.yl (yl_move rfl) rfl rfl rfl ?_
  obtain ⟨_, hy1, hm⟩ := sp_bind hm
  refine G.does (does_fn 2 rfl rfl rfl en44 (Sat.pick [0, 0] h) (fun U hU hp hr hs => M_octet_Reader_none_po_w (b2 := b2) (open_ := open_) (bad := bad) hp hy1)) rfl rfl rfl ?_
  rintro _ w2 ⟨U5, hb6, rfl, h4⟩
  have h3 : Sat W w2 [blk b [(.slice a b2.length c), (.bool open_), (.bool bad)] 72, ow elU8 a c 5 b2] := hb6 h4
  refine G.nil ?_
  refine QA.then_normal ?_
  rcases sp_b hm with ⟨hc7, hm⟩ | ⟨hc7, hm⟩
  · refine C.cond_f rfl (not_f hc7) ?_
    refine C.skip ?_
    refine QA.then_normal ?_
    refine C.seq ?_
    refine C.region ?_
    refine G.yl (yl_move rfl) rfl rfl rfl ?_
    obtain ⟨⟨r1_2, r4_2, r5_2⟩, hy8, hm⟩ := sp_bind hm
    refine G.does (does_fn 2 rfl rfl rfl en41 (Sat.pick [0, 0] h3) (fun U hU hp hr hs => M_octet_Reader_Num_po_w (b2 := b2) (open_ := open_) (bad := bad) (width := 2) hp hy8)) rfl rfl rfl ?_
    rintro _ w11 ⟨U14, hb15, r29, r310, rfl, h13⟩
    have h12 : Sat W w11 [blk b [(.slice r29 r4_2.length r310), (.bool open_), (.bool r5_2)] 72, ow elU8 r29 r310 5 r4_2] := hb15 h13
    obtain ⟨hc16, hm⟩ := sp_chk hm
    refine G.yl (yl_64I us27 Try.underlying3 rfl hc16) rfl rfl rfl ?_
    refine G.yl (yl_assign rfl) rfl rfl rfl ?_
    refine G.nil ?_
    refine QA.then_normal ?_
    refine C.seq ?_
    refine C.join (γ := Bool) (fun g => match g with | t24 => [(0, (.pointer (some ⟨b, 0, none⟩))), (4, (.string (str ([] : List UInt8)))), (5, (vI (r1_2.toNat : Int))), (24, (.bool t24))]) (fun g ww => match g with | t24 => (M_octet_Reader_Text_po_k1 open_ r1_2 r4_2 r5_2 t24 = some (r1, r4, r5)) ∧ Sat W ww [blk b [(.slice r29 r4_2.length r310), (.bool open_), (.bool r5_2)] 72, ow elU8 r29 r310 5 r4_2]) ?_ ?_
    · refine C.region ?_
      refine G.yl (yl_move rfl) rfl rfl rfl ?_
      refine G.yl (yl_nilCheck rfl) rfl rfl rfl ?_
      refine G.yl (yl_fieldAddr fo72_0 rfl) rfl rfl rfl ?_
      refine G.yl (yl_fieldAddr fo70_2 rfl) rfl rfl rfl ?_
      refine G.yl (yl_load (v := (.bool r5_2)) ag4 rfl (View.at0 (j := 2) h12.isBlk.view0 rfl)) rfl rfl rfl ?_
      refine G.yl (yl_move rfl) rfl rfl rfl ?_
      rcases sp_b hm with ⟨hc17, hm⟩ | ⟨hc17, hm⟩
      · refine G.offU rfl rfl hc17 rfl ?_
        refine G.offU rfl rfl hc17 rfl ?_
        refine G.offU rfl rfl hc17 rfl ?_
        refine G.yl (yl_pick_t rfl hc17 rfl) rfl rfl rfl ?_
        refine G.yl (yl_move rfl) rfl rfl rfl ?_
        refine G.offU rfl rfl rfl rfl ?_
        refine G.offU rfl rfl rfl rfl ?_
        refine G.yl (yl_pick_t rfl rfl rfl) rfl rfl rfl ?_
        refine G.nil ?_
        exact QA.join true (Sub.of ⟨rfl, rfl, rfl, rfl, trivial⟩) ⟨hm, (Sat.pick [0, 0] h12)⟩
      · refine G.on rfl rfl hc17 ?_
        refine G.yl (yl_move rfl) rfl rfl rfl ?_
        refine G.on rfl rfl hc17 ?_
        refine G.yl (yl_move rfl) rfl rfl rfl ?_
        refine G.on rfl rfl hc17 ?_
        refine G.yl (yl_gtI rfl rfl) rfl rfl rfl ?_
        refine G.yl (yl_pick_f rfl hc17 rfl) rfl rfl rfl ?_
        refine G.yl (yl_move rfl) rfl rfl rfl ?_
        rcases sp_ite hm with ⟨hc18, hm⟩ | ⟨hc18, hm⟩
        · refine G.offU rfl rfl (dec_t hc18) rfl ?_
          refine G.offU rfl rfl (dec_t hc18) rfl ?_
          refine G.yl (yl_pick_t rfl (dec_t hc18) rfl) rfl rfl rfl ?_
          refine G.nil ?_
          exact QA.join true (Sub.of ⟨rfl, rfl, rfl, rfl, trivial⟩) ⟨hm, (Sat.pick [0, 0] h12)⟩
        · refine G.on rfl rfl (dec_f hc18) ?_
          refine G.yl (yl_move rfl) rfl rfl rfl ?_
          refine G.on rfl rfl (dec_f hc18) ?_
          refine G.yl (yl_gtI rfl rfl) rfl rfl rfl ?_
          refine G.yl (yl_pick_f rfl (dec_f hc18) rfl) rfl rfl rfl ?_
          refine G.nil ?_
          exact QA.join (decide ((1024 : Int) < (r1_2.toNat : Int))) (Sub.of ⟨rfl, rfl, rfl, rfl, trivial⟩) ⟨hm, (Sat.pick [0, 0] h12)⟩
    · rintro t24 w19 ⟨hm, h20⟩
      show C _ _ _ [(0, (.pointer (some ⟨b, 0, none⟩))), (4, (.string (str ([] : List UInt8)))), (5, (vI (r1_2.toNat : Int))), (24, (.bool t24))] _ _
      unfold M_octet_Reader_Text_po_k1 at hm
      rcases sp_b hm with ⟨hc21, hm⟩ | ⟨hc21, hm⟩
      · refine C.cond_t rfl hc21 ?_
        refine C.seq ?_
        refine C.region ?_
        refine G.yl (yl_move rfl) rfl rfl rfl ?_
        refine G.yl (yl_nilCheck rfl) rfl rfl rfl ?_
        refine G.yl (yl_fieldAddr fo72_0 rfl) rfl rfl rfl ?_
        obtain ⟨_, hy22, hm⟩ := sp_bind hm
        refine G.does (does_fn 2 rfl rfl rfl en62 (Sat.pick [0, 0] h20) (fun U hU hp hr hs => M_octet_rest_fail_po_w (b2 := r4_2) (open_ := open_) (bad := r5_2) hp hy22)) rfl rfl rfl ?_
        rintro _ w23 ⟨U26, hb27, rfl, h25⟩
        have h24 : Sat W w23 [blk b [(.slice none 0 0), (.bool open_), (.bool true)] 72] := hb27 h25
        refine G.nil ?_
        refine QA.then_normal ?_
        refine C.seq ?_
        refine C.region ?_
        refine G.yl (yl_assign rfl) rfl rfl rfl ?_
        refine G.nil ?_
        refine QA.then_normal ?_
        refine C.ret ?_
        refine QA.then_ret ?_
        refine QA.ret1 rfl rfl ?_
        obtain ⟨rfl, rfl, rfl⟩ := sp_ret3 hm
        exact ⟨none, 0, rfl, (Sat.pick [1, 0] (Sat.own_zero h24 elU8 none 5))⟩
      · refine C.cond_f rfl hc21 ?_
        refine C.skip ?_
        refine QA.then_normal ?_
        refine C.seq ?_
        refine C.region ?_
        refine G.yl (yl_move rfl) rfl rfl rfl ?_
        refine G.yl (yl_move rfl) rfl rfl rfl ?_
        obtain ⟨⟨r3_2, r6_2, r7_2⟩, hy28, hm⟩ := sp_bind hm
        refine G.does (does_fn 2 rfl rfl rfl en43 (Sat.pick [0, 0] h20) (fun U hU hp hr hs => M_octet_Reader_Take_po_w (b2 := r4_2) (open_ := open_) (bad := r5_2) (n := (r1_2.toNat : Int)) hp hy28)) rfl rfl rfl ?_
        rintro _ w33 ⟨U36, hb37, r129, r230, r431, r532, rfl, h35⟩
        have h34 : Sat W w33 [ow elU8 r129 r230 5 r3_2, blk b [(.slice r431 r6_2.length r532), (.bool open_), (.bool r7_2)] 72, ow elU8 r431 r532 5 r6_2] := hb37 h35
        refine G.yl (yl_strE Try.underlying39 Try.underlying5 Try.underlying9 rfl rfl (Sat.own_view h34)) rfl rfl rfl ?_
        refine G.yl (yl_assign rfl) rfl rfl rfl ?_
        refine G.nil ?_
        refine QA.then_normal ?_
        refine C.ret ?_
        refine QA.ret1 rfl rfl ?_
        obtain ⟨rfl, rfl, rfl⟩ := sp_ret3 hm
        exact ⟨r431, r532, rfl, (Sat.pick [1, 1] h34)⟩
  · refine C.cond_t rfl (not_t hc7) ?_
    refine C.seq ?_
    refine C.region ?_
    refine G.yl (yl_assign rfl) rfl rfl rfl ?_
    refine G.nil ?_
    refine QA.then_normal ?_
    refine C.ret ?_
    refine QA.then_ret ?_
    refine QA.ret1 rfl rfl ?_
    obtain ⟨rfl, rfl, rfl⟩ := sp_ret3 hm
    exact ⟨a, c, rfl, (Sat.pick [0, 0] h3)⟩
set_option maxRecDepth 20000 in
set_option maxHeartbeats 1000000 in
theorem M_octet_Reader_Bad_po_w {W : Base} {w : World} {b : Nat} {a : Option Addr} {c : Nat} {b2 : List UInt8} {open_ : Bool} {bad : Bool}  (h : Sat W w [blk b [(.slice a b2.length c), (.bool open_), (.bool bad)] 72, ow elU8 a c 5 b2]) {r1 : Bool} (hm : M_octet_Reader_Bad_po b2 open_ bad = some r1) :
    Calls Try.prog 19 #[(.pointer (some ⟨b, 0, none⟩))] w (Ret fun v w' => v = (.bool r1) ∧ Sat W w' [blk b [(.slice a b2.length c), (.bool open_), (.bool bad)] 72, ow elU8 a c 5 b2]) := by
  unfold M_octet_Reader_Bad_po at hm
  refine C.enter (N := 12) Try.func19 rfl Try.ntmps19 rfl ?_
  show C _ _ _ [(0, (.pointer (some ⟨b, 0, none⟩)))] _ _
  refine C.seq ?_
  refine C.region ?_
  refine G.yl (yl_assign rfl) rfl rfl rfl ?_
  refine G.nil ?_
  refine QA.then_normal ?_
  refine C.seq ?_
  refine C.region ?_
  refine G.yl (yl_move rfl) rfl rfl rfl ?_
  obtain ⟨_, hy1, hm⟩ := sp_bind hm
  refine G.does (does_fn 2 rfl rfl rfl en44 (Sat.pick [0, 0] h) (fun U hU hp hr hs => M_octet_Reader_none_po_w (b2 := b2) (open_ := open_) (bad := bad) hp hy1)) rfl rfl rfl ?_
  rintro _ w2 ⟨U5, hb6, rfl, h4⟩
  have h3 : Sat W w2 [blk b [(.slice a b2.length c), (.bool open_), (.bool bad)] 72, ow elU8 a c 5 b2] := hb6 h4
  refine G.yl (yl_move rfl) rfl rfl rfl ?_
  rcases sp_b hm with ⟨hc7, hm⟩ | ⟨hc7, hm⟩
  · refine G.on rfl rfl (not_f hc7) ?_
    refine G.yl (yl_move rfl) rfl rfl rfl ?_
    refine G.on rfl rfl (not_f hc7) ?_
    refine G.yl (yl_nilCheck rfl) rfl rfl rfl ?_
    refine G.on rfl rfl (not_f hc7) ?_
    refine G.yl (yl_fieldAddr fo72_0 rfl) rfl rfl rfl ?_
    refine G.on rfl rfl (not_f hc7) ?_
    refine G.yl (yl_fieldAddr fo70_2 rfl) rfl rfl rfl ?_
    refine G.on rfl rfl (not_f hc7) ?_
    refine G.yl (yl_load (v := (.bool bad)) ag4 rfl (View.at0 (j := 2) h3.isBlk.view0 rfl)) rfl rfl rfl ?_
    refine G.yl (yl_pick_f rfl (not_f hc7) rfl) rfl rfl rfl ?_
    refine G.yl (yl_assign rfl) rfl rfl rfl ?_
    refine G.nil ?_
    refine QA.then_normal ?_
    refine C.ret ?_
    refine QA.ret1 rfl rfl ?_
    obtain rfl := sp_ret1 hm
    exact ⟨rfl, (Sat.pick [0, 0] h3)⟩
  · refine G.offU rfl rfl (not_t hc7) rfl ?_
    refine G.offU rfl rfl (not_t hc7) rfl ?_
    refine G.offU rfl rfl (not_t hc7) rfl ?_
    refine G.offU rfl rfl (not_t hc7) rfl ?_
    refine G.offU rfl rfl (not_t hc7) rfl ?_
    refine G.yl (yl_pick_t rfl (not_t hc7) rfl) rfl rfl rfl ?_
    refine G.yl (yl_assign rfl) rfl rfl rfl ?_
    refine G.nil ?_
    refine QA.then_normal ?_
    refine C.ret ?_
    refine QA.ret1 rfl rfl ?_
    obtain rfl := sp_ret1 hm
    exact ⟨rfl, (Sat.pick [0, 0] h3)⟩
set_option maxRecDepth 20000 in
set_option maxHeartbeats 1000000 in
theorem M_inst_Read_po_w {W : Base} {w : World} {b : Nat} {a : Option Addr} {c : Nat} {b2 : List UInt8} {open_ : Bool} {bad : Bool}  (h : Sat W w [blk b [(.slice a b2.length c), (.bool open_), (.bool bad)] 72, ow elU8 a c 5 b2]) {r1 : G_api_Instance} {r2 : Bool} {r5 : List UInt8} {r6 : Bool} (hm : M_inst_Read_po b2 open_ bad = some (r1, r2, r5, r6)) :
    Calls Try.prog 42 #[(.pointer (some ⟨b, 0, none⟩))] w (Ret fun v w' => ∃ r3 : Option Addr, ∃ r4 : Nat, v = (.tuple #[(.agg (bytesV (List.ofFn (n := 20) r1.Publisher) ++ ([(v64 r1.Seq), (v64 r1.Born), (v32 r1.Life), (.bool r1.Gone), (v16 r1.Priority), (v16 r1.Weight), (v16 r1.Port), (.string (str r1.Target))] : List Value)).toArray), (.bool r2)]) ∧ Sat W w' [blk b [(.slice r3 r5.length r4), (.bool open_), (.bool r6)] 72, ow elU8 r3 r4 5 r5]) := by
  unfold M_inst_Read_po at hm
  refine C.enter (N := 58) Try.func42 rfl Try.ntmps42 rfl ?_
  show C _ _ _ [(0, (.pointer (some ⟨b, 0, none⟩)))] _ _
  refine C.seq ?_
  refine C.region ?_
  refine G.does (does_alloc (cs := (bytesV (List.ofFn (n := 20) (fun _ => 0)) ++ ([(.int .u64 0), (.int .u64 0), (.int .u32 0), (.bool false), (.int .u16 0), (.int .u16 0), (.int .u16 0), (.string (str ([] : List UInt8)))] : List Value))) h z31 rfl) rfl rfl rfl ?_
  rintro _ w2 ⟨b1, rfl, h3⟩
  refine G.yl (yl_assign rfl) rfl rfl rfl ?_
  refine G.nil ?_
  refine QA.then_normal ?_
  refine C.seq ?_
  refine C.region ?_
  refine G.does (does_alloc (cs := (bytesV (List.ofFn (n := 20) (fun _ => 0)) ++ ([(.int .u64 0), (.int .u64 0), (.int .u32 0), (.bool false), (.int .u16 0), (.int .u16 0), (.int .u16 0), (.string (str ([] : List UInt8)))] : List Value))) h3 z31 rfl) rfl rfl rfl ?_
  rintro _ w5 ⟨b4, rfl, h6⟩
  refine G.nil ?_
  refine QA.then_normal ?_
  refine C.seq ?_
  refine C.draw (V := fun w' => True) (nd := []) (sp := []) (n := 5) rfl h6 rfl rfl ?_
  intro w7 h8
  have hS9 : Cls (fun w' => True) [] [] #[false, false, false, false, false] w7 := Cls.keep (trivial) (by kernel_rfl)
  refine GH.yl (i := 0) (listed' := #[true, false, false, false, false]) rfl (by kernel_rfl) rfl (NP.next NP.body) rfl rfl rfl (fun w' => yl_fieldAddr fo31_0 rfl) hS9 (fun hS10 => ?_)
  refine GH.yl (i := 1) (listed' := #[true, true, false, false, false]) rfl (by kernel_rfl) rfl (NP.next NP.body) rfl rfl rfl (fun w' => yl_slice_arr (n := 20) (l := 0) (h := 20) (s := 1) (v := (.slice (some ⟨b4, 0, none⟩) 20 20)) Try.underlying26 (by kernel_rfl) (by kernel_rfl) rfl rfl rfl (by decide) (by decide) rfl) hS10 (fun hS11 => ?_)
  refine GH.yl (i := 2) (listed' := #[true, true, true, false, false]) rfl (by kernel_rfl) rfl (NP.next NP.body) rfl rfl rfl (fun w' => yl_move rfl) hS11 (fun hS12 => ?_)
  obtain ⟨⟨r3_2, r6_2, r7_2⟩, hy13, hm⟩ := sp_bind hm
  refine GH.does (i := 3) (listed' := #[true, true, true, true, false]) rfl (by kernel_rfl) rfl rfl rfl rfl (does_fn 2 rfl rfl rfl en43 (Sat.pick [2, 2, 0, 0] h8) (fun U hU hp hr hs => M_octet_Reader_Take_po_w (b2 := b2) (open_ := open_) (bad := bad) (n := 20) hp hy13)) ?_
  rintro _ w18 ⟨U21, hb22, r114, r215, r416, r517, rfl, h20⟩
  have h19 : Sat W w18 [ow elU8 r114 r215 5 r3_2, blk b [(.slice r416 r6_2.length r517), (.bool open_), (.bool r7_2)] 72, ow elU8 r416 r517 5 r6_2, blk b4 (bytesV (List.ofFn (n := 20) (fun _ => 0)) ++ ([(.int .u64 0), (.int .u64 0), (.int .u32 0), (.bool false), (.int .u16 0), (.int .u16 0), (.int .u16 0), (.string (str ([] : List UInt8)))] : List Value)) 31, blk b1 (bytesV (List.ofFn (n := 20) (fun _ => 0)) ++ ([(.int .u64 0), (.int .u64 0), (.int .u32 0), (.bool false), (.int .u16 0), (.int .u16 0), (.int .u16 0), (.string (str ([] : List UInt8)))] : List Value)) 31] := hb22 h20
  have hS23 : Cls (fun w' => True) [] [] #[true, true, true, true, false] w18 := Cls.keep (trivial) (by kernel_rfl)
  refine ⟨hS23, ?_⟩
  refine GH.does (i := 4) (listed' := #[true, true, true, true, true]) rfl (by kernel_rfl) rfl rfl rfl rfl (does_cpAH (l := r3_2) (Sat.pick [3, 0, 0, 0, 0] h19) Try.underlying39 sz5 rfl rfl rfl (Sat.own_view h19) rfl) ?_
  rintro _ w24 ⟨rfl, h25⟩
  have hS26 : Cls (fun w' => True) [] [] #[true, true, true, true, true] w24 := Cls.keep (trivial) (by kernel_rfl)
  refine ⟨hS26, ?_⟩
  refine GH.done (by kernel_rfl) ?_
  refine QA.then_normal ?_
  refine C.seq ?_
  refine C.region ?_
  refine G.yl (yl_move rfl) rfl rfl rfl ?_
  obtain ⟨⟨r1_2, r4_2, r5_2⟩, hy27, hm⟩ := sp_bind hm
  refine G.does (does_fn 2 rfl rfl rfl en41 (Sat.pick [2, 2, 0, 0, 0] h25) (fun U hU hp hr hs => M_octet_Reader_Num_po_w (b2 := r6_2) (open_ := open_) (bad := r7_2) (width := 8) hp hy27)) rfl rfl rfl ?_
  rintro _ w30 ⟨U33, hb34, r228, r329, rfl, h32⟩
  have h31 : Sat W w30 [blk b [(.slice r228 r4_2.length r329), (.bool open_), (.bool r5_2)] 72, ow elU8 r228 r329 5 r4_2, blk b4 (bytesV (List.ofFn (n := 20) (copyA (fun _ => 0) r3_2)) ++ ([(.int .u64 0), (.int .u64 0), (.int .u32 0), (.bool false), (.int .u16 0), (.int .u16 0), (.int .u16 0), (.string (str ([] : List UInt8)))] : List Value)) 31, ow elU8 r114 r215 5 r3_2, blk b1 (bytesV (List.ofFn (n := 20) (fun _ => 0)) ++ ([(.int .u64 0), (.int .u64 0), (.int .u32 0), (.bool false), (.int .u16 0), (.int .u16 0), (.int .u16 0), (.string (str ([] : List UInt8)))] : List Value)) 31] := hb34 h32
  refine G.yl (yl_move rfl) rfl rfl rfl ?_
  obtain ⟨⟨r1_3, r4_3, r5_3⟩, hy35, hm⟩ := sp_bind hm
  refine G.does (does_fn 2 rfl rfl rfl en41 (Sat.pick [0, 0, 0, 0, 0] h31) (fun U hU hp hr hs => M_octet_Reader_Num_po_w (b2 := r4_2) (open_ := open_) (bad := r5_2) (width := 8) hp hy35)) rfl rfl rfl ?_
  rintro _ w38 ⟨U41, hb42, r236, r337, rfl, h40⟩
  have h39 : Sat W w38 [blk b [(.slice r236 r4_3.length r337), (.bool open_), (.bool r5_3)] 72, ow elU8 r236 r337 5 r4_3, blk b4 (bytesV (List.ofFn (n := 20) (copyA (fun _ => 0) r3_2)) ++ ([(.int .u64 0), (.int .u64 0), (.int .u32 0), (.bool false), (.int .u16 0), (.int .u16 0), (.int .u16 0), (.string (str ([] : List UInt8)))] : List Value)) 31, ow elU8 r114 r215 5 r3_2, blk b1 (bytesV (List.ofFn (n := 20) (fun _ => 0)) ++ ([(.int .u64 0), (.int .u64 0), (.int .u32 0), (.bool false), (.int .u16 0), (.int .u16 0), (.int .u16 0), (.string (str ([] : List UInt8)))] : List Value)) 31] := hb42 h40
  refine G.yl (yl_move rfl) rfl rfl rfl ?_
  obtain ⟨⟨r1_4, r4_4, r5_4⟩, hy43, hm⟩ := sp_bind hm
  refine G.does (does_fn 2 rfl rfl rfl en41 (Sat.pick [0, 0, 0, 0, 0] h39) (fun U hU hp hr hs => M_octet_Reader_Num_po_w (b2 := r4_3) (open_ := open_) (bad := r5_3) (width := 4) hp hy43)) rfl rfl rfl ?_
  rintro _ w46 ⟨U49, hb50, r244, r345, rfl, h48⟩
  have h47 : Sat W w46 [blk b [(.slice r244 r4_4.length r345), (.bool open_), (.bool r5_4)] 72, ow elU8 r244 r345 5 r4_4, blk b4 (bytesV (List.ofFn (n := 20) (copyA (fun _ => 0) r3_2)) ++ ([(.int .u64 0), (.int .u64 0), (.int .u32 0), (.bool false), (.int .u16 0), (.int .u16 0), (.int .u16 0), (.string (str ([] : List UInt8)))] : List Value)) 31, ow elU8 r114 r215 5 r3_2, blk b1 (bytesV (List.ofFn (n := 20) (fun _ => 0)) ++ ([(.int .u64 0), (.int .u64 0), (.int .u32 0), (.bool false), (.int .u16 0), (.int .u16 0), (.int .u16 0), (.string (str ([] : List UInt8)))] : List Value)) 31] := hb50 h48
  refine G.yl (yl_64to32 us27 Try.underlying28 rfl) rfl rfl rfl ?_
  refine G.yl (yl_fieldAddr fo31_1 rfl) rfl rfl rfl ?_
  refine G.unit (does_store (vs := [(v64 r1_2)]) (Sat.pick [2, 0, 0, 0, 0] h47) sz27 rfl rfl rfl (by simp [bytesV_length]) (List.forall_mem_cons.2 ⟨rfl, (fun _ hh => by cases hh)⟩) (by simp [bytesV_length])) rfl rfl ?_
  rintro _ w51 h53
  have h52 : Sat W w51 [blk b4 (bytesV (List.ofFn (n := 20) (copyA (fun _ => 0) r3_2)) ++ ([(v64 r1_2), (.int .u64 0), (.int .u32 0), (.bool false), (.int .u16 0), (.int .u16 0), (.int .u16 0), (.string (str ([] : List UInt8)))] : List Value)) 31, blk b [(.slice r244 r4_4.length r345), (.bool open_), (.bool r5_4)] 72, ow elU8 r244 r345 5 r4_4, ow elU8 r114 r215 5 r3_2, blk b1 (bytesV (List.ofFn (n := 20) (fun _ => 0)) ++ ([(.int .u64 0), (.int .u64 0), (.int .u32 0), (.bool false), (.int .u16 0), (.int .u16 0), (.int .u16 0), (.string (str ([] : List UInt8)))] : List Value)) 31] := sl_blk (by kernel_rfl) h53
  refine G.yl (yl_fieldAddr fo31_2 rfl) rfl rfl rfl ?_
  refine G.unit (does_store (vs := [(v64 r1_3)]) h52 sz27 rfl rfl rfl (by simp [bytesV_length]) (List.forall_mem_cons.2 ⟨rfl, (fun _ hh => by cases hh)⟩) (by simp [bytesV_length])) rfl rfl ?_
  rintro _ w54 h56
  have h55 : Sat W w54 [blk b4 (bytesV (List.ofFn (n := 20) (copyA (fun _ => 0) r3_2)) ++ ([(v64 r1_2), (v64 r1_3), (.int .u32 0), (.bool false), (.int .u16 0), (.int .u16 0), (.int .u16 0), (.string (str ([] : List UInt8)))] : List Value)) 31, blk b [(.slice r244 r4_4.length r345), (.bool open_), (.bool r5_4)] 72, ow elU8 r244 r345 5 r4_4, ow elU8 r114 r215 5 r3_2, blk b1 (bytesV (List.ofFn (n := 20) (fun _ => 0)) ++ ([(.int .u64 0), (.int .u64 0), (.int .u32 0), (.bool false), (.int .u16 0), (.int .u16 0), (.int .u16 0), (.string (str ([] : List UInt8)))] : List Value)) 31] := sl_blk (by kernel_rfl) h56
  refine G.yl (yl_fieldAddr fo31_3 rfl) rfl rfl rfl ?_
  refine G.unit (does_store (vs := [(v32 r1_4.toUInt32)]) h55 sz28 rfl rfl rfl (by simp [bytesV_length]) (List.forall_mem_cons.2 ⟨rfl, (fun _ hh => by cases hh)⟩) (by simp [bytesV_length])) rfl rfl ?_
  rintro _ w57 h59
  have h58 : Sat W w57 [blk b4 (bytesV (List.ofFn (n := 20) (copyA (fun _ => 0) r3_2)) ++ ([(v64 r1_2), (v64 r1_3), (v32 r1_4.toUInt32), (.bool false), (.int .u16 0), (.int .u16 0), (.int .u16 0), (.string (str ([] : List UInt8)))] : List Value)) 31, blk b [(.slice r244 r4_4.length r345), (.bool open_), (.bool r5_4)] 72, ow elU8 r244 r345 5 r4_4, ow elU8 r114 r215 5 r3_2, blk b1 (bytesV (List.ofFn (n := 20) (fun _ => 0)) ++ ([(.int .u64 0), (.int .u64 0), (.int .u32 0), (.bool false), (.int .u16 0), (.int .u16 0), (.int .u16 0), (.string (str ([] : List UInt8)))] : List Value)) 31] := sl_blk (by kernel_rfl) h59
  refine G.nil ?_
  refine QA.then_normal ?_
  refine C.seq ?_
  refine C.region ?_
  refine G.yl (yl_move rfl) rfl rfl rfl ?_
  obtain ⟨⟨r1_5, r4_5, r5_5⟩, hy60, hm⟩ := sp_bind hm
  refine G.does (does_fn 2 rfl rfl rfl en41 (Sat.pick [1, 1, 0, 0, 0] h58) (fun U hU hp hr hs => M_octet_Reader_Num_po_w (b2 := r4_4) (open_ := open_) (bad := r5_4) (width := 1) hp hy60)) rfl rfl rfl ?_
  rintro _ w63 ⟨U66, hb67, r261, r362, rfl, h65⟩
  have h64 : Sat W w63 [blk b [(.slice r261 r4_5.length r362), (.bool open_), (.bool r5_5)] 72, ow elU8 r261 r362 5 r4_5, blk b4 (bytesV (List.ofFn (n := 20) (copyA (fun _ => 0) r3_2)) ++ ([(v64 r1_2), (v64 r1_3), (v32 r1_4.toUInt32), (.bool false), (.int .u16 0), (.int .u16 0), (.int .u16 0), (.string (str ([] : List UInt8)))] : List Value)) 31, ow elU8 r114 r215 5 r3_2, blk b1 (bytesV (List.ofFn (n := 20) (fun _ => 0)) ++ ([(.int .u64 0), (.int .u64 0), (.int .u32 0), (.bool false), (.int .u16 0), (.int .u16 0), (.int .u16 0), (.string (str ([] : List UInt8)))] : List Value)) 31] := hb67 h65
  refine G.yl (yl_assign rfl) rfl rfl rfl ?_
  refine G.nil ?_
  refine QA.then_normal ?_
  refine C.seq ?_
  refine C.region ?_
  refine G.yl (yl_move rfl) rfl rfl rfl ?_
  refine G.yl (yl_eq64 (b := 1) rfl rfl) rfl rfl rfl ?_
  refine G.yl (yl_fieldAddr fo31_4 rfl) rfl rfl rfl ?_
  refine G.unit (does_store (vs := [(.bool (decide (r1_5 = 1)))]) (Sat.pick [2, 0, 0, 0, 0] h64) sz4 rfl rfl rfl (by simp [bytesV_length]) (List.forall_mem_cons.2 ⟨rfl, (fun _ hh => by cases hh)⟩) (by simp [bytesV_length])) rfl rfl ?_
  rintro _ w68 h70
  have h69 : Sat W w68 [blk b4 (bytesV (List.ofFn (n := 20) (copyA (fun _ => 0) r3_2)) ++ ([(v64 r1_2), (v64 r1_3), (v32 r1_4.toUInt32), (.bool (decide (r1_5 = 1))), (.int .u16 0), (.int .u16 0), (.int .u16 0), (.string (str ([] : List UInt8)))] : List Value)) 31, blk b [(.slice r261 r4_5.length r362), (.bool open_), (.bool r5_5)] 72, ow elU8 r261 r362 5 r4_5, ow elU8 r114 r215 5 r3_2, blk b1 (bytesV (List.ofFn (n := 20) (fun _ => 0)) ++ ([(.int .u64 0), (.int .u64 0), (.int .u32 0), (.bool false), (.int .u16 0), (.int .u16 0), (.int .u16 0), (.string (str ([] : List UInt8)))] : List Value)) 31] := sl_blk (by kernel_rfl) h70
  refine G.nil ?_
  refine QA.then_normal ?_
  refine C.join (γ := Option Addr × Nat × List UInt8 × Bool × G_api_Instance) (fun g => match g with | (a_2, c_2, b_2, bad_2, i) => [(0, (.pointer (some ⟨b, 0, none⟩))), (2, (.pointer (some ⟨b1, 0, none⟩))), (3, (.bool false)), (4, (.pointer (some ⟨b4, 0, none⟩))), (5, (v64 r1_5))]) (fun g ww => match g with | (a_2, c_2, b_2, bad_2, i) => (M_inst_Read_po_k1 open_ r1_5 b_2 bad_2 i = some (r1, r2, r5, r6)) ∧ Sat W ww [blk b [(.slice a_2 b_2.length c_2), (.bool open_), (.bool bad_2)] 72, ow elU8 a_2 c_2 5 b_2, blk b1 (bytesV (List.ofFn (n := 20) (fun _ => 0)) ++ ([(.int .u64 0), (.int .u64 0), (.int .u32 0), (.bool false), (.int .u16 0), (.int .u16 0), (.int .u16 0), (.string (str ([] : List UInt8)))] : List Value)) 31, blk b4 (bytesV (List.ofFn (n := 20) i.Publisher) ++ ([(v64 i.Seq), (v64 i.Born), (v32 i.Life), (.bool i.Gone), (v16 i.Priority), (v16 i.Weight), (v16 i.Port), (.string (str i.Target))] : List Value)) 31]) ?_ ?_
  · refine C.seq ?_
    refine C.region ?_
    refine G.yl (yl_move rfl) rfl rfl rfl ?_
    refine G.yl (yl_eq64 (b := 0) rfl rfl) rfl rfl rfl ?_
    refine G.nil ?_
    refine QA.then_normal ?_
    rcases sp_ite hm with ⟨hc71, hm⟩ | ⟨hc71, hm⟩
    · refine C.cond_t rfl (dec_t hc71) ?_
      refine C.seq ?_
      refine C.region ?_
      refine G.yl (yl_move rfl) rfl rfl rfl ?_
      obtain ⟨⟨r1_6, r4_6, r5_6⟩, hy72, hm⟩ := sp_bind hm
      refine G.does (does_fn 2 rfl rfl rfl en41 (Sat.pick [1, 1, 0, 0, 0] h69) (fun U hU hp hr hs => M_octet_Reader_Num_po_w (b2 := r4_5) (open_ := open_) (bad := r5_5) (width := 2) hp hy72)) rfl rfl rfl ?_
      rintro _ w75 ⟨U78, hb79, r273, r374, rfl, h77⟩
      have h76 : Sat W w75 [blk b [(.slice r273 r4_6.length r374), (.bool open_), (.bool r5_6)] 72, ow elU8 r273 r374 5 r4_6, blk b4 (bytesV (List.ofFn (n := 20) (copyA (fun _ => 0) r3_2)) ++ ([(v64 r1_2), (v64 r1_3), (v32 r1_4.toUInt32), (.bool (decide (r1_5 = 1))), (.int .u16 0), (.int .u16 0), (.int .u16 0), (.string (str ([] : List UInt8)))] : List Value)) 31, ow elU8 r114 r215 5 r3_2, blk b1 (bytesV (List.ofFn (n := 20) (fun _ => 0)) ++ ([(.int .u64 0), (.int .u64 0), (.int .u32 0), (.bool false), (.int .u16 0), (.int .u16 0), (.int .u16 0), (.string (str ([] : List UInt8)))] : List Value)) 31] := hb79 h77
      refine G.yl (yl_64to16 us27 Try.underlying29 rfl) rfl rfl rfl ?_
      refine G.yl (yl_move rfl) rfl rfl rfl ?_
      obtain ⟨⟨r1_7, r4_7, r5_7⟩, hy80, hm⟩ := sp_bind hm
      refine G.does (does_fn 2 rfl rfl rfl en41 (Sat.pick [0, 0, 0, 0, 0] h76) (fun U hU hp hr hs => M_octet_Reader_Num_po_w (b2 := r4_6) (open_ := open_) (bad := r5_6) (width := 2) hp hy80)) rfl rfl rfl ?_
      rintro _ w83 ⟨U86, hb87, r281, r382, rfl, h85⟩
      have h84 : Sat W w83 [blk b [(.slice r281 r4_7.length r382), (.bool open_), (.bool r5_7)] 72, ow elU8 r281 r382 5 r4_7, blk b4 (bytesV (List.ofFn (n := 20) (copyA (fun _ => 0) r3_2)) ++ ([(v64 r1_2), (v64 r1_3), (v32 r1_4.toUInt32), (.bool (decide (r1_5 = 1))), (.int .u16 0), (.int .u16 0), (.int .u16 0), (.string (str ([] : List UInt8)))] : List Value)) 31, ow elU8 r114 r215 5 r3_2, blk b1 (bytesV (List.ofFn (n := 20) (fun _ => 0)) ++ ([(.int .u64 0), (.int .u64 0), (.int .u32 0), (.bool false), (.int .u16 0), (.int .u16 0), (.int .u16 0), (.string (str ([] : List UInt8)))] : List Value)) 31] := hb87 h85
      refine G.yl (yl_64to16 us27 Try.underlying29 rfl) rfl rfl rfl ?_
      refine G.yl (yl_move rfl) rfl rfl rfl ?_
      obtain ⟨⟨r1_8, r4_8, r5_8⟩, hy88, hm⟩ := sp_bind hm
      refine G.does (does_fn 2 rfl rfl rfl en41 (Sat.pick [0, 0, 0, 0, 0] h84) (fun U hU hp hr hs => M_octet_Reader_Num_po_w (b2 := r4_7) (open_ := open_) (bad := r5_7) (width := 2) hp hy88)) rfl rfl rfl ?_
      rintro _ w91 ⟨U94, hb95, r289, r390, rfl, h93⟩
      have h92 : Sat W w91 [blk b [(.slice r289 r4_8.length r390), (.bool open_), (.bool r5_8)] 72, ow elU8 r289 r390 5 r4_8, blk b4 (bytesV (List.ofFn (n := 20) (copyA (fun _ => 0) r3_2)) ++ ([(v64 r1_2), (v64 r1_3), (v32 r1_4.toUInt32), (.bool (decide (r1_5 = 1))), (.int .u16 0), (.int .u16 0), (.int .u16 0), (.string (str ([] : List UInt8)))] : List Value)) 31, ow elU8 r114 r215 5 r3_2, blk b1 (bytesV (List.ofFn (n := 20) (fun _ => 0)) ++ ([(.int .u64 0), (.int .u64 0), (.int .u32 0), (.bool false), (.int .u16 0), (.int .u16 0), (.int .u16 0), (.string (str ([] : List UInt8)))] : List Value)) 31] := hb95 h93
      refine G.yl (yl_64to16 us27 Try.underlying29 rfl) rfl rfl rfl ?_
      refine G.yl (yl_fieldAddr fo31_5 rfl) rfl rfl rfl ?_
      refine G.unit (does_store (vs := [(v16 r1_6.toUInt16)]) (Sat.pick [2, 0, 0, 0, 0] h92) sz29 rfl rfl rfl (by simp [bytesV_length]) (List.forall_mem_cons.2 ⟨rfl, (fun _ hh => by cases hh)⟩) (by simp [bytesV_length])) rfl rfl ?_
      rintro _ w96 h98
      have h97 : Sat W w96 [blk b4 (bytesV (List.ofFn (n := 20) (copyA (fun _ => 0) r3_2)) ++ ([(v64 r1_2), (v64 r1_3), (v32 r1_4.toUInt32), (.bool (decide (r1_5 = 1))), (v16 r1_6.toUInt16), (.int .u16 0), (.int .u16 0), (.string (str ([] : List UInt8)))] : List Value)) 31, blk b [(.slice r289 r4_8.length r390), (.bool open_), (.bool r5_8)] 72, ow elU8 r289 r390 5 r4_8, ow elU8 r114 r215 5 r3_2, blk b1 (bytesV (List.ofFn (n := 20) (fun _ => 0)) ++ ([(.int .u64 0), (.int .u64 0), (.int .u32 0), (.bool false), (.int .u16 0), (.int .u16 0), (.int .u16 0), (.string (str ([] : List UInt8)))] : List Value)) 31] := sl_blk (by kernel_rfl) h98
      refine G.yl (yl_fieldAddr fo31_6 rfl) rfl rfl rfl ?_
      refine G.unit (does_store (vs := [(v16 r1_7.toUInt16)]) h97 sz29 rfl rfl rfl (by simp [bytesV_length]) (List.forall_mem_cons.2 ⟨rfl, (fun _ hh => by cases hh)⟩) (by simp [bytesV_length])) rfl rfl ?_
      rintro _ w99 h101
      have h100 : Sat W w99 [blk b4 (bytesV (List.ofFn (n := 20) (copyA (fun _ => 0) r3_2)) ++ ([(v64 r1_2), (v64 r1_3), (v32 r1_4.toUInt32), (.bool (decide (r1_5 = 1))), (v16 r1_6.toUInt16), (v16 r1_7.toUInt16), (.int .u16 0), (.string (str ([] : List UInt8)))] : List Value)) 31, blk b [(.slice r289 r4_8.length r390), (.bool open_), (.bool r5_8)] 72, ow elU8 r289 r390 5 r4_8, ow elU8 r114 r215 5 r3_2, blk b1 (bytesV (List.ofFn (n := 20) (fun _ => 0)) ++ ([(.int .u64 0), (.int .u64 0), (.int .u32 0), (.bool false), (.int .u16 0), (.int .u16 0), (.int .u16 0), (.string (str ([] : List UInt8)))] : List Value)) 31] := sl_blk (by kernel_rfl) h101
      refine G.yl (yl_fieldAddr fo31_7 rfl) rfl rfl rfl ?_
      refine G.unit (does_store (vs := [(v16 r1_8.toUInt16)]) h100 sz29 rfl rfl rfl (by simp [bytesV_length]) (List.forall_mem_cons.2 ⟨rfl, (fun _ hh => by cases hh)⟩) (by simp [bytesV_length])) rfl rfl ?_
      rintro _ w102 h104
      have h103 : Sat W w102 [blk b4 (bytesV (List.ofFn (n := 20) (copyA (fun _ => 0) r3_2)) ++ ([(v64 r1_2), (v64 r1_3), (v32 r1_4.toUInt32), (.bool (decide (r1_5 = 1))), (v16 r1_6.toUInt16), (v16 r1_7.toUInt16), (v16 r1_8.toUInt16), (.string (str ([] : List UInt8)))] : List Value)) 31, blk b [(.slice r289 r4_8.length r390), (.bool open_), (.bool r5_8)] 72, ow elU8 r289 r390 5 r4_8, ow elU8 r114 r215 5 r3_2, blk b1 (bytesV (List.ofFn (n := 20) (fun _ => 0)) ++ ([(.int .u64 0), (.int .u64 0), (.int .u32 0), (.bool false), (.int .u16 0), (.int .u16 0), (.int .u16 0), (.string (str ([] : List UInt8)))] : List Value)) 31] := sl_blk (by kernel_rfl) h104
      refine G.nil ?_
      refine QA.then_normal ?_
      refine C.region ?_
      refine G.yl (yl_move rfl) rfl rfl rfl ?_
      obtain ⟨⟨r1_9, r4_9, r5_9⟩, hy105, hm⟩ := sp_bind hm
      refine G.does (does_fn 2 rfl rfl rfl en65 (Sat.pick [1, 1, 0, 0, 0] h103) (fun U hU hp hr hs => M_octet_Reader_Text_po_w (b2 := r4_8) (open_ := open_) (bad := r5_8) (most := 1024) hp hy105)) rfl rfl rfl ?_
      rintro _ w108 ⟨U111, hb112, r2106, r3107, rfl, h110⟩
      have h109 : Sat W w108 [blk b [(.slice r2106 r4_9.length r3107), (.bool open_), (.bool r5_9)] 72, ow elU8 r2106 r3107 5 r4_9, blk b4 (bytesV (List.ofFn (n := 20) (copyA (fun _ => 0) r3_2)) ++ ([(v64 r1_2), (v64 r1_3), (v32 r1_4.toUInt32), (.bool (decide (r1_5 = 1))), (v16 r1_6.toUInt16), (v16 r1_7.toUInt16), (v16 r1_8.toUInt16), (.string (str ([] : List UInt8)))] : List Value)) 31, ow elU8 r114 r215 5 r3_2, blk b1 (bytesV (List.ofFn (n := 20) (fun _ => 0)) ++ ([(.int .u64 0), (.int .u64 0), (.int .u32 0), (.bool false), (.int .u16 0), (.int .u16 0), (.int .u16 0), (.string (str ([] : List UInt8)))] : List Value)) 31] := hb112 h110
      refine G.yl (yl_fieldAddr fo31_8 rfl) rfl rfl rfl ?_
      refine G.unit (does_store (vs := [(.string (str r1_9))]) (Sat.pick [2, 0, 0, 0, 0] h109) sz9 rfl rfl rfl (by simp [bytesV_length]) (List.forall_mem_cons.2 ⟨rfl, (fun _ hh => by cases hh)⟩) (by simp [bytesV_length])) rfl rfl ?_
      rintro _ w113 h115
      have h114 : Sat W w113 [blk b4 (bytesV (List.ofFn (n := 20) (copyA (fun _ => 0) r3_2)) ++ ([(v64 r1_2), (v64 r1_3), (v32 r1_4.toUInt32), (.bool (decide (r1_5 = 1))), (v16 r1_6.toUInt16), (v16 r1_7.toUInt16), (v16 r1_8.toUInt16), (.string (str r1_9))] : List Value)) 31, blk b [(.slice r2106 r4_9.length r3107), (.bool open_), (.bool r5_9)] 72, ow elU8 r2106 r3107 5 r4_9, ow elU8 r114 r215 5 r3_2, blk b1 (bytesV (List.ofFn (n := 20) (fun _ => 0)) ++ ([(.int .u64 0), (.int .u64 0), (.int .u32 0), (.bool false), (.int .u16 0), (.int .u16 0), (.int .u16 0), (.string (str ([] : List UInt8)))] : List Value)) 31] := sl_blk (by kernel_rfl) h115
      refine G.nil ?_
      exact QA.join (r2106, r3107, r4_9, r5_9, (G_api_Instance.mk (copyA (fun _ => 0) r3_2) r1_2 r1_3 r1_4.toUInt32 (decide (r1_5 = 1)) r1_6.toUInt16 r1_7.toUInt16 r1_8.toUInt16 r1_9)) (Sub.of ⟨rfl, rfl, rfl, rfl, rfl, trivial⟩) ⟨hm, (Sat.pick [1, 1, 2, 0] h114)⟩
    · refine C.cond_f rfl (dec_f hc71) ?_
      refine C.skip ?_
      exact QA.join (r261, r362, r4_5, r5_5, (G_api_Instance.mk (copyA (fun _ => 0) r3_2) r1_2 r1_3 r1_4.toUInt32 (decide (r1_5 = 1)) 0 0 0 ([] : List UInt8))) (Sub.of ⟨rfl, rfl, rfl, rfl, rfl, trivial⟩) ⟨hm, (Sat.pick [1, 1, 2, 0] h69)⟩
  · rintro ⟨a_2, c_2, b_2, bad_2, i⟩ w116 ⟨hm, h117⟩
    show C _ _ _ [(0, (.pointer (some ⟨b, 0, none⟩))), (2, (.pointer (some ⟨b1, 0, none⟩))), (3, (.bool false)), (4, (.pointer (some ⟨b4, 0, none⟩))), (5, (v64 r1_5))] _ _
    unfold M_inst_Read_po_k1 at hm
    refine C.seq ?_
    refine C.join (γ := Bool) (fun g => match g with | t53 => [(0, (.pointer (some ⟨b, 0, none⟩))), (2, (.pointer (some ⟨b1, 0, none⟩))), (3, (.bool false)), (4, (.pointer (some ⟨b4, 0, none⟩))), (53, (.bool t53))]) (fun g ww => match g with | t53 => (M_inst_Read_po_k2 b_2 bad_2 i open_ t53 = some (r1, r2, r5, r6)) ∧ Sat W ww [blk b [(.slice a_2 b_2.length c_2), (.bool open_), (.bool bad_2)] 72, ow elU8 a_2 c_2 5 b_2, blk b1 (bytesV (List.ofFn (n := 20) (fun _ => 0)) ++ ([(.int .u64 0), (.int .u64 0), (.int .u32 0), (.bool false), (.int .u16 0), (.int .u16 0), (.int .u16 0), (.string (str ([] : List UInt8)))] : List Value)) 31, blk b4 (bytesV (List.ofFn (n := 20) i.Publisher) ++ ([(v64 i.Seq), (v64 i.Born), (v32 i.Life), (.bool i.Gone), (v16 i.Priority), (v16 i.Weight), (v16 i.Port), (.string (str i.Target))] : List Value)) 31]) ?_ ?_
    · refine C.region ?_
      refine G.yl (yl_move rfl) rfl rfl rfl ?_
      obtain ⟨r1_10, hy118, hm⟩ := sp_bind hm
      refine G.does (does_fn 2 rfl rfl rfl en19 (Sat.pick [0, 0, 0, 0] h117) (fun U hU hp hr hs => M_octet_Reader_Bad_po_w (b2 := b_2) (open_ := open_) (bad := bad_2) hp hy118)) rfl rfl rfl ?_
      rintro _ w119 ⟨U122, hb123, rfl, h121⟩
      have h120 : Sat W w119 [blk b [(.slice a_2 b_2.length c_2), (.bool open_), (.bool bad_2)] 72, ow elU8 a_2 c_2 5 b_2, blk b1 (bytesV (List.ofFn (n := 20) (fun _ => 0)) ++ ([(.int .u64 0), (.int .u64 0), (.int .u32 0), (.bool false), (.int .u16 0), (.int .u16 0), (.int .u16 0), (.string (str ([] : List UInt8)))] : List Value)) 31, blk b4 (bytesV (List.ofFn (n := 20) i.Publisher) ++ ([(v64 i.Seq), (v64 i.Born), (v32 i.Life), (.bool i.Gone), (v16 i.Priority), (v16 i.Weight), (v16 i.Port), (.string (str i.Target))] : List Value)) 31] := hb123 h121
      refine G.yl (yl_move rfl) rfl rfl rfl ?_
      rcases sp_b hm with ⟨hc124, hm⟩ | ⟨hc124, hm⟩
      · refine G.offU rfl rfl hc124 rfl ?_
        refine G.offU rfl rfl hc124 rfl ?_
        refine G.yl (yl_pick_t rfl hc124 rfl) rfl rfl rfl ?_
        refine G.yl (yl_move rfl) rfl rfl rfl ?_
        refine G.offU rfl rfl rfl rfl ?_
        refine G.offU rfl rfl rfl rfl ?_
        refine G.offU rfl rfl rfl rfl ?_
        refine G.yl (yl_pick_t rfl rfl rfl) rfl rfl rfl ?_
        refine G.nil ?_
        exact QA.join true (Sub.of ⟨rfl, rfl, rfl, rfl, rfl, trivial⟩) ⟨hm, (Sat.pick [0, 0, 0, 0] h120)⟩
      · refine G.on rfl rfl hc124 ?_
        refine G.yl (yl_move rfl) rfl rfl rfl ?_
        refine G.on rfl rfl hc124 ?_
        refine G.yl (yl_gt64 (b := 1) rfl rfl) rfl rfl rfl ?_
        refine G.yl (yl_pick_f rfl hc124 rfl) rfl rfl rfl ?_
        refine G.yl (yl_move rfl) rfl rfl rfl ?_
        rcases sp_ite hm with ⟨hc125, hm⟩ | ⟨hc125, hm⟩
        · refine G.offU rfl rfl (dec_t hc125) rfl ?_
          refine G.offU rfl rfl (dec_t hc125) rfl ?_
          refine G.offU rfl rfl (dec_t hc125) rfl ?_
          refine G.yl (yl_pick_t rfl (dec_t hc125) rfl) rfl rfl rfl ?_
          refine G.nil ?_
          exact QA.join true (Sub.of ⟨rfl, rfl, rfl, rfl, rfl, trivial⟩) ⟨hm, (Sat.pick [0, 0, 0, 0] h120)⟩
        · refine G.on rfl rfl (dec_f hc125) ?_
          refine G.yl (yl_loadN (vs := (bytesV (List.ofFn (n := 20) i.Publisher) ++ ([(v64 i.Seq), (v64 i.Born), (v32 i.Life), (.bool i.Gone), (v16 i.Priority), (v16 i.Weight), (v16 i.Port), (.string (str i.Target))] : List Value))) ag31 sz31 (by simp [bytesV_length]) rfl ((Sat.pick [3] h120).isBlk.view0)) rfl rfl rfl ?_
          refine G.on rfl rfl (dec_f hc125) ?_
          obtain ⟨r1_11, hy126, hm⟩ := sp_bind hm
          refine G.does (does_fn 0 rfl rfl rfl en8 h120 (fun U hU hp hr hs => M_inst_Good_w (i := i) hp hy126)) rfl rfl rfl ?_
          rintro _ w127 ⟨U130, hb131, rfl, h129⟩
          have h128 : Sat W w127 [blk b [(.slice a_2 b_2.length c_2), (.bool open_), (.bool bad_2)] 72, ow elU8 a_2 c_2 5 b_2, blk b1 (bytesV (List.ofFn (n := 20) (fun _ => 0)) ++ ([(.int .u64 0), (.int .u64 0), (.int .u32 0), (.bool false), (.int .u16 0), (.int .u16 0), (.int .u16 0), (.string (str ([] : List UInt8)))] : List Value)) 31, blk b4 (bytesV (List.ofFn (n := 20) i.Publisher) ++ ([(v64 i.Seq), (v64 i.Born), (v32 i.Life), (.bool i.Gone), (v16 i.Priority), (v16 i.Weight), (v16 i.Port), (.string (str i.Target))] : List Value)) 31] := hb131 h129
          refine G.on rfl rfl (dec_f hc125) ?_
          refine G.yl (yl_not rfl) rfl rfl rfl ?_
          refine G.yl (yl_pick_f rfl (dec_f hc125) rfl) rfl rfl rfl ?_
          refine G.nil ?_
          exact QA.join (!r1_11) (Sub.of ⟨rfl, rfl, rfl, rfl, rfl, trivial⟩) ⟨hm, (Sat.pick [0, 0, 0, 0] h128)⟩
    · rintro t53 w132 ⟨hm, h133⟩
      show C _ _ _ [(0, (.pointer (some ⟨b, 0, none⟩))), (2, (.pointer (some ⟨b1, 0, none⟩))), (3, (.bool false)), (4, (.pointer (some ⟨b4, 0, none⟩))), (53, (.bool t53))] _ _
      unfold M_inst_Read_po_k2 at hm
      rcases sp_b hm with ⟨hc134, hm⟩ | ⟨hc134, hm⟩
      · refine C.cond_t rfl hc134 ?_
        refine C.seq ?_
        refine C.region ?_
        refine G.yl (yl_move rfl) rfl rfl rfl ?_
        obtain ⟨⟨r3_3, r6_3, r7_3⟩, hy135, hm⟩ := sp_bind hm
        refine G.does (does_fn 2 rfl rfl rfl en43 (Sat.pick [0, 0, 0, 0] h133) (fun U hU hp hr hs => M_octet_Reader_Take_po_w (b2 := b_2) (open_ := open_) (bad := bad_2) (n := (-1)) hp hy135)) rfl rfl rfl ?_
        rintro _ w140 ⟨U143, hb144, r1136, r2137, r4138, r5139, rfl, h142⟩
        have h141 : Sat W w140 [ow elU8 r1136 r2137 5 r3_3, blk b [(.slice r4138 r6_3.length r5139), (.bool open_), (.bool r7_3)] 72, ow elU8 r4138 r5139 5 r6_3, blk b1 (bytesV (List.ofFn (n := 20) (fun _ => 0)) ++ ([(.int .u64 0), (.int .u64 0), (.int .u32 0), (.bool false), (.int .u16 0), (.int .u16 0), (.int .u16 0), (.string (str ([] : List UInt8)))] : List Value)) 31, blk b4 (bytesV (List.ofFn (n := 20) i.Publisher) ++ ([(v64 i.Seq), (v64 i.Born), (v32 i.Life), (.bool i.Gone), (v16 i.Priority), (v16 i.Weight), (v16 i.Port), (.string (str i.Target))] : List Value)) 31] := hb144 h142
        refine G.nil ?_
        refine QA.then_normal ?_
        refine C.seq ?_
        refine C.region ?_
        refine G.yl (yl_build (vs := []) (cells := (bytesV (List.ofFn (n := 20) (fun _ => 0)) ++ ([(.int .u64 0), (.int .u64 0), (.int .u32 0), (.bool false), (.int .u16 0), (.int .u16 0), (.int .u16 0), (.string (str ([] : List UInt8)))] : List Value)).toArray) rfl (by kernel_rfl)) rfl rfl rfl ?_
        refine G.unit (does_store (vs := (bytesV (List.ofFn (n := 20) (fun _ => 0)) ++ ([(.int .u64 0), (.int .u64 0), (.int .u32 0), (.bool false), (.int .u16 0), (.int .u16 0), (.int .u16 0), (.string (str ([] : List UInt8)))] : List Value))) (Sat.pick [3, 0, 0, 0, 0] h141) sz31 rfl rfl rfl (by simp [bytesV_length]) (List.forall_mem_append.2 ⟨(bytesV_one _), (List.forall_mem_cons.2 ⟨rfl, (List.forall_mem_cons.2 ⟨rfl, (List.forall_mem_cons.2 ⟨rfl, (List.forall_mem_cons.2 ⟨rfl, (List.forall_mem_cons.2 ⟨rfl, (List.forall_mem_cons.2 ⟨rfl, (List.forall_mem_cons.2 ⟨rfl, (List.forall_mem_cons.2 ⟨rfl, (fun _ hh => by cases hh)⟩)⟩)⟩)⟩)⟩)⟩)⟩)⟩)⟩) (by simp [bytesV_length])) rfl rfl ?_
        rintro _ w145 h147
        have h146 : Sat W w145 [blk b1 (bytesV (List.ofFn (n := 20) (fun _ => 0)) ++ ([(.int .u64 0), (.int .u64 0), (.int .u32 0), (.bool false), (.int .u16 0), (.int .u16 0), (.int .u16 0), (.string (str ([] : List UInt8)))] : List Value)) 31, ow elU8 r1136 r2137 5 r3_3, blk b [(.slice r4138 r6_3.length r5139), (.bool open_), (.bool r7_3)] 72, ow elU8 r4138 r5139 5 r6_3, blk b4 (bytesV (List.ofFn (n := 20) i.Publisher) ++ ([(v64 i.Seq), (v64 i.Born), (v32 i.Life), (.bool i.Gone), (v16 i.Priority), (v16 i.Weight), (v16 i.Port), (.string (str i.Target))] : List Value)) 31] := sl_blk (setN_all _ _ (by simp [bytesV_length])) h147
        refine G.yl (yl_assign rfl) rfl rfl rfl ?_
        refine G.nil ?_
        refine QA.then_normal ?_
        refine C.ret ?_
        refine QA.then_ret ?_
        refine QA.ret_ct rfl (InCell.many (vs := (bytesV (List.ofFn (n := 20) (fun _ => 0)) ++ ([(.int .u64 0), (.int .u64 0), (.int .u32 0), (.bool false), (.int .u16 0), (.int .u16 0), (.int .u16 0), (.string (str ([] : List UInt8)))] : List Value))) rfl ag31 sz31 (by simp [bytesV_length]) (h146.isBlk.view0)) rfl ?_
        obtain ⟨rfl, rfl, rfl, rfl⟩ := sp_ret4 hm
        exact ⟨r4138, r5139, rfl, (Sat.pick [2, 2] h146)⟩
      · refine C.cond_f rfl hc134 ?_
        refine C.skip ?_
        refine QA.then_normal ?_
        refine C.seq ?_
        refine C.region ?_
        refine G.yl (yl_loadN (vs := (bytesV (List.ofFn (n := 20) i.Publisher) ++ ([(v64 i.Seq), (v64 i.Born), (v32 i.Life), (.bool i.Gone), (v16 i.Priority), (v16 i.Weight), (v16 i.Port), (.string (str i.Target))] : List Value))) ag31 sz31 (by simp [bytesV_length]) rfl ((Sat.pick [3] h133).isBlk.view0)) rfl rfl rfl ?_
        refine G.unit (does_store (vs := (bytesV (List.ofFn (n := 20) i.Publisher) ++ ([(v64 i.Seq), (v64 i.Born), (v32 i.Life), (.bool i.Gone), (v16 i.Priority), (v16 i.Weight), (v16 i.Port), (.string (str i.Target))] : List Value))) (Sat.pick [2, 0, 0, 0] h133) sz31 rfl rfl rfl (by simp [bytesV_length]) (List.forall_mem_append.2 ⟨(bytesV_one _), (List.forall_mem_cons.2 ⟨rfl, (List.forall_mem_cons.2 ⟨rfl, (List.forall_mem_cons.2 ⟨rfl, (List.forall_mem_cons.2 ⟨rfl, (List.forall_mem_cons.2 ⟨rfl, (List.forall_mem_cons.2 ⟨rfl, (List.forall_mem_cons.2 ⟨rfl, (List.forall_mem_cons.2 ⟨rfl, (fun _ hh => by cases hh)⟩)⟩)⟩)⟩)⟩)⟩)⟩)⟩)⟩) (by simp [bytesV_length])) rfl rfl ?_
        rintro _ w148 h150
        have h149 : Sat W w148 [blk b1 (bytesV (List.ofFn (n := 20) i.Publisher) ++ ([(v64 i.Seq), (v64 i.Born), (v32 i.Life), (.bool i.Gone), (v16 i.Priority), (v16 i.Weight), (v16 i.Port), (.string (str i.Target))] : List Value)) 31, blk b [(.slice a_2 b_2.length c_2), (.bool open_), (.bool bad_2)] 72, ow elU8 a_2 c_2 5 b_2, blk b4 (bytesV (List.ofFn (n := 20) i.Publisher) ++ ([(v64 i.Seq), (v64 i.Born), (v32 i.Life), (.bool i.Gone), (v16 i.Priority), (v16 i.Weight), (v16 i.Port), (.string (str i.Target))] : List Value)) 31] := sl_blk (setN_all _ _ (by simp [bytesV_length])) h150
        refine G.yl (yl_assign rfl) rfl rfl rfl ?_
        refine G.nil ?_
        refine QA.then_normal ?_
        refine C.ret ?_
        refine QA.ret_ct rfl (InCell.many (vs := (bytesV (List.ofFn (n := 20) i.Publisher) ++ ([(v64 i.Seq), (v64 i.Born), (v32 i.Life), (.bool i.Gone), (v16 i.Priority), (v16 i.Weight), (v16 i.Port), (.string (str i.Target))] : List Value))) rfl ag31 sz31 (by simp [bytesV_length]) (h149.isBlk.view0)) rfl ?_
        obtain ⟨rfl, rfl, rfl, rfl⟩ := sp_ret4 hm
        exact ⟨a_2, c_2, rfl, (Sat.pick [1, 1] h149)⟩
set_option maxRecDepth 20000 in
set_option maxHeartbeats 1000000 in
theorem M_roster_Read_po_w {W : Base} {w : World} {b : Nat} {a : Option Addr} {c : Nat} {b2 : List UInt8} {open_ : Bool} {bad : Bool}  (h : Sat W w [blk b [(.slice a b2.length c), (.bool open_), (.bool bad)] 72, ow elU8 a c 5 b2]) {r3 : List G_api_Instance} {r6 : List UInt8} {r7 : Bool} (hm : M_roster_Read_po b2 open_ bad = some (r3, r6, r7)) :
    Calls Try.prog 17 #[(.pointer (some ⟨b, 0, none⟩))] w (Ret fun v w' => ∃ r1 : Option Addr, ∃ r2 : Nat, ∃ r4 : Option Addr, ∃ r5 : Nat, v = (.slice r1 r3.length r2) ∧ Sat W w' [ow el_G_api_Instance r1 r2 31 r3, blk b [(.slice r4 r6.length r5), (.bool open_), (.bool r7)] 72, ow elU8 r4 r5 5 r6]) := by
  unfold M_roster_Read_po at hm
  refine C.enter (N := 27) Try.func17 rfl Try.ntmps17 rfl ?_
  show C _ _ _ [(0, (.pointer (some ⟨b, 0, none⟩)))] _ _
  refine C.seq ?_
  refine C.region ?_
  refine G.yl (yl_assign rfl) rfl rfl rfl ?_
  refine G.nil ?_
  refine QA.then_normal ?_
  refine C.seq ?_
  refine C.seq ?_
  refine C.region ?_
  refine G.yl (yl_move rfl) rfl rfl rfl ?_
  obtain ⟨⟨r1_2, r4_2, r5_2⟩, hy1, hm⟩ := sp_bind hm
  refine G.does (does_fn 2 rfl rfl rfl en41 (Sat.pick [0, 0] h) (fun U hU hp hr hs => M_octet_Reader_Num_po_w (b2 := b2) (open_ := open_) (bad := bad) (width := 1) hp hy1)) rfl rfl rfl ?_
  rintro _ w4 ⟨U7, hb8, r22, r33, rfl, h6⟩
  have h5 : Sat W w4 [blk b [(.slice r22 r4_2.length r33), (.bool open_), (.bool r5_2)] 72, ow elU8 r22 r33 5 r4_2] := hb8 h6
  refine G.yl (yl_move rfl) rfl rfl rfl ?_
  refine G.nil ?_
  refine QA.then_normal ?_
  refine C.block ?_
  obtain ⟨o, ho9, hm10⟩ := sp_bind hm
  refine C.left (γ := Option Addr × Nat × List UInt8 × Bool × Option Addr × Nat × List G_api_Instance) (.exit 0) (fun g => match g with | (a_4, c_4, b_3, bad_3, a_5, c_5, out_2) => [(0, (.pointer (some ⟨b, 0, none⟩))), (2, (.slice a_5 out_2.length c_5))]) (fun g ww => match g with | (a_4, c_4, b_3, bad_3, a_5, c_5, out_2) => .inl (b_3, bad_3, out_2) = o ∧ Sat W ww [blk b [(.slice a_4 b_3.length c_4), (.bool open_), (.bool bad_3)] 72, ow elU8 a_4 c_4 5 b_3, ow el_G_api_Instance a_5 c_5 31 out_2]) ?_ ?_
  · refine C.loopO (γ := Option Addr × Nat × List UInt8 × Bool × Option Addr × Nat × List G_api_Instance × UInt64) (fun g => match g with | (a_2, c_2, b_2, bad_2, a_3, c_3, out, t7) => [(0, (.pointer (some ⟨b, 0, none⟩))), (2, (.slice a_3 out.length c_3)), (6, (v64 r1_2)), (7, (v64 t7))]) (fun g ww => match g with | (a_2, c_2, b_2, bad_2, a_3, c_3, out, t7) => Sat W ww [blk b [(.slice a_2 b_2.length c_2), (.bool open_), (.bool bad_2)] 72, ow elU8 a_2 c_2 5 b_2, ow el_G_api_Instance a_3 c_3 31 out]) (fun g => match g with | (a_2, c_2, b_2, bad_2, a_3, c_3, out, t7) => (b_2, bad_2, out, t7)) (r22, r33, r4_2, r5_2, none, 0, ([] : List G_api_Instance), 0) ho9 (Sub.of ⟨rfl, rfl, rfl, rfl, trivial⟩) (Sat.pick [1, 1, 0] (Sat.own_zero h5 el_G_api_Instance none 31)) ?_
    rintro ⟨a_2, c_2, b_2, bad_2, a_3, c_3, out, t7⟩ k13 w11 y_ h12 hm hg14
    show C _ _ _ [(0, (.pointer (some ⟨b, 0, none⟩))), (2, (.slice a_3 out.length c_3)), (6, (v64 r1_2)), (7, (v64 t7))] _ _
    change M_roster_Read_po_b1 open_ r1_2 b_2 bad_2 out t7 = some y_ at hm
    unfold M_roster_Read_po_b1 at hm
    refine C.seq ?_
    refine C.region ?_
    refine G.yl (yl_lt64 rfl rfl) rfl rfl rfl ?_
    refine G.nil ?_
    refine QA.then_normal ?_
    refine C.seq ?_
    rcases sp_ite hm with ⟨hc15, hm⟩ | ⟨hc15, hm⟩
    · refine C.cond_t rfl (dec_t hc15) ?_
      refine C.skip ?_
      refine QA.then_normal ?_
      refine C.seq ?_
      refine C.block ?_
      refine C.seq ?_
      refine C.region ?_
      refine G.yl (yl_move rfl) rfl rfl rfl ?_
      obtain ⟨⟨r1_3, r2_2, r5_3, r6_2⟩, hy16, hm⟩ := sp_bind hm
      refine G.does (does_fn 2 rfl rfl rfl en42 (Sat.pick [0, 0, 0] h12) (fun U hU hp hr hs => M_inst_Read_po_w (b2 := b_2) (open_ := open_) (bad := bad_2) hp hy16)) rfl rfl rfl ?_
      rintro _ w19 ⟨U22, hb23, r317, r418, rfl, h21⟩
      have h20 : Sat W w19 [blk b [(.slice r317 r5_3.length r418), (.bool open_), (.bool r6_2)] 72, ow elU8 r317 r418 5 r5_3, ow el_G_api_Instance a_3 c_3 31 out] := hb23 h21
      refine G.yl (yl_move rfl) rfl rfl rfl ?_
      refine G.yl (yl_extract rfl rfl) rfl rfl rfl ?_
      refine G.yl (yl_extract rfl rfl) rfl rfl rfl ?_
      refine G.does (does_alloc (cs := (bytesV (List.ofFn (n := 20) (fun _ => 0)) ++ ([(.int .u64 0), (.int .u64 0), (.int .u32 0), (.bool false), (.int .u16 0), (.int .u16 0), (.int .u16 0), (.string (str ([] : List UInt8)))] : List Value))) h20 z31 rfl) rfl rfl rfl ?_
      rintro _ w25 ⟨b24, rfl, h26⟩
      refine G.unit (does_store (vs := (bytesV (List.ofFn (n := 20) r1_3.Publisher) ++ ([(v64 r1_3.Seq), (v64 r1_3.Born), (v32 r1_3.Life), (.bool r1_3.Gone), (v16 r1_3.Priority), (v16 r1_3.Weight), (v16 r1_3.Port), (.string (str r1_3.Target))] : List Value))) h26 sz31 rfl rfl rfl (by simp [bytesV_length]) (List.forall_mem_append.2 ⟨(bytesV_one _), (List.forall_mem_cons.2 ⟨rfl, (List.forall_mem_cons.2 ⟨rfl, (List.forall_mem_cons.2 ⟨rfl, (List.forall_mem_cons.2 ⟨rfl, (List.forall_mem_cons.2 ⟨rfl, (List.forall_mem_cons.2 ⟨rfl, (List.forall_mem_cons.2 ⟨rfl, (List.forall_mem_cons.2 ⟨rfl, (fun _ hh => by cases hh)⟩)⟩)⟩)⟩)⟩)⟩)⟩)⟩)⟩) (by simp [bytesV_length])) rfl rfl ?_
      rintro _ w27 h29
      have h28 : Sat W w27 [blk b24 (bytesV (List.ofFn (n := 20) r1_3.Publisher) ++ ([(v64 r1_3.Seq), (v64 r1_3.Born), (v32 r1_3.Life), (.bool r1_3.Gone), (v16 r1_3.Priority), (v16 r1_3.Weight), (v16 r1_3.Port), (.string (str r1_3.Target))] : List Value)) 31, blk b [(.slice r317 r5_3.length r418), (.bool open_), (.bool r6_2)] 72, ow elU8 r317 r418 5 r5_3, ow el_G_api_Instance a_3 c_3 31 out] := sl_blk (setN_all _ _ (by simp [bytesV_length])) h29
      refine G.yl (yl_assign rfl) rfl rfl rfl ?_
      refine G.nil ?_
      refine QA.then_normal ?_
      refine C.seq ?_
      refine C.seq ?_
      refine C.region ?_
      refine G.yl (yl_move rfl) rfl rfl rfl ?_
      refine G.yl (yl_not rfl) rfl rfl rfl ?_
      refine G.nil ?_
      refine QA.then_normal ?_
      rcases sp_b hm with ⟨hc30, hm⟩ | ⟨hc30, hm⟩
      · refine C.cond_f rfl (not_f hc30) ?_
        refine C.skip ?_
        refine QA.then_normal ?_
        refine C.region ?_
        refine G.yl (yl_move rfl) rfl rfl rfl ?_
        refine G.yl (yl_loadN (vs := (bytesV (List.ofFn (n := 20) r1_3.Publisher) ++ ([(v64 r1_3.Seq), (v64 r1_3.Born), (v32 r1_3.Life), (.bool r1_3.Gone), (v16 r1_3.Priority), (v16 r1_3.Weight), (v16 r1_3.Port), (.string (str r1_3.Target))] : List Value))) ag31 sz31 (by simp [bytesV_length]) rfl (h28.isBlk.view0)) rfl rfl rfl ?_
        refine G.does (does_lit (E := el_G_api_Instance) (l := [r1_3]) (vs := [(.agg (bytesV (List.ofFn (n := 20) r1_3.Publisher) ++ ([(v64 r1_3.Seq), (v64 r1_3.Born), (v32 r1_3.Life), (.bool r1_3.Gone), (v16 r1_3.Priority), (v16 r1_3.Weight), (v16 r1_3.Port), (.string (str r1_3.Target))] : List Value)).toArray)]) (cs := (bytesV (List.ofFn (n := 20) r1_3.Publisher) ++ ([(v64 r1_3.Seq), (v64 r1_3.Born), (v32 r1_3.Life), (.bool r1_3.Gone), (v16 r1_3.Priority), (v16 r1_3.Weight), (v16 r1_3.Port), (.string (str r1_3.Target))] : List Value))) (e := 31) h28 rfl (by kernel_rfl) rfl rfl (by decide)) rfl rfl rfl ?_
        rintro _ w32 ⟨a31, rfl, h33⟩
        obtain ⟨hc34, hm⟩ := sp_chk hm
        refine G.does (does_app (E := el_G_api_Instance) (l := out) (l2 := [r1_3]) Try.underlying22 el31 (Sat.pick [4, 0, 0, 0, 0] h33) rfl rfl rfl rfl (by decide) (Sat.own_view h33) hc34 (by decide)) rfl rfl rfl ?_
        rintro _ w37 ⟨a35, c36, rfl, h38⟩
        refine G.yl (yl_assign rfl) rfl rfl rfl ?_
        refine G.nil ?_
        refine QA.block_normal ?_
        refine QA.then_normal ?_
        refine C.region ?_
        refine G.yl (yl_add64 (b := 1) rfl rfl) rfl rfl rfl ?_
        refine G.yl (yl_move rfl) rfl rfl rfl ?_
        refine G.nil ?_
        obtain rfl := sp_ret1 hm
        exact QA.againO (r317, r418, r5_3, r6_2, a35, c36, out ++ [r1_3], t7 + 1) hg14 (Sub.of ⟨rfl, rfl, rfl, rfl, trivial⟩) (Sat.pick [3, 3, 0] h38)
      · refine C.cond_t rfl (not_t hc30) ?_
        refine C.seq ?_
        refine C.region ?_
        refine G.yl (yl_assign rfl) rfl rfl rfl ?_
        refine G.nil ?_
        refine QA.then_normal ?_
        refine C.ret ?_
        refine QA.then_ret ?_
        refine QA.block_ret ?_
        refine QA.then_ret ?_
        refine QA.then_ret ?_
        refine QA.past (by simp) ?_
        refine QA.block_ret ?_
        refine QA.then_ret ?_
        refine QA.ret1 rfl rfl ?_
        obtain rfl := sp_ret1 hm
        obtain rfl : .inr (([] : List G_api_Instance), r5_3, r6_2) = o := hg14
        have hm : some (([] : List G_api_Instance), r5_3, r6_2) = some (r3, r6, r7) := hm10
        obtain ⟨rfl, rfl, rfl⟩ := sp_ret3 hm
        exact ⟨none, 0, r317, r418, rfl, (Sat.pick [0, 1, 1] (Sat.own_zero h28 el_G_api_Instance none 31))⟩
    · refine C.cond_f rfl (dec_f hc15) ?_
      refine C.exit ?_
      refine QA.then_exit ?_
      refine QA.then_exit ?_
      obtain rfl := sp_ret1 hm
      exact QA.left (a_2, c_2, b_2, bad_2, a_3, c_3, out) (Sub.of ⟨rfl, rfl, trivial⟩) ⟨hg14, (Sat.pick [0, 0, 0] h12)⟩
  · rintro ⟨a_4, c_4, b_3, bad_3, a_5, c_5, out_2⟩ w39 ⟨rfl, h40⟩
    have hm := hm10
    show QA _ _ [(0, (.pointer (some ⟨b, 0, none⟩))), (2, (.slice a_5 out_2.length c_5))] _ _
    refine QA.block_here ?_
    refine QA.then_normal ?_
    refine C.seq ?_
    refine C.seq ?_
    refine C.region ?_
    refine G.yl (yl_move rfl) rfl rfl rfl ?_
    obtain ⟨r1_4, hy41, hm⟩ := sp_bind hm
    refine G.does (does_fn 0 rfl rfl rfl en10 h40 (fun U hU hp hr hs => M_roster_Good_v_w (l := out_2) (Rest.view (Rest.front 2 hr)) (Sat.own_cap (Sat.pick [2] h40)).1 hp hy41)) rfl rfl rfl ?_
    rintro _ w42 ⟨U45, hb46, rfl, h44⟩
    have h43 : Sat W w42 [blk b [(.slice a_4 b_3.length c_4), (.bool open_), (.bool bad_3)] 72, ow elU8 a_4 c_4 5 b_3, ow el_G_api_Instance a_5 c_5 31 out_2] := hb46 h44
    refine G.yl (yl_not rfl) rfl rfl rfl ?_
    refine G.nil ?_
    refine QA.then_normal ?_
    rcases sp_b hm with ⟨hc47, hm⟩ | ⟨hc47, hm⟩
    · refine C.cond_f rfl (not_f hc47) ?_
      refine C.skip ?_
      refine QA.then_normal ?_
      refine C.seq ?_
      refine C.region ?_
      refine G.yl (yl_move rfl) rfl rfl rfl ?_
      refine G.yl (yl_assign rfl) rfl rfl rfl ?_
      refine G.nil ?_
      refine QA.then_normal ?_
      refine C.ret ?_
      refine QA.ret1 rfl rfl ?_
      obtain ⟨rfl, rfl, rfl⟩ := sp_ret3 hm
      exact ⟨a_5, c_5, a_4, c_4, rfl, (Sat.pick [2, 0, 0] h43)⟩
    · refine C.cond_t rfl (not_t hc47) ?_
      refine C.seq ?_
      refine C.region ?_
      refine G.yl (yl_move rfl) rfl rfl rfl ?_
      obtain ⟨⟨r3_2, r6_3, r7_2⟩, hy48, hm⟩ := sp_bind hm
      refine G.does (does_fn 2 rfl rfl rfl en43 (Sat.pick [0, 0, 0] h43) (fun U hU hp hr hs => M_octet_Reader_Take_po_w (b2 := b_3) (open_ := open_) (bad := bad_3) (n := (-1)) hp hy48)) rfl rfl rfl ?_
      rintro _ w53 ⟨U56, hb57, r149, r250, r451, r552, rfl, h55⟩
      have h54 : Sat W w53 [ow elU8 r149 r250 5 r3_2, blk b [(.slice r451 r6_3.length r552), (.bool open_), (.bool r7_2)] 72, ow elU8 r451 r552 5 r6_3, ow el_G_api_Instance a_5 c_5 31 out_2] := hb57 h55
      refine G.nil ?_
      refine QA.then_normal ?_
      refine C.seq ?_
      refine C.region ?_
      refine G.yl (yl_assign rfl) rfl rfl rfl ?_
      refine G.nil ?_
      refine QA.then_normal ?_
      refine C.ret ?_
      refine QA.then_ret ?_
      refine QA.ret1 rfl rfl ?_
      obtain ⟨rfl, rfl, rfl⟩ := sp_ret3 hm
      exact ⟨none, 0, r451, r552, rfl, (Sat.pick [0, 1, 1] (Sat.own_zero h54 el_G_api_Instance none 31))⟩
set_option maxRecDepth 20000 in
set_option maxHeartbeats 1000000 in
theorem M_signpostref12_Same_vv_w {W : Base} {w : World} {a : Option Addr} {c : Nat} {a2 : List G_api_Instance} {a3 : Option Addr} {c2 : Nat} {b : List G_api_Instance} (hv_a2 : V W a (el_G_api_Instance.row a2)) (hq_a2 : a2.length ≤ c) (hv_b : V W a3 (el_G_api_Instance.row b)) (hq_b : b.length ≤ c2) (h : Sat W w []) {r1 : Bool} (hm : M_signpostref12_Same_vv a2 b = some r1) :
    Calls Try.prog 16 #[(.slice a a2.length c), (.slice a3 b.length c2)] w (Ret fun v w' => v = (.bool r1) ∧ Sat W w' []) := by
  unfold M_signpostref12_Same_vv at hm
  refine C.enter (N := 26) Try.func16 rfl Try.ntmps16 rfl ?_
  show C _ _ _ [(0, (.slice a a2.length c)), (1, (.slice a3 b.length c2))] _ _
  refine C.seq ?_
  refine C.region ?_
  refine G.yl (yl_assign rfl) rfl rfl rfl ?_
  refine G.nil ?_
  refine QA.then_normal ?_
  refine C.seq ?_
  refine C.seq ?_
  refine C.region ?_
  refine G.yl (yl_move rfl) rfl rfl rfl ?_
  refine G.yl (yl_lenE Try.underlying22 rfl) rfl rfl rfl ?_
  refine G.yl (yl_move rfl) rfl rfl rfl ?_
  refine G.yl (yl_lenE Try.underlying22 rfl) rfl rfl rfl ?_
  refine G.yl (yl_neI rfl rfl) rfl rfl rfl ?_
  refine G.nil ?_
  refine QA.then_normal ?_
  rcases sp_ite hm with ⟨hc1, hm⟩ | ⟨hc1, hm⟩
  · refine C.cond_f rfl (not_f (dec_t hc1)) ?_
    refine C.skip ?_
    refine QA.then_normal ?_
    refine C.seq ?_
    refine C.seq ?_
    refine C.region ?_
    refine G.yl (yl_assign rfl) rfl rfl rfl ?_
    refine G.nil ?_
    refine QA.then_normal ?_
    refine C.block ?_
    obtain ⟨o, ho2, hm3⟩ := sp_bind hm
    refine C.left (γ := Unit) (.exit 0) (fun g => match g with | () => [(4, (.bool false))]) (fun g ww => match g with | () => .inl () = o ∧ Sat W ww []) ?_ ?_
    · refine C.loopO (γ := Int) (fun g => match g with | i => [(0, (.slice a a2.length c)), (1, (.slice a3 b.length c2)), (4, (.bool false)), (5, (vI i))]) (fun g ww => match g with | i => Sat W ww []) (fun g => match g with | i => i) 0 ho2 (Sub.of ⟨rfl, rfl, rfl, rfl, trivial⟩) (Sat.pick [] h) ?_
      rintro i k6 w4 y_ h5 hm hg7
      show C _ _ _ [(0, (.slice a a2.length c)), (1, (.slice a3 b.length c2)), (4, (.bool false)), (5, (vI i))] _ _
      change M_signpostref12_Same_vv_b1 a2 b i = some y_ at hm
      unfold M_signpostref12_Same_vv_b1 at hm
      refine C.seq ?_
      refine C.seq ?_
      refine C.region ?_
      refine G.yl (yl_move rfl) rfl rfl rfl ?_
      refine G.yl (yl_move rfl) rfl rfl rfl ?_
      refine G.yl (yl_lenE Try.underlying22 rfl) rfl rfl rfl ?_
      refine G.yl (yl_ltI rfl rfl) rfl rfl rfl ?_
      refine G.nil ?_
      refine QA.then_normal ?_
      rcases sp_ite hm with ⟨hc8, hm⟩ | ⟨hc8, hm⟩
      · refine C.cond_t rfl (dec_t hc8) ?_
        refine C.skip ?_
        refine QA.then_normal ?_
        refine C.seq ?_
        refine C.block ?_
        refine C.seq ?_
        refine C.draw (V := fun w' => View w' a (el_G_api_Instance.row a2) ∧ View w' a3 (el_G_api_Instance.row b)) (nd := [3, 7]) (sp := []) (n := 9) rfl h5 rfl rfl ?_
        intro w9 h10
        have hS11 : Cls (fun w' => View w' a (el_G_api_Instance.row a2) ∧ View w' a3 (el_G_api_Instance.row b)) [3, 7] [] #[false, false, false, false, false, false, false, false, false] w9 := Cls.keep (⟨(hv_a2.at_ h10), (hv_b.at_ h10)⟩) (by kernel_rfl)
        refine GH.yl (i := 0) (listed' := #[true, false, false, false, false, false, false, false, false]) rfl (by kernel_rfl) rfl (NP.next (NP.block (NP.next (NP.next (NP.left (by simp) (NP.block (NP.next NP.body))))))) rfl rfl rfl (fun w' => yl_move rfl) hS11 (fun hS12 => ?_)
        refine GH.yl (i := 1) (listed' := #[true, true, false, false, false, false, false, false, false]) rfl (by kernel_rfl) rfl (NP.next (NP.block (NP.next (NP.next (NP.left (by simp) (NP.block (NP.next NP.body))))))) rfl rfl rfl (fun w' => yl_move rfl) hS12 (fun hS13 => ?_)
        obtain ⟨x, hy14, hm⟩ := sp_bind hm
        refine GH.yl (i := 2) (listed' := #[true, true, true, false, false, false, false, false, false]) rfl (by kernel_rfl) rfl (NP.next (NP.block (NP.next (NP.next (NP.left (by simp) (NP.block (NP.next NP.body))))))) rfl rfl rfl (fun w' => yl_ixP (l := a2) sl22 rfl rfl (View.isA (E := el_G_api_Instance) (hv_a2.at_ h10) (by decide) (at?_lt hy14)) rfl (at?_lt hy14)) hS13 (fun hS15 => ?_)
        refine GH.yr (i := 3) (listed' := #[true, true, true, true, false, false, false, false, false]) rfl (by kernel_rfl) rfl rfl (NP.next (NP.block (NP.next (NP.next (NP.left (by simp) (NP.block (NP.next NP.body))))))) rfl rfl rfl (fun w' hw' => yl_ldE (E := el_G_api_Instance) ag31 sz31 rfl (hw'.1) (at?_some hy14).2) hS15 (fun hS16 => ?_)
        refine GH.yl (i := 4) (listed' := #[true, true, true, true, true, false, false, false, false]) rfl (by kernel_rfl) rfl (NP.next (NP.block (NP.next (NP.next (NP.left (by simp) (NP.block (NP.next NP.body))))))) rfl rfl rfl (fun w' => yl_move rfl) hS16 (fun hS17 => ?_)
        refine GH.yl (i := 5) (listed' := #[true, true, true, true, true, true, false, false, false]) rfl (by kernel_rfl) rfl (NP.next (NP.block (NP.next (NP.next (NP.left (by simp) (NP.block (NP.next NP.body))))))) rfl rfl rfl (fun w' => yl_move rfl) hS17 (fun hS18 => ?_)
        obtain ⟨x_2, hy19, hm⟩ := sp_bind hm
        refine GH.yl (i := 6) (listed' := #[true, true, true, true, true, true, true, false, false]) rfl (by kernel_rfl) rfl (NP.next (NP.block (NP.next (NP.next (NP.left (by simp) (NP.block (NP.next NP.body))))))) rfl rfl rfl (fun w' => yl_ixP (l := b) sl22 rfl rfl (View.isA (E := el_G_api_Instance) (hv_b.at_ h10) (by decide) (at?_lt hy19)) rfl (at?_lt hy19)) hS18 (fun hS20 => ?_)
        refine GH.yr (i := 7) (listed' := #[true, true, true, true, true, true, true, true, false]) rfl (by kernel_rfl) rfl rfl (NP.next (NP.block (NP.next (NP.next (NP.left (by simp) (NP.block (NP.next NP.body))))))) rfl rfl rfl (fun w' hw' => yl_ldE (E := el_G_api_Instance) ag31 sz31 rfl (hw'.2) (at?_some hy19).2) hS20 (fun hS21 => ?_)
        obtain ⟨hc22, hm⟩ := sp_chk hm
        obtain ⟨hc23, hm⟩ := sp_chk hm
        refine GH.yl (i := 8) (listed' := #[true, true, true, true, true, true, true, true, true]) rfl (by kernel_rfl) rfl (NP.next (NP.block (NP.next (NP.next (NP.left (by simp) (NP.block (NP.next NP.body))))))) rfl rfl rfl (fun w' => yl_ne_agg (r := decide (x = x_2)) (vs := (el_G_api_Instance.f x)) (us := (el_G_api_Instance.f x_2)) rfl rfl (by rw [decide_eq_true_eq]; exact G_api_Instance_inj) eqT31.1 eqT31.2.1 eqT31.2.2.1 eqT31.2.2.2.1 eqT31.2.2.2.2 (G_api_Instance_fits x hc22) (G_api_Instance_fits x_2 hc23)) hS21 (fun hS24 => ?_)
        refine GH.done (by kernel_rfl) ?_
        refine QA.then_normal ?_
        rcases sp_ite hm with ⟨hc25, hm⟩ | ⟨hc25, hm⟩
        · refine C.cond_f rfl (not_f (dec_t hc25)) ?_
          refine C.skip ?_
          refine QA.block_normal ?_
          refine QA.then_normal ?_
          refine C.region ?_
          refine G.yl (yl_move rfl) rfl rfl rfl ?_
          obtain ⟨hc26, hm⟩ := sp_chk hm
          refine G.yl (yl_addI rfl rfl hc26) rfl rfl rfl ?_
          refine G.yl (yl_assign rfl) rfl rfl rfl ?_
          refine G.nil ?_
          obtain rfl := sp_ret1 hm
          exact QA.againO (i + 1) hg7 (Sub.of ⟨rfl, rfl, rfl, rfl, trivial⟩) (Sat.pick [] h10)
        · refine C.cond_t rfl (not_t (dec_f hc25)) ?_
          refine C.seq ?_
          refine C.region ?_
          refine G.yl (yl_assign rfl) rfl rfl rfl ?_
          refine G.nil ?_
          refine QA.then_normal ?_
          refine C.ret ?_
          refine QA.block_ret ?_
          refine QA.then_ret ?_
          refine QA.then_ret ?_
          refine QA.past (by simp) ?_
          refine QA.block_ret ?_
          refine QA.then_ret ?_
          refine QA.ret1 rfl rfl ?_
          obtain rfl := sp_ret1 hm
          obtain rfl : .inr false = o := hg7
          have hm : some false = some r1 := hm3
          obtain rfl := sp_ret1 hm
          exact ⟨rfl, (Sat.pick [] h10)⟩
      · refine C.cond_f rfl (dec_f hc8) ?_
        refine C.exit ?_
        refine QA.then_exit ?_
        refine QA.then_exit ?_
        obtain rfl := sp_ret1 hm
        exact QA.left () (Sub.of ⟨rfl, trivial⟩) ⟨hg7, (Sat.pick [] h5)⟩
    · rintro _ w27 ⟨rfl, h28⟩
      have hm := hm3
      show QA _ _ [(4, (.bool false))] _ _
      refine QA.block_here ?_
      refine QA.then_normal ?_
      refine C.seq ?_
      refine C.region ?_
      refine G.yl (yl_assign rfl) rfl rfl rfl ?_
      refine G.nil ?_
      refine QA.then_normal ?_
      refine C.ret ?_
      refine QA.ret1 rfl rfl ?_
      obtain rfl := sp_ret1 hm
      exact ⟨rfl, (Sat.pick [] h28)⟩
  · refine C.cond_t rfl (not_t (dec_f hc1)) ?_
    refine C.seq ?_
    refine C.region ?_
    refine G.yl (yl_assign rfl) rfl rfl rfl ?_
    refine G.nil ?_
    refine QA.then_normal ?_
    refine C.ret ?_
    refine QA.then_ret ?_
    refine QA.ret1 rfl rfl ?_
    obtain rfl := sp_ret1 hm
    exact ⟨rfl, (Sat.pick [] h)⟩
set_option maxRecDepth 20000 in
set_option maxHeartbeats 1000000 in
theorem M_octet_rest_left_po_w {W : Base} {w : World} {b : Nat} {a : Option Addr} {c : Nat} {b2 : List UInt8} {open_ : Bool} {bad : Bool}  (h : Sat W w [blk b [(.slice a b2.length c), (.bool open_), (.bool bad)] 72, ow elU8 a c 5 b2])  (hm : M_octet_rest_left_po b2 open_ bad = some ()) :
    Calls Try.prog 45 #[(.pointer (some ⟨b, 0, none⟩))] w (Ret fun v w' => v = (vI (b2.length : Int)) ∧ Sat W w' [blk b [(.slice a b2.length c), (.bool open_), (.bool bad)] 72, ow elU8 a c 5 b2]) := by
  unfold M_octet_rest_left_po at hm
  refine C.enter (N := 8) Try.func45 rfl Try.ntmps45 rfl ?_
  show C _ _ _ [(0, (.pointer (some ⟨b, 0, none⟩)))] _ _
  refine C.seq ?_
  refine C.region ?_
  refine G.yl (yl_assign rfl) rfl rfl rfl ?_
  refine G.nil ?_
  refine QA.then_normal ?_
  refine C.seq ?_
  refine C.region ?_
  refine G.yl (yl_move rfl) rfl rfl rfl ?_
  refine G.yl (yl_nilCheck rfl) rfl rfl rfl ?_
  refine G.yl (yl_fieldAddr fo70_0 rfl) rfl rfl rfl ?_
  refine G.yl (yl_load (v := (.slice a b2.length c)) ag39 rfl (View.at0 (j := 0) h.isBlk.view0 rfl)) rfl rfl rfl ?_
  refine G.yl (yl_lenE Try.underlying39 rfl) rfl rfl rfl ?_
  refine G.yl (yl_assign rfl) rfl rfl rfl ?_
  refine G.nil ?_
  refine QA.then_normal ?_
  refine C.ret ?_
  refine QA.ret1 rfl rfl ?_
  exact ⟨rfl, (Sat.pick [0, 0] h)⟩
set_option maxRecDepth 20000 in
set_option maxHeartbeats 1000000 in
theorem M_octet_Reader_Left_po_w {W : Base} {w : World} {b : Nat} {a : Option Addr} {c : Nat} {b2 : List UInt8} {open_ : Bool} {bad : Bool}  (h : Sat W w [blk b [(.slice a b2.length c), (.bool open_), (.bool bad)] 72, ow elU8 a c 5 b2]) {r1 : Int} (hm : M_octet_Reader_Left_po b2 open_ bad = some r1) :
    Calls Try.prog 18 #[(.pointer (some ⟨b, 0, none⟩))] w (Ret fun v w' => v = (vI r1) ∧ Sat W w' [blk b [(.slice a b2.length c), (.bool open_), (.bool bad)] 72, ow elU8 a c 5 b2]) := by
  unfold M_octet_Reader_Left_po at hm
  refine C.enter (N := 9) Try.func18 rfl Try.ntmps18 rfl ?_
  show C _ _ _ [(0, (.pointer (some ⟨b, 0, none⟩)))] _ _
  refine C.seq ?_
  refine C.region ?_
  refine G.yl (yl_assign rfl) rfl rfl rfl ?_
  refine G.nil ?_
  refine QA.then_normal ?_
  refine C.seq ?_
  refine C.seq ?_
  refine C.region ?_
  refine G.yl (yl_move rfl) rfl rfl rfl ?_
  obtain ⟨_, hy1, hm⟩ := sp_bind hm
  refine G.does (does_fn 2 rfl rfl rfl en44 (Sat.pick [0, 0] h) (fun U hU hp hr hs => M_octet_Reader_none_po_w (b2 := b2) (open_ := open_) (bad := bad) hp hy1)) rfl rfl rfl ?_
  rintro _ w2 ⟨U5, hb6, rfl, h4⟩
  have h3 : Sat W w2 [blk b [(.slice a b2.length c), (.bool open_), (.bool bad)] 72, ow elU8 a c 5 b2] := hb6 h4
  refine G.nil ?_
  refine QA.then_normal ?_
  rcases sp_b hm with ⟨hc7, hm⟩ | ⟨hc7, hm⟩
  · refine C.cond_f rfl (not_f hc7) ?_
    refine C.skip ?_
    refine QA.then_normal ?_
    refine C.seq ?_
    refine C.region ?_
    refine G.yl (yl_move rfl) rfl rfl rfl ?_
    refine G.yl (yl_nilCheck rfl) rfl rfl rfl ?_
    refine G.yl (yl_fieldAddr fo72_0 rfl) rfl rfl rfl ?_
    obtain ⟨_, hy8, hm⟩ := sp_bind hm
    refine G.does (does_fn 2 rfl rfl rfl en45 (Sat.pick [0, 0] h3) (fun U hU hp hr hs => M_octet_rest_left_po_w (b2 := b2) (open_ := open_) (bad := bad) hp hy8)) rfl rfl rfl ?_
    rintro _ w9 ⟨U12, hb13, rfl, h11⟩
    have h10 : Sat W w9 [blk b [(.slice a b2.length c), (.bool open_), (.bool bad)] 72, ow elU8 a c 5 b2] := hb13 h11
    refine G.yl (yl_assign rfl) rfl rfl rfl ?_
    refine G.nil ?_
    refine QA.then_normal ?_
    refine C.ret ?_
    refine QA.ret1 rfl rfl ?_
    obtain rfl := sp_ret1 hm
    exact ⟨rfl, (Sat.pick [0, 0] h10)⟩
  · refine C.cond_t rfl (not_t hc7) ?_
    refine C.seq ?_
    refine C.region ?_
    refine G.yl (yl_assign rfl) rfl rfl rfl ?_
    refine G.nil ?_
    refine QA.then_normal ?_
    refine C.ret ?_
    refine QA.then_ret ?_
    refine QA.ret1 rfl rfl ?_
    obtain rfl := sp_ret1 hm
    exact ⟨rfl, (Sat.pick [0, 0] h3)⟩
end Go.Proofs.Ytmjcemhojhbijaa
