/-
  That the functions of the program compute what their Lean functions say, part 0. No condition.
-/
import Derived.Test.YtmjcemhojhbijaaRosterMergesFct
namespace Go.Proofs.Ytmjcemhojhbijaa
open Go Go.RowKit
set_option linter.unusedVariables false
set_option linter.unusedSimpArgs false
set_option linter.unnecessarySimpa false
set_option maxRecDepth 20000 in
set_option maxHeartbeats 1000000 in
theorem M_signpostlaw12_Light_v_w {W : Base} {w : World} {a : Option Addr} {c : Nat} {l : List G_api_Instance} (hv_l : V W a (el_G_api_Instance.row l)) (hq_l : l.length ≤ c) (h : Sat W w []) {r1 : Bool} (hm : M_signpostlaw12_Light_v l = some r1) :
    Calls Try.prog 6 #[(.slice a l.length c)] w (Ret fun v w' => v = (.bool r1) ∧ Sat W w' []) := by
  unfold M_signpostlaw12_Light_v at hm
  refine C.enter (N := 19) Try.func6 rfl Try.ntmps6 rfl ?_
  show C _ _ _ [(0, (.slice a l.length c))] _ _
  refine C.seq ?_
  refine C.region ?_
  refine G.yl (yl_assign rfl) rfl rfl rfl ?_
  refine G.nil ?_
  refine QA.then_normal ?_
  refine C.seq ?_
  refine C.seq ?_
  refine C.region ?_
  refine G.yl (yl_move rfl) rfl rfl rfl ?_
  refine G.yl (yl_lenE Try.underlying22 rfl) rfl rfl rfl ?_
  refine G.yl (yl_move rfl) rfl rfl rfl ?_
  refine G.nil ?_
  refine QA.then_normal ?_
  refine C.block ?_
  obtain ⟨o, ho1, hm2⟩ := sp_bind hm
  refine C.left (γ := Unit) (.exit 0) (fun g => match g with | () => [(0, (.slice a l.length c)), (2, (.bool false))]) (fun g ww => match g with | () => .inl () = o ∧ Sat W ww []) ?_ ?_
  · refine C.loopO (γ := Int) (fun g => match g with | t7 => [(0, (.slice a l.length c)), (2, (.bool false)), (5, (.slice a l.length c)), (6, (vI (l.length : Int))), (7, (vI t7))]) (fun g ww => match g with | t7 => Sat W ww []) (fun g => match g with | t7 => t7) 0 ho1 (Sub.of ⟨rfl, rfl, rfl, rfl, rfl, trivial⟩) (Sat.pick [] h) ?_
    rintro t7 k5 w3 y_ h4 hm hg6
    show C _ _ _ [(0, (.slice a l.length c)), (2, (.bool false)), (5, (.slice a l.length c)), (6, (vI (l.length : Int))), (7, (vI t7))] _ _
    change M_signpostlaw12_Light_v_b1 l t7 = some y_ at hm
    unfold M_signpostlaw12_Light_v_b1 at hm
    refine C.seq ?_
    refine C.region ?_
    refine G.yl (yl_ltI rfl rfl) rfl rfl rfl ?_
    refine G.nil ?_
    refine QA.then_normal ?_
    refine C.seq ?_
    rcases sp_ite hm with ⟨hc7, hm⟩ | ⟨hc7, hm⟩
    · refine C.cond_t rfl (dec_t hc7) ?_
      refine C.skip ?_
      refine QA.then_normal ?_
      refine C.seq ?_
      refine C.block ?_
      refine C.seq ?_
      refine C.region ?_
      obtain ⟨x, hy8, hm⟩ := sp_bind hm
      refine G.yl (yl_ixP (l := l) sl22 rfl rfl (View.isA (E := el_G_api_Instance) (hv_l.at_ h4) (by decide) (at?_lt hy8)) rfl (at?_lt hy8)) rfl rfl rfl ?_
      refine G.yl (yl_ldE (E := el_G_api_Instance) ag31 sz31 rfl (hv_l.at_ h4) (at?_some hy8).2) rfl rfl rfl ?_
      refine G.does (does_alloc (cs := (bytesV (List.ofFn (n := 20) (fun _ => 0)) ++ ([(.int .u64 0), (.int .u64 0), (.int .u32 0), (.bool false), (.int .u16 0), (.int .u16 0), (.int .u16 0), (.string (str ([] : List UInt8)))] : List Value))) h4 z31 rfl) rfl rfl rfl ?_
      rintro _ w10 ⟨b9, rfl, h11⟩
      refine G.unit (does_store (vs := (bytesV (List.ofFn (n := 20) x.Publisher) ++ ([(v64 x.Seq), (v64 x.Born), (v32 x.Life), (.bool x.Gone), (v16 x.Priority), (v16 x.Weight), (v16 x.Port), (.string (str x.Target))] : List Value))) h11 sz31 rfl rfl rfl (by simp [bytesV_length]) (List.forall_mem_append.2 ⟨(bytesV_one _), (List.forall_mem_cons.2 ⟨rfl, (List.forall_mem_cons.2 ⟨rfl, (List.forall_mem_cons.2 ⟨rfl, (List.forall_mem_cons.2 ⟨rfl, (List.forall_mem_cons.2 ⟨rfl, (List.forall_mem_cons.2 ⟨rfl, (List.forall_mem_cons.2 ⟨rfl, (List.forall_mem_cons.2 ⟨rfl, (fun _ hh => by cases hh)⟩)⟩)⟩)⟩)⟩)⟩)⟩)⟩)⟩) (by simp [bytesV_length])) rfl rfl ?_
      rintro _ w12 h14
      have h13 : Sat W w12 [blk b9 (bytesV (List.ofFn (n := 20) x.Publisher) ++ ([(v64 x.Seq), (v64 x.Born), (v32 x.Life), (.bool x.Gone), (v16 x.Priority), (v16 x.Weight), (v16 x.Port), (.string (str x.Target))] : List Value)) 31] := sl_blk (setN_all _ _ (by simp [bytesV_length])) h14
      refine G.nil ?_
      refine QA.then_normal ?_
      refine C.seq ?_
      refine C.region ?_
      refine G.yl (yl_fieldAddr fo31_8 rfl) rfl rfl rfl ?_
      refine G.yl (yl_load (v := (.string (str x.Target))) ag9 rfl (View.at_ (j := 7) (View.span_tail h13.isBlk.view0) rfl)) rfl rfl rfl ?_
      refine G.yl (yl_slenE Try.underlying9 rfl) rfl rfl rfl ?_
      refine G.yl (yl_gtI rfl rfl) rfl rfl rfl ?_
      refine G.nil ?_
      refine QA.then_normal ?_
      rcases sp_ite hm with ⟨hc15, hm⟩ | ⟨hc15, hm⟩
      · refine C.cond_t rfl (dec_t hc15) ?_
        refine C.seq ?_
        refine C.region ?_
        refine G.yl (yl_assign rfl) rfl rfl rfl ?_
        refine G.nil ?_
        refine QA.then_normal ?_
        refine C.ret ?_
        refine QA.block_ret ?_
        refine QA.then_ret ?_
        refine QA.then_ret ?_
        refine QA.past (by simp) ?_
        refine QA.block_ret ?_
        refine QA.then_ret ?_
        refine QA.ret1 rfl rfl ?_
        obtain rfl := sp_ret1 hm
        obtain rfl : .inr false = o := hg6
        have hm : some false = some r1 := hm2
        obtain rfl := sp_ret1 hm
        exact ⟨rfl, (Sat.pick [] h13)⟩
      · refine C.cond_f rfl (dec_f hc15) ?_
        refine C.skip ?_
        refine QA.block_normal ?_
        refine QA.then_normal ?_
        refine C.region ?_
        obtain ⟨hc16, hm⟩ := sp_chk hm
        refine G.yl (yl_addI rfl rfl hc16) rfl rfl rfl ?_
        refine G.yl (yl_move rfl) rfl rfl rfl ?_
        refine G.nil ?_
        obtain rfl := sp_ret1 hm
        exact QA.againO (t7 + 1) hg6 (Sub.of ⟨rfl, rfl, rfl, rfl, rfl, trivial⟩) (Sat.pick [] h13)
    · refine C.cond_f rfl (dec_f hc7) ?_
      refine C.exit ?_
      refine QA.then_exit ?_
      refine QA.then_exit ?_
      obtain rfl := sp_ret1 hm
      exact QA.left () (Sub.of ⟨rfl, rfl, trivial⟩) ⟨hg6, (Sat.pick [] h4)⟩
  · rintro _ w17 ⟨rfl, h18⟩
    have hm := hm2
    show QA _ _ [(0, (.slice a l.length c)), (2, (.bool false))] _ _
    refine QA.block_here ?_
    refine QA.then_normal ?_
    refine C.seq ?_
    refine C.region ?_
    refine G.yl (yl_move rfl) rfl rfl rfl ?_
    refine G.yl (yl_lenE Try.underlying22 rfl) rfl rfl rfl ?_
    refine G.yl (yl_leI rfl rfl) rfl rfl rfl ?_
    refine G.yl (yl_assign rfl) rfl rfl rfl ?_
    refine G.nil ?_
    refine QA.then_normal ?_
    refine C.ret ?_
    refine QA.ret1 rfl rfl ?_
    obtain rfl := sp_ret1 hm
    exact ⟨rfl, (Sat.pick [] h18)⟩
set_option maxRecDepth 20000 in
set_option maxHeartbeats 1000000 in
theorem M_label_parts_w {W : Base} {w : World} {s : List UInt8}  (h : Sat W w [])  (hm : M_label_parts s = some ()) :
    Calls Try.prog 47 #[(.string (str s))] w (Ret fun v w' => ∃ r1 : Nat, v = (.func (.func 66) #[] #[(.pointer (some ⟨r1, 0, none⟩))]) ∧ Sat W w' [blk r1 [(.string (str s))] 9]) := by
  unfold M_label_parts at hm
  refine C.enter (N := 4) Try.func47 rfl Try.ntmps47 rfl ?_
  show C _ _ _ [(0, (.string (str s)))] _ _
  refine C.seq ?_
  refine C.region ?_
  refine G.does (does_box (cs := [(.string (str s))]) h rfl rfl) rfl rfl rfl ?_
  rintro _ w2 ⟨b1, rfl, h3⟩
  refine G.yl (yl_assign rfl) rfl rfl rfl ?_
  refine G.nil ?_
  refine QA.then_normal ?_
  refine C.seq ?_
  refine C.region ?_
  refine G.yl (yl_func rfl rfl) rfl rfl rfl ?_
  refine G.yl (yl_assign rfl) rfl rfl rfl ?_
  refine G.nil ?_
  refine QA.then_normal ?_
  refine C.ret ?_
  refine QA.ret1 rfl rfl ?_
  exact ⟨b1, rfl, (Sat.pick [0] h3)⟩
set_option maxRecDepth 20000 in
set_option maxHeartbeats 1000000 in
theorem M_stringslite_IndexByte_w {W : Base} {w : World} {s : List UInt8} {c : UInt8}  (h : Sat W w [])  (hm : M_stringslite_IndexByte s c = some ()) :
    Calls Try.prog 73 #[(.string (str s)), (v8 c)] w (Ret fun v w' => v = (vI (Lib.indexByte s c)) ∧ Sat W w' []) := by
  unfold M_stringslite_IndexByte at hm
  refine C.enter (N := 8) Try.func73 rfl Try.ntmps73 rfl ?_
  show C _ _ _ [(0, (.string (str s))), (1, (v8 c))] _ _
  refine C.seq ?_
  refine C.region ?_
  refine G.yl (yl_assign rfl) rfl rfl rfl ?_
  refine G.nil ?_
  refine QA.then_normal ?_
  refine C.seq ?_
  refine C.region ?_
  refine G.yl (yl_move rfl) rfl rfl rfl ?_
  refine G.yl (yl_move rfl) rfl rfl rfl ?_
  refine G.yl (yl_ixbS (b := c) rfl rfl rfl Try.func77 ex77) rfl rfl rfl ?_
  refine G.yl (yl_assign rfl) rfl rfl rfl ?_
  refine G.nil ?_
  refine QA.then_normal ?_
  refine C.ret ?_
  refine QA.ret1 rfl rfl ?_
  exact ⟨rfl, (Sat.pick [] h)⟩
set_option maxRecDepth 20000 in
set_option maxHeartbeats 1000000 in
theorem M_stringslite_Index_w {W : Base} {w : World} {s : List UInt8}  (h : Sat W w []) {r1 : Int} (hm : M_stringslite_Index s = some r1) :
    Calls Try.prog 72 #[(.string (str s)), (.string (str ([46] : List UInt8)))] w (Ret fun v w' => v = (vI r1) ∧ Sat W w' []) := by
  unfold M_stringslite_Index at hm
  refine C.enter (N := 143) Try.func72 rfl Try.ntmps72 rfl ?_
  show C _ _ _ [(0, (.string (str s))), (1, (.string (str ([46] : List UInt8))))] _ _
  refine C.seq ?_
  refine C.region ?_
  refine G.yl (yl_assign rfl) rfl rfl rfl ?_
  refine G.nil ?_
  refine QA.then_normal ?_
  refine C.seq ?_
  refine C.region ?_
  refine G.yl (yl_move rfl) rfl rfl rfl ?_
  refine G.yl (yl_slenE Try.underlying9 rfl) rfl rfl rfl ?_
  refine G.yl (yl_assign rfl) rfl rfl rfl ?_
  refine G.nil ?_
  refine QA.then_normal ?_
  refine C.seq ?_
  refine C.block ?_
  refine C.seq ?_
  refine C.region ?_
  refine G.yl (yl_move rfl) rfl rfl rfl ?_
  refine G.yl (yl_eqI rfl rfl) rfl rfl rfl ?_
  refine G.yl (yl_move rfl) rfl rfl rfl ?_
  refine G.on rfl rfl (by decide) ?_
  refine G.yl (yl_move rfl) rfl rfl rfl ?_
  refine G.on rfl rfl (by decide) ?_
  refine G.yl (yl_move rfl) rfl rfl rfl ?_
  refine G.on rfl rfl (by decide) ?_
  refine G.yl (yl_eqS rfl rfl) rfl rfl rfl ?_
  refine G.yl (yl_pick_f rfl (by decide) rfl) rfl rfl rfl ?_
  refine G.yl (yl_assign rfl) rfl rfl rfl ?_
  refine G.nil ?_
  refine QA.then_normal ?_
  rcases sp_ite hm with ⟨hc1, hm⟩ | ⟨hc1, hm⟩
  · refine C.cond_t rfl (dec_t hc1) ?_
    refine C.seq ?_
    refine C.region ?_
    refine G.yl (yl_assign rfl) rfl rfl rfl ?_
    refine G.nil ?_
    refine QA.then_normal ?_
    refine C.ret ?_
    refine QA.block_ret ?_
    refine QA.then_ret ?_
    refine QA.ret1 rfl rfl ?_
    obtain rfl := sp_ret1 hm
    exact ⟨rfl, (Sat.pick [] h)⟩
  · refine C.cond_f rfl (dec_f hc1) ?_
    refine C.seq ?_
    refine C.region ?_
    refine G.yl (yl_move rfl) rfl rfl rfl ?_
    refine G.yl (yl_eqI rfl rfl) rfl rfl rfl ?_
    refine G.yl (yl_assign rfl) rfl rfl rfl ?_
    refine G.nil ?_
    refine QA.then_normal ?_
    refine C.cond_t rfl (by decide) ?_
    refine C.seq ?_
    refine C.region ?_
    refine G.yl (yl_move rfl) rfl rfl rfl ?_
    refine G.yl (yl_move rfl) rfl rfl rfl ?_
    obtain ⟨c, hy2, hm⟩ := sp_bind hm
    refine G.yl (yl_ixS Try.underlying9 rfl rfl hy2) rfl rfl rfl ?_
    obtain ⟨_, hy3, hm⟩ := sp_bind hm
    refine G.does (does_fn 0 rfl rfl rfl en73 h (fun U hU hp hr hs => M_stringslite_IndexByte_w (s := s) (c := c) hp hy3)) rfl rfl rfl ?_
    rintro _ w4 ⟨U7, hb8, rfl, h6⟩
    have h5 : Sat W w4 [] := hb8 h6
    refine G.yl (yl_assign rfl) rfl rfl rfl ?_
    refine G.nil ?_
    refine QA.then_normal ?_
    refine C.ret ?_
    refine QA.block_ret ?_
    refine QA.then_ret ?_
    refine QA.ret1 rfl rfl ?_
    obtain rfl := sp_ret1 hm
    exact ⟨rfl, (Sat.pick [] h5)⟩
set_option maxRecDepth 20000 in
set_option maxHeartbeats 1000000 in
theorem M_stringslite_Cut_w {W : Base} {w : World} {s : List UInt8}  (h : Sat W w []) {r1 : List UInt8} {r2 : List UInt8} {r3 : Bool} (hm : M_stringslite_Cut s = some (r1, r2, r3)) :
    Calls Try.prog 70 #[(.string (str s)), (.string (str ([46] : List UInt8)))] w (Ret fun v w' => v = (.tuple #[(.string (str r1)), (.string (str r2)), (.bool r3)]) ∧ Sat W w' []) := by
  unfold M_stringslite_Cut at hm
  refine C.enter (N := 23) Try.func70 rfl Try.ntmps70 rfl ?_
  show C _ _ _ [(0, (.string (str s))), (1, (.string (str ([46] : List UInt8))))] _ _
  refine C.seq ?_
  refine C.region ?_
  refine G.yl (yl_assign rfl) rfl rfl rfl ?_
  refine G.yl (yl_assign rfl) rfl rfl rfl ?_
  refine G.yl (yl_assign rfl) rfl rfl rfl ?_
  refine G.nil ?_
  refine QA.then_normal ?_
  refine C.seq ?_
  refine C.seq ?_
  refine C.region ?_
  refine G.yl (yl_move rfl) rfl rfl rfl ?_
  refine G.yl (yl_move rfl) rfl rfl rfl ?_
  obtain ⟨r1_2, hy1, hm⟩ := sp_bind hm
  refine G.does (does_fn 0 rfl rfl rfl en72 h (fun U hU hp hr hs => M_stringslite_Index_w (s := s) hp hy1)) rfl rfl rfl ?_
  rintro _ w2 ⟨U5, hb6, rfl, h4⟩
  have h3 : Sat W w2 [] := hb6 h4
  refine G.yl (yl_assign rfl) rfl rfl rfl ?_
  refine G.nil ?_
  refine QA.then_normal ?_
  refine C.seq ?_
  refine C.region ?_
  refine G.yl (yl_move rfl) rfl rfl rfl ?_
  refine G.yl (yl_geI rfl rfl) rfl rfl rfl ?_
  refine G.nil ?_
  refine QA.then_normal ?_
  rcases sp_ite hm with ⟨hc7, hm⟩ | ⟨hc7, hm⟩
  · refine C.cond_t rfl (dec_t hc7) ?_
    refine C.seq ?_
    refine C.draw (V := fun w' => True) (nd := []) (sp := []) (n := 12) rfl h3 rfl rfl ?_
    intro w8 h9
    have hS10 : Cls (fun w' => True) [] [] #[false, false, false, false, false, false, false, false, false, false, false, false] w8 := Cls.keep (trivial) (by kernel_rfl)
    refine GH.yl (i := 0) (listed' := #[true, false, false, false, false, false, false, false, false, false, false, false]) rfl (by kernel_rfl) rfl (NP.next (NP.next NP.body)) rfl rfl rfl (fun w' => yl_move rfl) hS10 (fun hS11 => ?_)
    refine GH.yl (i := 1) (listed' := #[true, true, false, false, false, false, false, false, false, false, false, false]) rfl (by kernel_rfl) rfl (NP.next (NP.next NP.body)) rfl rfl rfl (fun w' => yl_move rfl) hS11 (fun hS12 => ?_)
    obtain ⟨hc13, hm⟩ := sp_chk hm
    refine GH.yl (i := 2) (listed' := #[true, true, true, false, false, false, false, false, false, false, false, false]) rfl (by kernel_rfl) rfl (NP.next (NP.next NP.body)) rfl rfl rfl (fun w' => yl_slHS Try.underlying9 rfl rfl hc13) hS12 (fun hS14 => ?_)
    refine GH.yl (i := 3) (listed' := #[true, true, true, true, false, false, false, false, false, false, false, false]) rfl (by kernel_rfl) rfl (NP.next (NP.next NP.body)) rfl rfl rfl (fun w' => yl_move rfl) hS14 (fun hS15 => ?_)
    refine GH.yl (i := 4) (listed' := #[true, true, true, true, true, false, false, false, false, false, false, false]) rfl (by kernel_rfl) rfl (NP.next (NP.next NP.body)) rfl rfl rfl (fun w' => yl_move rfl) hS15 (fun hS16 => ?_)
    refine GH.yl (i := 5) (listed' := #[true, true, true, true, true, true, false, false, false, false, false, false]) rfl (by kernel_rfl) rfl (NP.next (NP.next NP.body)) rfl rfl rfl (fun w' => yl_move rfl) hS16 (fun hS17 => ?_)
    refine GH.yl (i := 6) (listed' := #[true, true, true, true, true, true, true, false, false, false, false, false]) rfl (by kernel_rfl) rfl (NP.next (NP.next NP.body)) rfl rfl rfl (fun w' => yl_slenE Try.underlying9 rfl) hS17 (fun hS18 => ?_)
    obtain ⟨hc19, hm⟩ := sp_chk hm
    refine GH.yl (i := 7) (listed' := #[true, true, true, true, true, true, true, true, false, false, false, false]) rfl (by kernel_rfl) rfl (NP.next (NP.next NP.body)) rfl rfl rfl (fun w' => yl_addI rfl rfl hc19) hS18 (fun hS20 => ?_)
    obtain ⟨hc21, hm⟩ := sp_chk hm
    refine GH.yl (i := 8) (listed' := #[true, true, true, true, true, true, true, true, true, false, false, false]) rfl (by kernel_rfl) rfl (NP.next (NP.next NP.body)) rfl rfl rfl (fun w' => yl_slLS Try.underlying9 rfl rfl hc21) hS20 (fun hS22 => ?_)
    refine GH.yl (i := 9) (listed' := #[true, true, true, true, true, true, true, true, true, true, false, false]) rfl (by kernel_rfl) rfl (NP.next (NP.next NP.body)) rfl rfl rfl (fun w' => yl_assign rfl) hS22 (fun hS23 => ?_)
    refine GH.yl (i := 10) (listed' := #[true, true, true, true, true, true, true, true, true, true, true, false]) rfl (by kernel_rfl) rfl (NP.next (NP.next NP.body)) rfl rfl rfl (fun w' => yl_assign rfl) hS23 (fun hS24 => ?_)
    refine GH.yl (i := 11) (listed' := #[true, true, true, true, true, true, true, true, true, true, true, true]) rfl (by kernel_rfl) rfl (NP.next (NP.next NP.body)) rfl rfl rfl (fun w' => yl_assign rfl) hS24 (fun hS25 => ?_)
    refine GH.done (by kernel_rfl) ?_
    refine QA.then_normal ?_
    refine C.ret ?_
    refine QA.then_ret ?_
    refine QA.ret3 rfl rfl rfl rfl ?_
    obtain ⟨rfl, rfl, rfl⟩ := sp_ret3 hm
    exact ⟨rfl, (Sat.pick [] h9)⟩
  · refine C.cond_f rfl (dec_f hc7) ?_
    refine C.skip ?_
    refine QA.then_normal ?_
    refine C.seq ?_
    refine C.region ?_
    refine G.yl (yl_move rfl) rfl rfl rfl ?_
    refine G.yl (yl_assign rfl) rfl rfl rfl ?_
    refine G.yl (yl_assign rfl) rfl rfl rfl ?_
    refine G.yl (yl_assign rfl) rfl rfl rfl ?_
    refine G.nil ?_
    refine QA.then_normal ?_
    refine C.ret ?_
    refine QA.ret3 rfl rfl rfl rfl ?_
    obtain ⟨rfl, rfl, rfl⟩ := sp_ret3 hm
    exact ⟨rfl, (Sat.pick [] h3)⟩
set_option maxRecDepth 20000 in
set_option maxHeartbeats 1000000 in
theorem M_strings_Cut_w {W : Base} {w : World} {s : List UInt8}  (h : Sat W w []) {r1 : List UInt8} {r2 : List UInt8} {r3 : Bool} (hm : M_strings_Cut s = some (r1, r2, r3)) :
    Calls Try.prog 67 #[(.string (str s)), (.string (str ([46] : List UInt8)))] w (Ret fun v w' => v = (.tuple #[(.string (str r1)), (.string (str r2)), (.bool r3)]) ∧ Sat W w' []) := by
  unfold M_strings_Cut at hm
  refine C.enter (N := 13) Try.func67 rfl Try.ntmps67 rfl ?_
  show C _ _ _ [(0, (.string (str s))), (1, (.string (str ([46] : List UInt8))))] _ _
  refine C.seq ?_
  refine C.region ?_
  refine G.yl (yl_assign rfl) rfl rfl rfl ?_
  refine G.yl (yl_assign rfl) rfl rfl rfl ?_
  refine G.yl (yl_assign rfl) rfl rfl rfl ?_
  refine G.nil ?_
  refine QA.then_normal ?_
  refine C.seq ?_
  refine C.region ?_
  refine G.yl (yl_move rfl) rfl rfl rfl ?_
  refine G.yl (yl_move rfl) rfl rfl rfl ?_
  obtain ⟨⟨r1_2, r2_2, r3_2⟩, hy1, hm⟩ := sp_bind hm
  refine G.does (does_fn 0 rfl rfl rfl en70 h (fun U hU hp hr hs => M_stringslite_Cut_w (s := s) hp hy1)) rfl rfl rfl ?_
  rintro _ w2 ⟨U5, hb6, rfl, h4⟩
  have h3 : Sat W w2 [] := hb6 h4
  refine G.yl (yl_extract rfl rfl) rfl rfl rfl ?_
  refine G.yl (yl_extract rfl rfl) rfl rfl rfl ?_
  refine G.yl (yl_extract rfl rfl) rfl rfl rfl ?_
  refine G.yl (yl_assign rfl) rfl rfl rfl ?_
  refine G.yl (yl_assign rfl) rfl rfl rfl ?_
  refine G.yl (yl_assign rfl) rfl rfl rfl ?_
  refine G.nil ?_
  refine QA.then_normal ?_
  refine C.ret ?_
  refine QA.ret3 rfl rfl rfl rfl ?_
  obtain ⟨rfl, rfl, rfl⟩ := sp_ret3 hm
  exact ⟨rfl, (Sat.pick [] h3)⟩
set_option maxRecDepth 20000 in
set_option maxHeartbeats 1000000 in
theorem M_label_parts_1_p_it {W : Base} {w : World} {b : Nat} {x : List UInt8}  :
    IterOk Try.prog 66 [(.pointer (some ⟨b, 0, none⟩))] (fun (x : List UInt8) => [(.string (str x))]) (@fun σ_ ρ_ f_ z_ => M_label_parts_1_p f_ x z_) [blk b [(.string (str x))] 9] W w := by
  intro σ_ ρ_ f_ z_ o_ B_ X_ l_ hm hyld_ u_ hch_ h
  change M_label_parts_1_p f_ x z_ = some o_ at hm
  replace h : Sat W u_ [blk b [(.string (str x))] 9, B_ z_] := h
  unfold M_label_parts_1_p at hm
  refine C.enter (N := 21) Try.func66 rfl Try.ntmps66 rfl ?_
  show C _ _ _ [(0, (.func (.yield l_) #[] #[])), (1, (.pointer (some ⟨b, 0, none⟩)))] _ _
  refine C.block ?_
  obtain ⟨o, ho1, hm2⟩ := sp_bind hm
  refine C.loopO (γ := σ_ × List UInt8) (fun g => match g with | (z, t1) => [(0, (.func (.yield l_) #[] #[])), (1, (.pointer (some ⟨b, 0, none⟩)))]) (fun g ww => match g with | (z, t1) => Sat W ww [B_ z, blk b [(.string (str t1))] 9]) (fun g => match g with | (z, t1) => (z, t1)) (z_, x) ho1 (Sub.of ⟨rfl, rfl, trivial⟩) (Sat.pick [1, 0] h) ?_
  rintro ⟨z, t1⟩ k5 w3 y_ h4 hm hg6
  show C _ _ _ [(0, (.func (.yield l_) #[] #[])), (1, (.pointer (some ⟨b, 0, none⟩)))] _ _
  change M_label_parts_1_p_b1 f_ z t1 = some y_ at hm
  unfold M_label_parts_1_p_b1 at hm
  refine C.block ?_
  refine C.seq ?_
  refine C.region ?_
  refine G.yl (yl_load (v := (.string (str t1))) ag9 rfl (View.at0 (j := 0) (Sat.pick [1] h4).isBlk.view0 rfl)) rfl rfl rfl ?_
  obtain ⟨⟨r1, r2, r3⟩, hy7, hm⟩ := sp_bind hm
  refine G.does (does_fn 0 rfl rfl rfl en67 h4 (fun U hU hp hr hs => M_strings_Cut_w (s := t1) hp hy7)) rfl rfl rfl ?_
  rintro _ w8 ⟨U11, hb12, rfl, h10⟩
  have h9 : Sat W w8 [B_ z, blk b [(.string (str t1))] 9] := hb12 h10
  refine G.yl (yl_move rfl) rfl rfl rfl ?_
  refine G.yl (yl_extract rfl rfl) rfl rfl rfl ?_
  refine G.yl (yl_extract rfl rfl) rfl rfl rfl ?_
  refine G.yl (yl_extract rfl rfl) rfl rfl rfl ?_
  refine G.yl (yl_assign rfl) rfl rfl rfl ?_
  refine G.yl (yl_assign rfl) rfl rfl rfl ?_
  refine G.yl (yl_assign rfl) rfl rfl rfl ?_
  refine G.nil ?_
  refine QA.then_normal ?_
  refine C.seq ?_
  refine C.seq ?_
  refine C.region ?_
  refine G.yl (yl_move rfl) rfl rfl rfl ?_
  refine G.yl (yl_move rfl) rfl rfl rfl ?_
  obtain ⟨y__2, hy13, hm⟩ := sp_bind hm
  rcases y__2 with z_2 | x_2
  · refine G.yield_go hyld_ rfl rfl hy13 h9 rfl rfl (fun w14 h15 => ?_)
    refine G.yl (yl_not rfl) rfl rfl rfl ?_
    refine G.yl (yl_move rfl) rfl rfl rfl ?_
    refine G.on rfl rfl (not_f rfl) ?_
    refine G.yl (yl_move rfl) rfl rfl rfl ?_
    refine G.on rfl rfl (not_f rfl) ?_
    refine G.yl (yl_not rfl) rfl rfl rfl ?_
    refine G.yl (yl_pick_f rfl (not_f rfl) rfl) rfl rfl rfl ?_
    refine G.nil ?_
    refine QA.then_normal ?_
    rcases sp_b hm with ⟨hc16, hm⟩ | ⟨hc16, hm⟩
    · refine C.cond_f rfl (not_f hc16) ?_
      refine C.skip ?_
      refine QA.then_normal ?_
      refine C.region ?_
      refine G.yl (yl_move rfl) rfl rfl rfl ?_
      refine G.unit (does_store (vs := [(.string (str r2))]) (Sat.pick [1, 0] h15) sz9 rfl rfl rfl rfl (List.forall_mem_cons.2 ⟨rfl, (fun _ hh => by cases hh)⟩) (Nat.le_of_ble_eq_true rfl)) rfl rfl ?_
      rintro _ w17 h19
      have h18 : Sat W w17 [blk b [(.string (str r2))] 9, B_ z_2] := h19
      refine G.nil ?_
      refine QA.block_normal ?_
      obtain rfl := sp_ret1 hm
      exact QA.againO (z_2, r2) hg6 (Sub.of ⟨rfl, rfl, trivial⟩) (Sat.pick [1, 0] h18)
    · refine C.cond_t rfl (not_t hc16) ?_
      refine C.ret ?_
      refine QA.then_ret ?_
      refine QA.block_ret ?_
      refine QA.then_ret ?_
      refine QA.block_ret ?_
      refine QA.ret0 rfl ?_
      obtain rfl := sp_ret1 hm
      obtain rfl : (.inl z_2) = o := hg6
      have hm : some (.inl z_2) = some o_ := hm2
      obtain rfl := sp_ret1 hm
      exact .inl ⟨_, rfl, Sat.one h15⟩
  · refine G.yield_stop hyld_ rfl rfl hy13 h9 rfl rfl (fun w20 h21 => ?_)
    refine G.yl (yl_not rfl) rfl rfl rfl ?_
    refine G.yl (yl_move rfl) rfl rfl rfl ?_
    refine G.offU rfl rfl (not_t rfl) rfl ?_
    refine G.offU rfl rfl (not_t rfl) rfl ?_
    refine G.yl (yl_pick_t rfl (not_t rfl) rfl) rfl rfl rfl ?_
    refine G.nil ?_
    refine QA.then_normal ?_
    refine C.cond_t rfl rfl ?_
    refine C.ret ?_
    refine QA.then_ret ?_
    refine QA.block_ret ?_
    refine QA.then_ret ?_
    refine QA.block_ret ?_
    refine QA.ret0 rfl ?_
    obtain rfl := sp_ret1 hm
    obtain rfl : (.inr x_2) = o := hg6
    have hm : some (.inr x_2) = some o_ := hm2
    obtain rfl := sp_ret1 hm
    exact .inr ⟨_, rfl, Sat.one h21⟩
set_option maxRecDepth 20000 in
set_option maxHeartbeats 1000000 in
theorem M_label_plain_w {W : Base} {w : World} {c : UInt8}  (h : Sat W w []) {r1 : Bool} (hm : M_label_plain c = some r1) :
    Calls Try.prog 68 #[(v8 c)] w (Ret fun v w' => v = (.bool r1) ∧ Sat W w' []) := by
  unfold M_label_plain at hm
  refine C.enter (N := 30) Try.func68 rfl Try.ntmps68 rfl ?_
  show C _ _ _ [(0, (v8 c))] _ _
  refine C.seq ?_
  refine C.region ?_
  refine G.yl (yl_assign rfl) rfl rfl rfl ?_
  refine G.nil ?_
  refine QA.then_normal ?_
  refine C.seq ?_
  refine C.block ?_
  refine C.seq ?_
  refine C.block ?_
  refine C.block ?_
  refine C.block ?_
  refine C.seq ?_
  refine C.join (γ := Unit) (fun g => match g with | () => [(0, (v8 c)), (2, (.bool false))]) (fun g ww => match g with | () => (M_label_plain_k1 c = some r1) ∧ Sat W ww []) ?_ ?_
  · refine C.seq ?_
    refine C.region ?_
    refine G.yl (yl_move rfl) rfl rfl rfl ?_
    refine G.yl (yl_ge8 (b := 97) rfl rfl) rfl rfl rfl ?_
    refine G.yl (yl_move rfl) rfl rfl rfl ?_
    rcases sp_ite hm with ⟨hc1, hm⟩ | ⟨hc1, hm⟩
    · refine G.on rfl rfl (dec_t hc1) ?_
      refine G.yl (yl_move rfl) rfl rfl rfl ?_
      refine G.on rfl rfl (dec_t hc1) ?_
      refine G.yl (yl_le8 (b := 122) rfl rfl) rfl rfl rfl ?_
      refine G.yl (yl_pick_t rfl (dec_t hc1) rfl) rfl rfl rfl ?_
      refine G.yl (yl_assign rfl) rfl rfl rfl ?_
      refine G.nil ?_
      refine QA.then_normal ?_
      rcases sp_ite hm with ⟨hc2, hm⟩ | ⟨hc2, hm⟩
      · refine C.cond_t rfl (dec_t hc2) ?_
        refine C.exit ?_
        refine QA.then_exit ?_
        refine QA.then_exit ?_
        refine QA.block_here ?_
        refine QA.block_normal ?_
        refine QA.block_normal ?_
        refine QA.then_normal ?_
        refine C.seq ?_
        refine C.seq ?_
        refine C.region ?_
        refine G.yl (yl_assign rfl) rfl rfl rfl ?_
        refine G.nil ?_
        refine QA.then_normal ?_
        refine C.ret ?_
        refine QA.then_ret ?_
        refine QA.block_ret ?_
        refine QA.then_ret ?_
        refine QA.ret1 rfl rfl ?_
        obtain rfl := sp_ret1 hm
        exact ⟨rfl, (Sat.pick [] h)⟩
      · refine C.cond_f rfl (dec_f hc2) ?_
        refine C.skip ?_
        exact QA.join () (Sub.of ⟨rfl, rfl, trivial⟩) ⟨hm, (Sat.pick [] h)⟩
    · refine G.offU rfl rfl (dec_f hc1) rfl ?_
      refine G.offU rfl rfl (dec_f hc1) rfl ?_
      refine G.yl (yl_pick_f rfl (dec_f hc1) rfl) rfl rfl rfl ?_
      refine G.yl (yl_assign rfl) rfl rfl rfl ?_
      refine G.nil ?_
      refine QA.then_normal ?_
      refine C.cond_f rfl rfl ?_
      refine C.skip ?_
      exact QA.join () (Sub.of ⟨rfl, rfl, trivial⟩) ⟨hm, (Sat.pick [] h)⟩
  · rintro _ w3 ⟨hm, h4⟩
    show C _ _ _ [(0, (v8 c)), (2, (.bool false))] _ _
    unfold M_label_plain_k1 at hm
    refine C.join (γ := Unit) (fun g => match g with | () => [(0, (v8 c)), (2, (.bool false))]) (fun g ww => match g with | () => (M_label_plain_k2 c = some r1) ∧ Sat W ww []) ?_ ?_
    · refine C.seq ?_
      refine C.region ?_
      refine G.yl (yl_move rfl) rfl rfl rfl ?_
      refine G.yl (yl_ge8 (b := 65) rfl rfl) rfl rfl rfl ?_
      refine G.yl (yl_move rfl) rfl rfl rfl ?_
      rcases sp_ite hm with ⟨hc5, hm⟩ | ⟨hc5, hm⟩
      · refine G.on rfl rfl (dec_t hc5) ?_
        refine G.yl (yl_move rfl) rfl rfl rfl ?_
        refine G.on rfl rfl (dec_t hc5) ?_
        refine G.yl (yl_le8 (b := 90) rfl rfl) rfl rfl rfl ?_
        refine G.yl (yl_pick_t rfl (dec_t hc5) rfl) rfl rfl rfl ?_
        refine G.yl (yl_assign rfl) rfl rfl rfl ?_
        refine G.nil ?_
        refine QA.then_normal ?_
        rcases sp_ite hm with ⟨hc6, hm⟩ | ⟨hc6, hm⟩
        · refine C.cond_t rfl (dec_t hc6) ?_
          refine C.exit ?_
          refine QA.then_exit ?_
          refine QA.then_exit ?_
          refine QA.block_other rfl ?_
          refine QA.block_here ?_
          refine QA.block_normal ?_
          refine QA.then_normal ?_
          refine C.seq ?_
          refine C.seq ?_
          refine C.region ?_
          refine G.yl (yl_assign rfl) rfl rfl rfl ?_
          refine G.nil ?_
          refine QA.then_normal ?_
          refine C.ret ?_
          refine QA.then_ret ?_
          refine QA.block_ret ?_
          refine QA.then_ret ?_
          refine QA.ret1 rfl rfl ?_
          obtain rfl := sp_ret1 hm
          exact ⟨rfl, (Sat.pick [] h4)⟩
        · refine C.cond_f rfl (dec_f hc6) ?_
          refine C.skip ?_
          exact QA.join () (Sub.of ⟨rfl, rfl, trivial⟩) ⟨hm, (Sat.pick [] h4)⟩
      · refine G.offU rfl rfl (dec_f hc5) rfl ?_
        refine G.offU rfl rfl (dec_f hc5) rfl ?_
        refine G.yl (yl_pick_f rfl (dec_f hc5) rfl) rfl rfl rfl ?_
        refine G.yl (yl_assign rfl) rfl rfl rfl ?_
        refine G.nil ?_
        refine QA.then_normal ?_
        refine C.cond_f rfl rfl ?_
        refine C.skip ?_
        exact QA.join () (Sub.of ⟨rfl, rfl, trivial⟩) ⟨hm, (Sat.pick [] h4)⟩
    · rintro _ w7 ⟨hm, h8⟩
      show C _ _ _ [(0, (v8 c)), (2, (.bool false))] _ _
      unfold M_label_plain_k2 at hm
      refine C.seq ?_
      refine C.region ?_
      refine G.yl (yl_move rfl) rfl rfl rfl ?_
      refine G.yl (yl_ge8 (b := 48) rfl rfl) rfl rfl rfl ?_
      refine G.yl (yl_move rfl) rfl rfl rfl ?_
      rcases sp_ite hm with ⟨hc9, hm⟩ | ⟨hc9, hm⟩
      · refine G.on rfl rfl (dec_t hc9) ?_
        refine G.yl (yl_move rfl) rfl rfl rfl ?_
        refine G.on rfl rfl (dec_t hc9) ?_
        refine G.yl (yl_le8 (b := 57) rfl rfl) rfl rfl rfl ?_
        refine G.yl (yl_pick_t rfl (dec_t hc9) rfl) rfl rfl rfl ?_
        refine G.yl (yl_assign rfl) rfl rfl rfl ?_
        refine G.nil ?_
        refine QA.then_normal ?_
        rcases sp_ite hm with ⟨hc10, hm⟩ | ⟨hc10, hm⟩
        · refine C.cond_t rfl (dec_t hc10) ?_
          refine C.exit ?_
          refine QA.then_exit ?_
          refine QA.block_other rfl ?_
          refine QA.block_other rfl ?_
          refine QA.block_here ?_
          refine QA.then_normal ?_
          refine C.seq ?_
          refine C.seq ?_
          refine C.region ?_
          refine G.yl (yl_assign rfl) rfl rfl rfl ?_
          refine G.nil ?_
          refine QA.then_normal ?_
          refine C.ret ?_
          refine QA.then_ret ?_
          refine QA.block_ret ?_
          refine QA.then_ret ?_
          refine QA.ret1 rfl rfl ?_
          obtain rfl := sp_ret1 hm
          exact ⟨rfl, (Sat.pick [] h8)⟩
        · refine C.cond_f rfl (dec_f hc10) ?_
          refine C.skip ?_
          refine QA.then_normal ?_
          refine C.exit ?_
          refine QA.block_other rfl ?_
          refine QA.block_other rfl ?_
          refine QA.block_other rfl ?_
          refine QA.then_exit ?_
          refine QA.block_here ?_
          refine QA.then_normal ?_
          refine C.seq ?_
          refine C.region ?_
          refine G.yl (yl_move rfl) rfl rfl rfl ?_
          refine G.yl (yl_eq8 (b := 45) rfl rfl) rfl rfl rfl ?_
          refine G.yl (yl_move rfl) rfl rfl rfl ?_
          rcases sp_ite hm with ⟨hc11, hm⟩ | ⟨hc11, hm⟩
          · refine G.offU rfl rfl (dec_t hc11) rfl ?_
            refine G.offU rfl rfl (dec_t hc11) rfl ?_
            refine G.yl (yl_pick_t rfl (dec_t hc11) rfl) rfl rfl rfl ?_
            refine G.yl (yl_assign rfl) rfl rfl rfl ?_
            refine G.nil ?_
            refine QA.then_normal ?_
            refine C.ret ?_
            refine QA.ret1 rfl rfl ?_
            obtain rfl := sp_ret1 hm
            exact ⟨rfl, (Sat.pick [] h8)⟩
          · refine G.on rfl rfl (dec_f hc11) ?_
            refine G.yl (yl_move rfl) rfl rfl rfl ?_
            refine G.on rfl rfl (dec_f hc11) ?_
            refine G.yl (yl_eq8 (b := 95) rfl rfl) rfl rfl rfl ?_
            refine G.yl (yl_pick_f rfl (dec_f hc11) rfl) rfl rfl rfl ?_
            refine G.yl (yl_assign rfl) rfl rfl rfl ?_
            refine G.nil ?_
            refine QA.then_normal ?_
            refine C.ret ?_
            refine QA.ret1 rfl rfl ?_
            obtain rfl := sp_ret1 hm
            exact ⟨rfl, (Sat.pick [] h8)⟩
      · refine G.offU rfl rfl (dec_f hc9) rfl ?_
        refine G.offU rfl rfl (dec_f hc9) rfl ?_
        refine G.yl (yl_pick_f rfl (dec_f hc9) rfl) rfl rfl rfl ?_
        refine G.yl (yl_assign rfl) rfl rfl rfl ?_
        refine G.nil ?_
        refine QA.then_normal ?_
        refine C.cond_f rfl rfl ?_
        refine C.skip ?_
        refine QA.then_normal ?_
        refine C.exit ?_
        refine QA.block_other rfl ?_
        refine QA.block_other rfl ?_
        refine QA.block_other rfl ?_
        refine QA.then_exit ?_
        refine QA.block_here ?_
        refine QA.then_normal ?_
        refine C.seq ?_
        refine C.region ?_
        refine G.yl (yl_move rfl) rfl rfl rfl ?_
        refine G.yl (yl_eq8 (b := 45) rfl rfl) rfl rfl rfl ?_
        refine G.yl (yl_move rfl) rfl rfl rfl ?_
        rcases sp_ite hm with ⟨hc12, hm⟩ | ⟨hc12, hm⟩
        · refine G.offU rfl rfl (dec_t hc12) rfl ?_
          refine G.offU rfl rfl (dec_t hc12) rfl ?_
          refine G.yl (yl_pick_t rfl (dec_t hc12) rfl) rfl rfl rfl ?_
          refine G.yl (yl_assign rfl) rfl rfl rfl ?_
          refine G.nil ?_
          refine QA.then_normal ?_
          refine C.ret ?_
          refine QA.ret1 rfl rfl ?_
          obtain rfl := sp_ret1 hm
          exact ⟨rfl, (Sat.pick [] h8)⟩
        · refine G.on rfl rfl (dec_f hc12) ?_
          refine G.yl (yl_move rfl) rfl rfl rfl ?_
          refine G.on rfl rfl (dec_f hc12) ?_
          refine G.yl (yl_eq8 (b := 95) rfl rfl) rfl rfl rfl ?_
          refine G.yl (yl_pick_f rfl (dec_f hc12) rfl) rfl rfl rfl ?_
          refine G.yl (yl_assign rfl) rfl rfl rfl ?_
          refine G.nil ?_
          refine QA.then_normal ?_
          refine C.ret ?_
          refine QA.ret1 rfl rfl ?_
          obtain rfl := sp_ret1 hm
          exact ⟨rfl, (Sat.pick [] h8)⟩
set_option maxRecDepth 20000 in
set_option maxHeartbeats 1000000 in
theorem M_label_Part_w {W : Base} {w : World} {s : List UInt8}  (h : Sat W w []) {r1 : Bool} (hm : M_label_Part s = some r1) :
    Calls Try.prog 48 #[(.string (str s))] w (Ret fun v w' => v = (.bool r1) ∧ Sat W w' []) := by
  unfold M_label_Part at hm
  refine C.enter (N := 37) Try.func48 rfl Try.ntmps48 rfl ?_
  show C _ _ _ [(0, (.string (str s)))] _ _
  refine C.seq ?_
  refine C.region ?_
  refine G.yl (yl_assign rfl) rfl rfl rfl ?_
  refine G.nil ?_
  refine QA.then_normal ?_
  refine C.seq ?_
  refine C.join (γ := Bool) (fun g => match g with | t25 => [(0, (.string (str s))), (2, (.bool false)), (25, (.bool t25))]) (fun g ww => match g with | t25 => (M_label_Part_k1 s t25 = some r1) ∧ Sat W ww []) ?_ ?_
  · refine C.region ?_
    refine G.yl (yl_move rfl) rfl rfl rfl ?_
    refine G.yl (yl_slenE Try.underlying9 rfl) rfl rfl rfl ?_
    refine G.yl (yl_ltI rfl rfl) rfl rfl rfl ?_
    refine G.yl (yl_move rfl) rfl rfl rfl ?_
    rcases sp_ite hm with ⟨hc1, hm⟩ | ⟨hc1, hm⟩
    · refine G.offU rfl rfl (dec_t hc1) rfl ?_
      refine G.offU rfl rfl (dec_t hc1) rfl ?_
      refine G.offU rfl rfl (dec_t hc1) rfl ?_
      refine G.yl (yl_pick_t rfl (dec_t hc1) rfl) rfl rfl rfl ?_
      refine G.yl (yl_move rfl) rfl rfl rfl ?_
      refine G.offU rfl rfl rfl rfl ?_
      refine G.offU rfl rfl rfl rfl ?_
      refine G.offU rfl rfl rfl rfl ?_
      refine G.yl (yl_pick_t rfl rfl rfl) rfl rfl rfl ?_
      refine G.yl (yl_move rfl) rfl rfl rfl ?_
      refine G.offU rfl rfl rfl rfl ?_
      refine G.offU rfl rfl rfl rfl ?_
      refine G.offU rfl rfl rfl rfl ?_
      refine G.offU rfl rfl rfl rfl ?_
      refine G.offU rfl rfl rfl rfl ?_
      refine G.offU rfl rfl rfl rfl ?_
      refine G.yl (yl_pick_t rfl rfl rfl) rfl rfl rfl ?_
      refine G.nil ?_
      exact QA.join true (Sub.of ⟨rfl, rfl, rfl, trivial⟩) ⟨hm, (Sat.pick [] h)⟩
    · refine G.on rfl rfl (dec_f hc1) ?_
      refine G.yl (yl_move rfl) rfl rfl rfl ?_
      refine G.on rfl rfl (dec_f hc1) ?_
      refine G.yl (yl_slenE Try.underlying9 rfl) rfl rfl rfl ?_
      refine G.on rfl rfl (dec_f hc1) ?_
      refine G.yl (yl_gtI rfl rfl) rfl rfl rfl ?_
      refine G.yl (yl_pick_f rfl (dec_f hc1) rfl) rfl rfl rfl ?_
      refine G.yl (yl_move rfl) rfl rfl rfl ?_
      rcases sp_ite hm with ⟨hc2, hm⟩ | ⟨hc2, hm⟩
      · refine G.offU rfl rfl (dec_t hc2) rfl ?_
        refine G.offU rfl rfl (dec_t hc2) rfl ?_
        refine G.offU rfl rfl (dec_t hc2) rfl ?_
        refine G.yl (yl_pick_t rfl (dec_t hc2) rfl) rfl rfl rfl ?_
        refine G.yl (yl_move rfl) rfl rfl rfl ?_
        refine G.offU rfl rfl rfl rfl ?_
        refine G.offU rfl rfl rfl rfl ?_
        refine G.offU rfl rfl rfl rfl ?_
        refine G.offU rfl rfl rfl rfl ?_
        refine G.offU rfl rfl rfl rfl ?_
        refine G.offU rfl rfl rfl rfl ?_
        refine G.yl (yl_pick_t rfl rfl rfl) rfl rfl rfl ?_
        refine G.nil ?_
        exact QA.join true (Sub.of ⟨rfl, rfl, rfl, trivial⟩) ⟨hm, (Sat.pick [] h)⟩
      · refine G.on rfl rfl (dec_f hc2) ?_
        refine G.yl (yl_move rfl) rfl rfl rfl ?_
        refine G.on rfl rfl (dec_f hc2) ?_
        obtain ⟨c, hy3, hm⟩ := sp_bind hm
        refine G.yl (yl_ixS Try.underlying9 rfl rfl hy3) rfl rfl rfl ?_
        refine G.on rfl rfl (dec_f hc2) ?_
        refine G.yl (yl_eq8 (b := 45) rfl rfl) rfl rfl rfl ?_
        refine G.yl (yl_pick_f rfl (dec_f hc2) rfl) rfl rfl rfl ?_
        refine G.yl (yl_move rfl) rfl rfl rfl ?_
        rcases sp_ite hm with ⟨hc4, hm⟩ | ⟨hc4, hm⟩
        · refine G.offU rfl rfl (dec_t hc4) rfl ?_
          refine G.offU rfl rfl (dec_t hc4) rfl ?_
          refine G.offU rfl rfl (dec_t hc4) rfl ?_
          refine G.offU rfl rfl (dec_t hc4) rfl ?_
          refine G.offU rfl rfl (dec_t hc4) rfl ?_
          refine G.offU rfl rfl (dec_t hc4) rfl ?_
          refine G.yl (yl_pick_t rfl (dec_t hc4) rfl) rfl rfl rfl ?_
          refine G.nil ?_
          exact QA.join true (Sub.of ⟨rfl, rfl, rfl, trivial⟩) ⟨hm, (Sat.pick [] h)⟩
        · refine G.on rfl rfl (dec_f hc4) ?_
          refine G.yl (yl_move rfl) rfl rfl rfl ?_
          refine G.on rfl rfl (dec_f hc4) ?_
          refine G.yl (yl_move rfl) rfl rfl rfl ?_
          refine G.on rfl rfl (dec_f hc4) ?_
          refine G.yl (yl_slenE Try.underlying9 rfl) rfl rfl rfl ?_
          refine G.on rfl rfl (dec_f hc4) ?_
          obtain ⟨hc5, hm⟩ := sp_chk hm
          refine G.yl (yl_subI rfl rfl hc5) rfl rfl rfl ?_
          refine G.on rfl rfl (dec_f hc4) ?_
          obtain ⟨c_2, hy6, hm⟩ := sp_bind hm
          refine G.yl (yl_ixS Try.underlying9 rfl rfl hy6) rfl rfl rfl ?_
          refine G.on rfl rfl (dec_f hc4) ?_
          refine G.yl (yl_eq8 (b := 45) rfl rfl) rfl rfl rfl ?_
          refine G.yl (yl_pick_f rfl (dec_f hc4) rfl) rfl rfl rfl ?_
          refine G.nil ?_
          exact QA.join (decide (c_2 = 45)) (Sub.of ⟨rfl, rfl, rfl, trivial⟩) ⟨hm, (Sat.pick [] h)⟩
  · rintro t25 w7 ⟨hm, h8⟩
    show C _ _ _ [(0, (.string (str s))), (2, (.bool false)), (25, (.bool t25))] _ _
    unfold M_label_Part_k1 at hm
    rcases sp_b hm with ⟨hc9, hm⟩ | ⟨hc9, hm⟩
    · refine C.cond_t rfl hc9 ?_
      refine C.seq ?_
      refine C.region ?_
      refine G.yl (yl_assign rfl) rfl rfl rfl ?_
      refine G.nil ?_
      refine QA.then_normal ?_
      refine C.ret ?_
      refine QA.then_ret ?_
      refine QA.ret1 rfl rfl ?_
      obtain rfl := sp_ret1 hm
      exact ⟨rfl, (Sat.pick [] h8)⟩
    · refine C.cond_f rfl hc9 ?_
      refine C.skip ?_
      refine QA.then_normal ?_
      refine C.seq ?_
      refine C.seq ?_
      refine C.region ?_
      refine G.yl (yl_move rfl) rfl rfl rfl ?_
      obtain ⟨hc10, hm⟩ := sp_chk hm
      refine G.does (does_bytes h8 Try.underlying9 Try.underlying39 Try.underlying5 el5 rfl hc10) rfl rfl rfl ?_
      rintro _ w13 ⟨a11, c12, rfl, h14⟩
      refine G.yl (yl_lenE Try.underlying39 rfl) rfl rfl rfl ?_
      refine G.yl (yl_move rfl) rfl rfl rfl ?_
      refine G.nil ?_
      refine QA.then_normal ?_
      refine C.block ?_
      obtain ⟨o, ho15, hm16⟩ := sp_bind hm
      refine C.left (γ := Unit) (.exit 0) (fun g => match g with | () => [(2, (.bool false))]) (fun g ww => match g with | () => .inl () = o ∧ Sat W ww []) ?_ ?_
      · refine C.loopO (γ := Int) (fun g => match g with | t29 => [(2, (.bool false)), (27, (.slice a11 s.length c12)), (28, (vI (s.length : Int))), (29, (vI t29))]) (fun g ww => match g with | t29 => Sat W ww [ow elU8 a11 c12 5 s]) (fun g => match g with | t29 => t29) 0 ho15 (Sub.of ⟨rfl, rfl, rfl, rfl, trivial⟩) (Sat.pick [0] h14) ?_
        rintro t29 k19 w17 y_ h18 hm hg20
        show C _ _ _ [(2, (.bool false)), (27, (.slice a11 s.length c12)), (28, (vI (s.length : Int))), (29, (vI t29))] _ _
        change M_label_Part_b2 s t29 = some y_ at hm
        unfold M_label_Part_b2 at hm
        refine C.seq ?_
        refine C.region ?_
        refine G.yl (yl_ltI rfl rfl) rfl rfl rfl ?_
        refine G.nil ?_
        refine QA.then_normal ?_
        refine C.seq ?_
        rcases sp_ite hm with ⟨hc21, hm⟩ | ⟨hc21, hm⟩
        · refine C.cond_t rfl (dec_t hc21) ?_
          refine C.skip ?_
          refine QA.then_normal ?_
          refine C.seq ?_
          refine C.block ?_
          refine C.seq ?_
          refine C.region ?_
          obtain ⟨x, hy22, hm⟩ := sp_bind hm
          refine G.yl (yl_ixP (l := s) sl39 rfl rfl (View.isA (E := elU8) (Sat.own_view h18) (by decide) (at?_lt hy22)) rfl (at?_lt hy22)) rfl rfl rfl ?_
          refine G.yl (yl_ld1 (E := elU8) (v := (v8 x)) ag5 rfl (Sat.own_view h18) (at?_some hy22).2 rfl) rfl rfl rfl ?_
          refine G.yl (yl_assign rfl) rfl rfl rfl ?_
          refine G.nil ?_
          refine QA.then_normal ?_
          refine C.seq ?_
          refine C.region ?_
          refine G.yl (yl_move rfl) rfl rfl rfl ?_
          obtain ⟨r1_2, hy23, hm⟩ := sp_bind hm
          refine G.does (does_fn 0 rfl rfl rfl en68 h18 (fun U hU hp hr hs => M_label_plain_w (c := x) hp hy23)) rfl rfl rfl ?_
          rintro _ w24 ⟨U27, hb28, rfl, h26⟩
          have h25 : Sat W w24 [ow elU8 a11 c12 5 s] := hb28 h26
          refine G.yl (yl_not rfl) rfl rfl rfl ?_
          refine G.nil ?_
          refine QA.then_normal ?_
          rcases sp_b hm with ⟨hc29, hm⟩ | ⟨hc29, hm⟩
          · refine C.cond_f rfl (not_f hc29) ?_
            refine C.skip ?_
            refine QA.block_normal ?_
            refine QA.then_normal ?_
            refine C.region ?_
            obtain ⟨hc30, hm⟩ := sp_chk hm
            refine G.yl (yl_addI rfl rfl hc30) rfl rfl rfl ?_
            refine G.yl (yl_move rfl) rfl rfl rfl ?_
            refine G.nil ?_
            obtain rfl := sp_ret1 hm
            exact QA.againO (t29 + 1) hg20 (Sub.of ⟨rfl, rfl, rfl, rfl, trivial⟩) (Sat.pick [0] h25)
          · refine C.cond_t rfl (not_t hc29) ?_
            refine C.seq ?_
            refine C.region ?_
            refine G.yl (yl_assign rfl) rfl rfl rfl ?_
            refine G.nil ?_
            refine QA.then_normal ?_
            refine C.ret ?_
            refine QA.block_ret ?_
            refine QA.then_ret ?_
            refine QA.then_ret ?_
            refine QA.past (by simp) ?_
            refine QA.block_ret ?_
            refine QA.then_ret ?_
            refine QA.ret1 rfl rfl ?_
            obtain rfl := sp_ret1 hm
            obtain rfl : .inr false = o := hg20
            have hm : some false = some r1 := hm16
            obtain rfl := sp_ret1 hm
            exact ⟨rfl, (Sat.pick [] h25)⟩
        · refine C.cond_f rfl (dec_f hc21) ?_
          refine C.exit ?_
          refine QA.then_exit ?_
          refine QA.then_exit ?_
          obtain rfl := sp_ret1 hm
          exact QA.left () (Sub.of ⟨rfl, trivial⟩) ⟨hg20, (Sat.pick [] h18)⟩
      · rintro _ w31 ⟨rfl, h32⟩
        have hm := hm16
        show QA _ _ [(2, (.bool false))] _ _
        refine QA.block_here ?_
        refine QA.then_normal ?_
        refine C.seq ?_
        refine C.region ?_
        refine G.yl (yl_assign rfl) rfl rfl rfl ?_
        refine G.nil ?_
        refine QA.then_normal ?_
        refine C.ret ?_
        refine QA.ret1 rfl rfl ?_
        obtain rfl := sp_ret1 hm
        exact ⟨rfl, (Sat.pick [] h32)⟩
set_option maxRecDepth 20000 in
set_option maxHeartbeats 1000000 in
theorem M_label_Good_w {W : Base} {w : World} {s : List UInt8}  (h : Sat W w []) {r1 : Bool} (hm : M_label_Good s = some r1) :
    Calls Try.prog 22 #[(.string (str s))] w (Ret fun v w' => v = (.bool r1) ∧ Sat W w' []) := by
  unfold M_label_Good at hm
  refine C.enterM (N := 13) Try.func22 rfl Try.ntmps22 rfl ?_
  show C _ _ _ [(0, (.string (str s)))] _ _
  refine C.seq ?_
  refine C.region ?_
  refine G.does (does_alloc (cs := [(.bool false)]) h z4 rfl) rfl rfl rfl ?_
  rintro _ w2 ⟨b1, rfl, h3⟩
  refine G.nil ?_
  refine QA.then_normal ?_
  refine C.seq ?_
  refine C.seq ?_
  refine C.region ?_
  refine G.yl (yl_move rfl) rfl rfl rfl ?_
  refine G.yl (yl_slenE Try.underlying9 rfl) rfl rfl rfl ?_
  refine G.yl (yl_gtI rfl rfl) rfl rfl rfl ?_
  refine G.nil ?_
  refine QA.then_normal ?_
  rcases sp_ite hm with ⟨hc4, hm⟩ | ⟨hc4, hm⟩
  · refine C.cond_t rfl (dec_t hc4) ?_
    refine C.seq ?_
    refine C.region ?_
    refine G.unit (does_store (vs := [(.bool false)]) h3 sz4 rfl rfl rfl rfl (List.forall_mem_cons.2 ⟨rfl, (fun _ hh => by cases hh)⟩) (Nat.le_of_ble_eq_true rfl)) rfl rfl ?_
    rintro _ w5 h7
    have h6 : Sat W w5 [blk b1 [(.bool false)] 4] := h7
    refine G.nil ?_
    refine QA.then_normal ?_
    refine C.ret ?_
    refine QA.then_ret ?_
    refine QA.out (.inl rfl) ?_
    refine QA.ret_c rfl (InCell.one (v := (.bool false)) rfl ag4 (View.at0 (j := 0) h6.isBlk.view0 rfl)) ?_
    obtain rfl := sp_ret1 hm
    exact ⟨rfl, (Sat.pick [] h6)⟩
  · refine C.cond_f rfl (dec_f hc4) ?_
    refine C.skip ?_
    refine QA.then_normal ?_
    refine C.seq ?_
    refine C.seq ?_
    refine C.region ?_
    refine G.yl (yl_move rfl) rfl rfl rfl ?_
    obtain ⟨_, hy8, hm⟩ := sp_bind hm
    refine G.does (does_fn 0 rfl rfl rfl en47 h3 (fun U hU hp hr hs => M_label_parts_w (s := s) hp hy8)) rfl rfl rfl ?_
    rintro _ w10 ⟨U13, hb14, r19, rfl, h12⟩
    have h11 : Sat W w10 [blk r19 [(.string (str s))] 9, blk b1 [(.bool false)] 4] := hb14 h12
    refine G.nil ?_
    refine QA.then_normal ?_
    refine C.block ?_
    obtain ⟨o, ho15, hm16⟩ := sp_bind hm
    refine C.rangeFunc (γ := Unit) (δ := Unit) (σ := Unit) (ρ := Unit) (M := @fun σ_ ρ_ f_ z_ => M_label_parts_1_p f_ s z_) (f := (fun (_ : Unit) x => M_label_Good_r1 x)) (enc := (fun (x : List UInt8) => [(.string (str x))])) (K := [blk r19 [(.string (str s))] 9]) (l := []) (fun g => match g with | () => [blk b1 [(.bool false)] 4]) (fun g => match g with | () => True) (fun g => match g with | () => ()) (fun d => match d with | () => [blk b1 [(.bool false)] 4]) (fun d => match d with | () => True) (fun d => match d with | () => ()) (fun d => match d with | () => .ret) (fun x => [(2, (.pointer (some ⟨b1, 0, none⟩))), (9, (.string (str x))), (3, (.string (str x)))]) () ho15 trivial rfl en66 (Sat.pick [0, 0] h11) (fun V w1 hs hc => M_label_parts_1_p_it (x := s)) (fun _ => rfl) rfl ?_ ?_ ?_ ?_
    · intro rd_ x u_
      refine C.sub (A := [(2, (.pointer (some ⟨b1, 0, none⟩))), (9, (.string (str x)))]) (Sub.of ⟨rfl, rfl, trivial⟩) ?_
      refine C.region ?_
      refine G.yl (yl_assign rfl) rfl rfl rfl ?_
      refine G.nil ?_
      exact fun a_ ha_ => ⟨rfl, ha_.sub (Sub.of ⟨rfl, rfl, rfl, trivial⟩), rfl⟩
    · intro W w1_ hs_
      rintro rd_ _ x y_ u_ R_ _ h_ hm
      replace h_ : Sat W u_ [blk b1 [(.bool false)] 4, R_] := h_
      change M_label_Good_r1 x = some y_ at hm
      unfold M_label_Good_r1 at hm
      refine C.block ?_
      refine C.seq ?_
      refine C.region ?_
      refine G.yl (yl_move rfl) rfl rfl rfl ?_
      obtain ⟨r1_2, hy17, hm⟩ := sp_bind hm
      refine G.does (does_fn 0 rfl rfl rfl en48 h_ (fun U hU hp hr hs => M_label_Part_w (s := x) hp hy17)) rfl rfl rfl ?_
      rintro _ w18 ⟨U21, hb22, rfl, h20⟩
      have h19 : Sat W w18 [blk b1 [(.bool false)] 4, R_] := hb22 h20
      refine G.yl (yl_not rfl) rfl rfl rfl ?_
      refine G.nil ?_
      refine QA.then_normal ?_
      rcases sp_b hm with ⟨hc23, hm⟩ | ⟨hc23, hm⟩
      · refine C.cond_f rfl (not_f hc23) ?_
        refine C.skip ?_
        refine QA.block_normal ?_
        obtain rfl := sp_ret1 hm
        exact fun _ _ => .inl ⟨rfl, (), rfl, trivial, (Sat.pick [0, 0] h19)⟩
      · refine C.cond_t rfl (not_t hc23) ?_
        refine C.seq ?_
        refine C.region ?_
        refine G.unit (does_store (vs := [(.bool false)]) h19 sz4 rfl rfl rfl rfl (List.forall_mem_cons.2 ⟨rfl, (fun _ hh => by cases hh)⟩) (Nat.le_of_ble_eq_true rfl)) rfl rfl ?_
        rintro _ w24 h26
        have h25 : Sat W w24 [blk b1 [(.bool false)] 4, R_] := h26
        refine G.nil ?_
        refine QA.then_normal ?_
        refine C.ret ?_
        refine QA.block_ret ?_
        obtain rfl := sp_ret1 hm
        exact fun _ _ => .inr ⟨(), rfl, trivial, rfl, rfl, (Sat.pick [0, 0] h25)⟩
    · rintro D _ w27 ho29 _ h28
      subst ho29
      have hm := hm16
      replace h28 : Sat W w27 [obj D (.deferred (some [])), blk b1 [(.bool false)] 4] := h28
      refine QA.block_normal ?_
      refine QA.then_normal ?_
      refine C.seq ?_
      refine C.region ?_
      refine G.unit (does_store (vs := [(.bool true)]) (Sat.pick [1, 0] h28) sz4 rfl rfl rfl rfl (List.forall_mem_cons.2 ⟨rfl, (fun _ hh => by cases hh)⟩) (Nat.le_of_ble_eq_true rfl)) rfl rfl ?_
      rintro _ w30 h32
      have h31 : Sat W w30 [blk b1 [(.bool true)] 4, obj D (.deferred (some []))] := h32
      refine G.nil ?_
      refine QA.then_normal ?_
      refine C.ret ?_
      refine QA.outM (.inl rfl) (Sat.obj_at (Sat.pick [1, 0] h31)) ?_
      have h33 := (Sat.obj_put (Sat.pick [1, 0] h31) (.deferred none)).tail
      replace h33 : Sat W (World.putObj w30 D (.deferred none)) [blk b1 [(.bool true)] 4] := h33
      refine QA.out (.inl rfl) ?_
      refine QA.ret_c rfl (InCell.one (v := (.bool true)) rfl ag4 (View.at0 (j := 0) h33.isBlk.view0 rfl)) ?_
      obtain rfl := sp_ret1 hm
      exact ⟨rfl, (Sat.pick [] h33)⟩
    · intro D d_ w2_ hod_ hfx_ hd_
      subst hod_
      have hm := hm16
      replace hd_ : Sat W w2_ [obj D (.deferred (some [])), blk b1 [(.bool false)] 4] := hd_
      show QA _ .ret _ _ _
      refine QA.block_ret ?_
      refine QA.then_ret ?_
      refine QA.outM (.inl rfl) (Sat.obj_at (Sat.pick [0, 0] hd_)) ?_
      have h37 := (Sat.obj_put (Sat.pick [0, 0] hd_) (.deferred none)).tail
      replace h37 : Sat W (World.putObj w2_ D (.deferred none)) [blk b1 [(.bool false)] 4] := h37
      refine QA.out (.inl rfl) ?_
      refine QA.ret_c rfl (InCell.one (v := (.bool false)) rfl ag4 (View.at0 (j := 0) h37.isBlk.view0 rfl)) ?_
      obtain rfl := sp_ret1 hm
      exact ⟨rfl, (Sat.pick [] h37)⟩
set_option maxRecDepth 20000 in
set_option maxHeartbeats 1000000 in
theorem M_label_Fold_w {W : Base} {w : World} {s : List UInt8}  (h : Sat W w []) {r1 : List UInt8} (hm : M_label_Fold s = some r1) :
    Calls Try.prog 23 #[(.string (str s))] w (Ret fun v w' => v = (.string (str r1)) ∧ Sat W w' []) := by
  unfold M_label_Fold at hm
  refine C.enter (N := 29) Try.func23 rfl Try.ntmps23 rfl ?_
  show C _ _ _ [(0, (.string (str s)))] _ _
  refine C.seq ?_
  refine C.region ?_
  refine G.yl (yl_assign rfl) rfl rfl rfl ?_
  refine G.nil ?_
  refine QA.then_normal ?_
  refine C.seq ?_
  refine C.region ?_
  refine G.yl (yl_move rfl) rfl rfl rfl ?_
  obtain ⟨hc1, hm⟩ := sp_chk hm
  refine G.does (does_bytes h Try.underlying9 Try.underlying39 Try.underlying5 el5 rfl hc1) rfl rfl rfl ?_
  rintro _ w4 ⟨a2, c3, rfl, h5⟩
  refine G.yl (yl_assign rfl) rfl rfl rfl ?_
  refine G.nil ?_
  refine QA.then_normal ?_
  refine C.seq ?_
  refine C.seq ?_
  refine C.region ?_
  refine G.yl (yl_move rfl) rfl rfl rfl ?_
  refine G.yl (yl_lenE Try.underlying39 rfl) rfl rfl rfl ?_
  refine G.yl (yl_move rfl) rfl rfl rfl ?_
  refine G.nil ?_
  refine QA.then_normal ?_
  refine C.block ?_
  obtain ⟨o, ho8, hm9⟩ := sp_bind hm
  refine C.left (γ := List UInt8) (.exit 0) (fun g => match g with | b_2 => [(2, (.string (str ([] : List UInt8)))), (3, (.slice a2 s.length c3))]) (fun g ww => match g with | b_2 => b_2 = o ∧ (b_2.length = s.length) ∧ Sat W ww [ow elU8 a2 c3 5 b_2]) ?_ ?_
  · refine C.loopO (γ := List UInt8 × Int) (fun g => match g with | (b, t10) => [(2, (.string (str ([] : List UInt8)))), (3, (.slice a2 s.length c3)), (8, (.slice a2 s.length c3)), (9, (vI (s.length : Int))), (10, (vI t10))]) (fun g ww => match g with | (b, t10) => (b.length = s.length) ∧ Sat W ww [ow elU8 a2 c3 5 b]) (fun g => match g with | (b, t10) => (b, t10)) (s, 0) ho8 (Sub.of ⟨rfl, rfl, rfl, rfl, rfl, trivial⟩) ⟨(by simp [copyL_length]), (Sat.pick [0] h5)⟩ ?_
    rintro ⟨b, t10⟩ k12 w10 y_ ⟨hl6, h11⟩ hm hg13
    show C _ _ _ [(2, (.string (str ([] : List UInt8)))), (3, (.slice a2 s.length c3)), (8, (.slice a2 s.length c3)), (9, (vI (s.length : Int))), (10, (vI t10))] _ _
    change M_label_Fold_b1 s b t10 = some y_ at hm
    unfold M_label_Fold_b1 at hm
    refine C.seq ?_
    refine C.region ?_
    refine G.yl (yl_ltI rfl rfl) rfl rfl rfl ?_
    refine G.nil ?_
    refine QA.then_normal ?_
    refine C.seq ?_
    rcases sp_ite hm with ⟨hc14, hm⟩ | ⟨hc14, hm⟩
    · refine C.cond_t rfl (dec_t hc14) ?_
      refine C.skip ?_
      refine QA.then_normal ?_
      refine C.seq ?_
      refine C.block ?_
      refine C.seq ?_
      refine C.region ?_
      refine G.yl (yl_move rfl) rfl rfl rfl ?_
      obtain ⟨x, hy15, hm⟩ := sp_bind hm
      refine G.yl (yl_ixP (l := b) sl39 rfl rfl (View.isA (E := elU8) (Sat.own_view h11) (by decide) (at?_lt hy15)) (by simp [copyL_length, hl6]) (at?_lt hy15)) rfl rfl rfl ?_
      refine G.yl (yl_ld1 (E := elU8) (v := (v8 x)) ag5 rfl (Sat.own_view h11) (at?_some hy15).2 rfl) rfl rfl rfl ?_
      refine G.yl (yl_assign rfl) rfl rfl rfl ?_
      refine G.yl (yl_assign rfl) rfl rfl rfl ?_
      refine G.nil ?_
      refine QA.then_normal ?_
      refine C.join (γ := Bool) (fun g => match g with | t20 => [(2, (.string (str ([] : List UInt8)))), (3, (.slice a2 s.length c3)), (4, (vI t10)), (5, (v8 x)), (8, (.slice a2 s.length c3)), (9, (vI (s.length : Int))), (10, (vI t10)), (20, (.bool t20))]) (fun g ww => match g with | t20 => (M_label_Fold_k2 b t10 x t20 = some y_) ∧ Sat W ww [ow elU8 a2 c3 5 b]) ?_ ?_
      · refine C.region ?_
        refine G.yl (yl_move rfl) rfl rfl rfl ?_
        refine G.yl (yl_ge8 (b := 65) rfl rfl) rfl rfl rfl ?_
        refine G.yl (yl_move rfl) rfl rfl rfl ?_
        rcases sp_ite hm with ⟨hc16, hm⟩ | ⟨hc16, hm⟩
        · refine G.on rfl rfl (dec_t hc16) ?_
          refine G.yl (yl_move rfl) rfl rfl rfl ?_
          refine G.on rfl rfl (dec_t hc16) ?_
          refine G.yl (yl_le8 (b := 90) rfl rfl) rfl rfl rfl ?_
          refine G.yl (yl_pick_t rfl (dec_t hc16) rfl) rfl rfl rfl ?_
          refine G.nil ?_
          exact QA.join (decide (x ≤ 90)) (Sub.of ⟨rfl, rfl, rfl, rfl, rfl, rfl, rfl, rfl, trivial⟩) ⟨hm, (Sat.pick [0] h11)⟩
        · refine G.offU rfl rfl (dec_f hc16) rfl ?_
          refine G.offU rfl rfl (dec_f hc16) rfl ?_
          refine G.yl (yl_pick_f rfl (dec_f hc16) rfl) rfl rfl rfl ?_
          refine G.nil ?_
          exact QA.join false (Sub.of ⟨rfl, rfl, rfl, rfl, rfl, rfl, rfl, rfl, trivial⟩) ⟨hm, (Sat.pick [0] h11)⟩
      · rintro t20 w17 ⟨hm, h18⟩
        show C _ _ _ [(2, (.string (str ([] : List UInt8)))), (3, (.slice a2 s.length c3)), (4, (vI t10)), (5, (v8 x)), (8, (.slice a2 s.length c3)), (9, (vI (s.length : Int))), (10, (vI t10)), (20, (.bool t20))] _ _
        unfold M_label_Fold_k2 at hm
        rcases sp_b hm with ⟨hc19, hm⟩ | ⟨hc19, hm⟩
        · refine C.cond_t rfl hc19 ?_
          refine C.region ?_
          refine G.yl (yl_move rfl) rfl rfl rfl ?_
          refine G.yl (yl_move rfl) rfl rfl rfl ?_
          refine G.yl (yl_move rfl) rfl rfl rfl ?_
          refine G.yl (yl_or8 (b := 32) rfl rfl) rfl rfl rfl ?_
          obtain ⟨x_2, hy20, hm⟩ := sp_bind hm
          refine G.yl (yl_ixP (l := b) sl39 rfl rfl (View.isA (E := elU8) (Sat.own_view h18) (by decide) (at?_lt hy20)) (by simp [copyL_length, hl6]) (at?_lt hy20)) rfl rfl rfl ?_
          refine G.unit (does_stE (E := elU8) (r := x ||| 32) h18 sz5 rfl rfl (by decide) rfl (List.getElem?_eq_some_iff.1 (at?_some hy20).2).1) rfl rfl ?_
          rintro _ w21 h22
          refine G.nil ?_
          refine QA.block_normal ?_
          refine QA.then_normal ?_
          refine C.region ?_
          obtain ⟨hc23, hm⟩ := sp_chk hm
          refine G.yl (yl_addI rfl rfl hc23) rfl rfl rfl ?_
          refine G.yl (yl_move rfl) rfl rfl rfl ?_
          refine G.nil ?_
          obtain rfl := sp_ret1 hm
          exact QA.againO (b.set t10.toNat (x ||| 32), t10 + 1) hg13 (Sub.of ⟨rfl, (look_eq rfl (by simp [copyL_length, hl6])), (look_eq rfl (by simp [copyL_length, hl6])), rfl, rfl, trivial⟩) ⟨(by simp [copyL_length, hl6]), (Sat.pick [0] h22)⟩
        · refine C.cond_f rfl hc19 ?_
          refine C.skip ?_
          refine QA.block_normal ?_
          refine QA.then_normal ?_
          refine C.region ?_
          obtain ⟨hc24, hm⟩ := sp_chk hm
          refine G.yl (yl_addI rfl rfl hc24) rfl rfl rfl ?_
          refine G.yl (yl_move rfl) rfl rfl rfl ?_
          refine G.nil ?_
          obtain rfl := sp_ret1 hm
          exact QA.againO (b, t10 + 1) hg13 (Sub.of ⟨rfl, (look_eq rfl (by simp [copyL_length, hl6])), (look_eq rfl (by simp [copyL_length, hl6])), rfl, rfl, trivial⟩) ⟨(by simp [copyL_length, hl6]), (Sat.pick [0] h18)⟩
    · refine C.cond_f rfl (dec_f hc14) ?_
      refine C.exit ?_
      refine QA.then_exit ?_
      refine QA.then_exit ?_
      obtain rfl := sp_ret1 hm
      exact QA.left b (Sub.of ⟨rfl, (look_eq rfl (by simp [copyL_length, hl6])), trivial⟩) ⟨hg13, (by simp [copyL_length, hl6]), (Sat.pick [0] h11)⟩
  · rintro b_2 w25 ⟨rfl, hl7, h26⟩
    have hm := hm9
    show QA _ _ [(2, (.string (str ([] : List UInt8)))), (3, (.slice a2 s.length c3))] _ _
    refine QA.block_here ?_
    refine QA.then_normal ?_
    refine C.seq ?_
    refine C.region ?_
    refine G.yl (yl_move rfl) rfl rfl rfl ?_
    refine G.yl (yl_strE (l := b_2) Try.underlying39 Try.underlying5 Try.underlying9 rfl (by simp [copyL_length, hl7]) (Sat.own_view h26)) rfl rfl rfl ?_
    refine G.yl (yl_assign rfl) rfl rfl rfl ?_
    refine G.nil ?_
    refine QA.then_normal ?_
    refine C.ret ?_
    refine QA.ret1 rfl rfl ?_
    obtain rfl := sp_ret1 hm
    exact ⟨rfl, (Sat.pick [] h26)⟩
set_option maxRecDepth 20000 in
set_option maxHeartbeats 1000000 in
theorem M_inst_Good_w {W : Base} {w : World} {i : G_api_Instance}  (h : Sat W w []) {r1 : Bool} (hm : M_inst_Good i = some r1) :
    Calls Try.prog 8 #[(.agg (bytesV (List.ofFn (n := 20) i.Publisher) ++ ([(v64 i.Seq), (v64 i.Born), (v32 i.Life), (.bool i.Gone), (v16 i.Priority), (v16 i.Weight), (v16 i.Port), (.string (str i.Target))] : List Value)).toArray)] w (Ret fun v w' => v = (.bool r1) ∧ Sat W w' []) := by
  unfold M_inst_Good at hm
  refine C.enter (N := 38) Try.func8 rfl Try.ntmps8 rfl ?_
  show C _ _ _ [(0, (.agg (bytesV (List.ofFn (n := 20) i.Publisher) ++ ([(v64 i.Seq), (v64 i.Born), (v32 i.Life), (.bool i.Gone), (v16 i.Priority), (v16 i.Weight), (v16 i.Port), (.string (str i.Target))] : List Value)).toArray))] _ _
  refine C.seq ?_
  refine C.region ?_
  refine G.does (does_box (cs := (bytesV (List.ofFn (n := 20) i.Publisher) ++ ([(v64 i.Seq), (v64 i.Born), (v32 i.Life), (.bool i.Gone), (v16 i.Priority), (v16 i.Weight), (v16 i.Port), (.string (str i.Target))] : List Value))) h rfl rfl) rfl rfl rfl ?_
  rintro _ w2 ⟨b1, rfl, h3⟩
  refine G.yl (yl_assign rfl) rfl rfl rfl ?_
  refine G.nil ?_
  refine QA.then_normal ?_
  refine C.seq ?_
  refine C.join (γ := Bool) (fun g => match g with | t11 => [(1, (.pointer (some ⟨b1, 0, none⟩))), (2, (.bool false)), (11, (.bool t11))]) (fun g ww => match g with | t11 => (M_inst_Good_k1 i t11 = some r1) ∧ Sat W ww [blk b1 (bytesV (List.ofFn (n := 20) i.Publisher) ++ ([(v64 i.Seq), (v64 i.Born), (v32 i.Life), (.bool i.Gone), (v16 i.Priority), (v16 i.Weight), (v16 i.Port), (.string (str i.Target))] : List Value)) 31]) ?_ ?_
  · refine C.region ?_
    refine G.yl (yl_fieldAddr fo31_3 rfl) rfl rfl rfl ?_
    refine G.yl (yl_load (v := (v32 i.Life)) ag28 rfl (View.at_ (j := 2) (View.span_tail h3.isBlk.view0) rfl)) rfl rfl rfl ?_
    refine G.yl (yl_lt32 (b := 1) rfl rfl) rfl rfl rfl ?_
    refine G.yl (yl_move rfl) rfl rfl rfl ?_
    rcases sp_ite hm with ⟨hc4, hm⟩ | ⟨hc4, hm⟩
    · refine G.offU rfl rfl (dec_t hc4) rfl ?_
      refine G.offU rfl rfl (dec_t hc4) rfl ?_
      refine G.offU rfl rfl (dec_t hc4) rfl ?_
      refine G.yl (yl_pick_t rfl (dec_t hc4) rfl) rfl rfl rfl ?_
      refine G.nil ?_
      exact QA.join true (Sub.of ⟨rfl, rfl, rfl, trivial⟩) ⟨hm, (Sat.pick [0] h3)⟩
    · refine G.on rfl rfl (dec_f hc4) ?_
      refine G.yl (yl_fieldAddr fo31_3 rfl) rfl rfl rfl ?_
      refine G.on rfl rfl (dec_f hc4) ?_
      refine G.yl (yl_load (v := (v32 i.Life)) ag28 rfl (View.at_ (j := 2) (View.span_tail h3.isBlk.view0) rfl)) rfl rfl rfl ?_
      refine G.on rfl rfl (dec_f hc4) ?_
      refine G.yl (yl_gt32 (b := 2147483647) rfl rfl) rfl rfl rfl ?_
      refine G.yl (yl_pick_f rfl (dec_f hc4) rfl) rfl rfl rfl ?_
      refine G.nil ?_
      exact QA.join (decide ((2147483647 : UInt32) < i.Life)) (Sub.of ⟨rfl, rfl, rfl, trivial⟩) ⟨hm, (Sat.pick [0] h3)⟩
  · rintro t11 w5 ⟨hm, h6⟩
    show C _ _ _ [(1, (.pointer (some ⟨b1, 0, none⟩))), (2, (.bool false)), (11, (.bool t11))] _ _
    unfold M_inst_Good_k1 at hm
    rcases sp_b hm with ⟨hc7, hm⟩ | ⟨hc7, hm⟩
    · refine C.cond_t rfl hc7 ?_
      refine C.seq ?_
      refine C.region ?_
      refine G.yl (yl_assign rfl) rfl rfl rfl ?_
      refine G.nil ?_
      refine QA.then_normal ?_
      refine C.ret ?_
      refine QA.then_ret ?_
      refine QA.ret1 rfl rfl ?_
      obtain rfl := sp_ret1 hm
      exact ⟨rfl, (Sat.pick [] h6)⟩
    · refine C.cond_f rfl hc7 ?_
      refine C.skip ?_
      refine QA.then_normal ?_
      refine C.seq ?_
      refine C.seq ?_
      refine C.region ?_
      refine G.yl (yl_fieldAddr fo31_4 rfl) rfl rfl rfl ?_
      refine G.yl (yl_load (v := (.bool i.Gone)) ag4 rfl (View.at_ (j := 3) (View.span_tail h6.isBlk.view0) rfl)) rfl rfl rfl ?_
      refine G.nil ?_
      refine QA.then_normal ?_
      rcases sp_b hm with ⟨hc8, hm⟩ | ⟨hc8, hm⟩
      · refine C.cond_t rfl hc8 ?_
        refine C.seq ?_
        refine C.region ?_
        refine G.yl (yl_loadN (vs := (bytesV (List.ofFn (n := 20) i.Publisher) ++ ([(v64 i.Seq), (v64 i.Born), (v32 i.Life), (.bool i.Gone), (v16 i.Priority), (v16 i.Weight), (v16 i.Port), (.string (str i.Target))] : List Value))) ag31 sz31 (by simp [bytesV_length]) rfl (h6.isBlk.view0)) rfl rfl rfl ?_
        refine G.does (does_alloc (cs := (bytesV (List.ofFn (n := 20) (fun _ => 0)) ++ ([(.int .u64 0), (.int .u64 0), (.int .u32 0), (.bool false), (.int .u16 0), (.int .u16 0), (.int .u16 0), (.string (str ([] : List UInt8)))] : List Value))) h6 z31 rfl) rfl rfl rfl ?_
        rintro _ w10 ⟨b9, rfl, h11⟩
        refine G.unit (does_store (vs := (bytesV (List.ofFn (n := 20) i.Publisher) ++ ([(v64 i.Seq), (v64 i.Born), (v32 i.Life), (.bool i.Gone), (v16 i.Priority), (v16 i.Weight), (v16 i.Port), (.string (str i.Target))] : List Value))) h11 sz31 rfl rfl rfl (by simp [bytesV_length]) (List.forall_mem_append.2 ⟨(bytesV_one _), (List.forall_mem_cons.2 ⟨rfl, (List.forall_mem_cons.2 ⟨rfl, (List.forall_mem_cons.2 ⟨rfl, (List.forall_mem_cons.2 ⟨rfl, (List.forall_mem_cons.2 ⟨rfl, (List.forall_mem_cons.2 ⟨rfl, (List.forall_mem_cons.2 ⟨rfl, (List.forall_mem_cons.2 ⟨rfl, (fun _ hh => by cases hh)⟩)⟩)⟩)⟩)⟩)⟩)⟩)⟩)⟩) (by simp [bytesV_length])) rfl rfl ?_
        rintro _ w12 h14
        have h13 : Sat W w12 [blk b9 (bytesV (List.ofFn (n := 20) i.Publisher) ++ ([(v64 i.Seq), (v64 i.Born), (v32 i.Life), (.bool i.Gone), (v16 i.Priority), (v16 i.Weight), (v16 i.Port), (.string (str i.Target))] : List Value)) 31, blk b1 (bytesV (List.ofFn (n := 20) i.Publisher) ++ ([(v64 i.Seq), (v64 i.Born), (v32 i.Life), (.bool i.Gone), (v16 i.Priority), (v16 i.Weight), (v16 i.Port), (.string (str i.Target))] : List Value)) 31] := sl_blk (setN_all _ _ (by simp [bytesV_length])) h14
        refine G.nil ?_
        refine QA.then_normal ?_
        refine C.seq ?_
        refine C.region ?_
        refine G.yl (yl_fieldAddr fo31_5 rfl) rfl rfl rfl ?_
        refine G.unit (does_store (vs := [(.int .u16 0)]) h13 sz29 rfl rfl rfl (by simp [bytesV_length]) (List.forall_mem_cons.2 ⟨rfl, (fun _ hh => by cases hh)⟩) (by simp [bytesV_length])) rfl rfl ?_
        rintro _ w15 h17
        have h16 : Sat W w15 [blk b9 (bytesV (List.ofFn (n := 20) i.Publisher) ++ ([(v64 i.Seq), (v64 i.Born), (v32 i.Life), (.bool i.Gone), (.int .u16 0), (v16 i.Weight), (v16 i.Port), (.string (str i.Target))] : List Value)) 31, blk b1 (bytesV (List.ofFn (n := 20) i.Publisher) ++ ([(v64 i.Seq), (v64 i.Born), (v32 i.Life), (.bool i.Gone), (v16 i.Priority), (v16 i.Weight), (v16 i.Port), (.string (str i.Target))] : List Value)) 31] := sl_blk (by kernel_rfl) h17
        refine G.yl (yl_fieldAddr fo31_6 rfl) rfl rfl rfl ?_
        refine G.unit (does_store (vs := [(.int .u16 0)]) h16 sz29 rfl rfl rfl (by simp [bytesV_length]) (List.forall_mem_cons.2 ⟨rfl, (fun _ hh => by cases hh)⟩) (by simp [bytesV_length])) rfl rfl ?_
        rintro _ w18 h20
        have h19 : Sat W w18 [blk b9 (bytesV (List.ofFn (n := 20) i.Publisher) ++ ([(v64 i.Seq), (v64 i.Born), (v32 i.Life), (.bool i.Gone), (.int .u16 0), (.int .u16 0), (v16 i.Port), (.string (str i.Target))] : List Value)) 31, blk b1 (bytesV (List.ofFn (n := 20) i.Publisher) ++ ([(v64 i.Seq), (v64 i.Born), (v32 i.Life), (.bool i.Gone), (v16 i.Priority), (v16 i.Weight), (v16 i.Port), (.string (str i.Target))] : List Value)) 31] := sl_blk (by kernel_rfl) h20
        refine G.yl (yl_fieldAddr fo31_7 rfl) rfl rfl rfl ?_
        refine G.unit (does_store (vs := [(.int .u16 0)]) h19 sz29 rfl rfl rfl (by simp [bytesV_length]) (List.forall_mem_cons.2 ⟨rfl, (fun _ hh => by cases hh)⟩) (by simp [bytesV_length])) rfl rfl ?_
        rintro _ w21 h23
        have h22 : Sat W w21 [blk b9 (bytesV (List.ofFn (n := 20) i.Publisher) ++ ([(v64 i.Seq), (v64 i.Born), (v32 i.Life), (.bool i.Gone), (.int .u16 0), (.int .u16 0), (.int .u16 0), (.string (str i.Target))] : List Value)) 31, blk b1 (bytesV (List.ofFn (n := 20) i.Publisher) ++ ([(v64 i.Seq), (v64 i.Born), (v32 i.Life), (.bool i.Gone), (v16 i.Priority), (v16 i.Weight), (v16 i.Port), (.string (str i.Target))] : List Value)) 31] := sl_blk (by kernel_rfl) h23
        refine G.yl (yl_fieldAddr fo31_8 rfl) rfl rfl rfl ?_
        refine G.unit (does_store (vs := [(.string (str ([] : List UInt8)))]) h22 sz9 rfl rfl rfl (by simp [bytesV_length]) (List.forall_mem_cons.2 ⟨rfl, (fun _ hh => by cases hh)⟩) (by simp [bytesV_length])) rfl rfl ?_
        rintro _ w24 h26
        have h25 : Sat W w24 [blk b9 (bytesV (List.ofFn (n := 20) i.Publisher) ++ ([(v64 i.Seq), (v64 i.Born), (v32 i.Life), (.bool i.Gone), (.int .u16 0), (.int .u16 0), (.int .u16 0), (.string (str ([] : List UInt8)))] : List Value)) 31, blk b1 (bytesV (List.ofFn (n := 20) i.Publisher) ++ ([(v64 i.Seq), (v64 i.Born), (v32 i.Life), (.bool i.Gone), (v16 i.Priority), (v16 i.Weight), (v16 i.Port), (.string (str i.Target))] : List Value)) 31] := sl_blk (by kernel_rfl) h26
        refine G.nil ?_
        refine QA.then_normal ?_
        refine C.seq ?_
        refine C.region ?_
        refine G.yl (yl_loadN (vs := (bytesV (List.ofFn (n := 20) i.Publisher) ++ ([(v64 i.Seq), (v64 i.Born), (v32 i.Life), (.bool i.Gone), (.int .u16 0), (.int .u16 0), (.int .u16 0), (.string (str ([] : List UInt8)))] : List Value))) ag31 sz31 (by simp [bytesV_length]) rfl (h25.isBlk.view0)) rfl rfl rfl ?_
        refine G.yl (yl_loadN (vs := (bytesV (List.ofFn (n := 20) i.Publisher) ++ ([(v64 i.Seq), (v64 i.Born), (v32 i.Life), (.bool i.Gone), (v16 i.Priority), (v16 i.Weight), (v16 i.Port), (.string (str i.Target))] : List Value))) ag31 sz31 (by simp [bytesV_length]) rfl ((Sat.pick [1] h25).isBlk.view0)) rfl rfl rfl ?_
        obtain ⟨hc27, hm⟩ := sp_chk hm
        refine G.yl (yl_eq_agg (r := decide ((G_api_Instance.mk i.Publisher i.Seq i.Born i.Life i.Gone 0 0 0 ([] : List UInt8)) = i)) (vs := (el_G_api_Instance.f (G_api_Instance.mk i.Publisher i.Seq i.Born i.Life i.Gone 0 0 0 ([] : List UInt8)))) (us := (el_G_api_Instance.f i)) rfl rfl (by rw [decide_eq_true_eq]; exact G_api_Instance_inj) eqT31.1 eqT31.2.1 eqT31.2.2.1 eqT31.2.2.2.1 eqT31.2.2.2.2 (G_api_Instance_fits (G_api_Instance.mk i.Publisher i.Seq i.Born i.Life i.Gone 0 0 0 ([] : List UInt8)) (by first | decide | exact Nat.zero_le _)) (G_api_Instance_fits i hc27)) rfl rfl rfl ?_
        refine G.yl (yl_assign rfl) rfl rfl rfl ?_
        refine G.nil ?_
        refine QA.then_normal ?_
        refine C.ret ?_
        refine QA.then_ret ?_
        refine QA.ret1 rfl rfl ?_
        obtain rfl := sp_ret1 hm
        exact ⟨rfl, (Sat.pick [] h25)⟩
      · refine C.cond_f rfl hc8 ?_
        refine C.skip ?_
        refine QA.then_normal ?_
        refine C.seq ?_
        refine C.draw (V := fun w' => View w' (some ⟨b1, 0, none⟩) (bytesV (List.ofFn (n := 20) i.Publisher) ++ ([(v64 i.Seq), (v64 i.Born), (v32 i.Life), (.bool i.Gone), (v16 i.Priority), (v16 i.Weight), (v16 i.Port), (.string (str i.Target))] : List Value))) (nd := [1, 4, 5, 9, 10, 12, 13, 14]) (sp := []) (n := 17) rfl h6 rfl rfl ?_
        intro w28 h29
        have hS30 : Cls (fun w' => View w' (some ⟨b1, 0, none⟩) (bytesV (List.ofFn (n := 20) i.Publisher) ++ ([(v64 i.Seq), (v64 i.Born), (v32 i.Life), (.bool i.Gone), (v16 i.Priority), (v16 i.Weight), (v16 i.Port), (.string (str i.Target))] : List Value))) [1, 4, 5, 9, 10, 12, 13, 14] [] #[nn, nn, nn, nn, nn, nn, nn, nn, nn, nn, nn, nn, nn, nn, nn, nn, nn] w28 := Cls.keep (h29.isBlk.view0) (by kernel_rfl)
        refine GH.yl (i := 0) (listed' := #[yy, nn, nn, nn, nn, nn, nn, nn, nn, nn, nn, nn, nn, nn, nn, nn, nn]) rfl (by kernel_rfl) rfl (NP.next NP.body) rfl rfl rfl (fun w' => yl_fieldAddr fo31_7 rfl) hS30 (fun hS31 => ?_)
        refine GH.yr (i := 1) (listed' := #[yy, yy, nn, nn, nn, nn, nn, nn, nn, nn, nn, nn, nn, nn, nn, nn, nn]) rfl (by kernel_rfl) rfl rfl (NP.next NP.body) rfl rfl rfl (fun w' hw' => yl_load (v := (v16 i.Port)) ag29 rfl (View.at_ (j := 6) (View.span_tail hw') rfl)) hS31 (fun hS32 => ?_)
        refine GH.yl (i := 2) (listed' := #[yy, yy, yy, nn, nn, nn, nn, nn, nn, nn, nn, nn, nn, nn, nn, nn, nn]) rfl (by kernel_rfl) rfl (NP.next NP.body) rfl rfl rfl (fun w' => yl_ne16 (b := 0) rfl rfl) hS32 (fun hS33 => ?_)
        refine GH.yl (i := 3) (listed' := #[yy, yy, yy, yy, nn, nn, nn, nn, nn, nn, nn, nn, nn, nn, nn, nn, nn]) rfl (by kernel_rfl) rfl (NP.next NP.body) rfl rfl rfl (fun w' => yl_move rfl) hS33 (fun hS34 => ?_)
        rcases sp_ite hm with ⟨hc35, hm⟩ | ⟨hc35, hm⟩
        · refine GH.off (i := 4) (listed' := #[yy, yy, yy, yy, yy, nn, nn, nn, nn, nn, nn, nn, nn, nn, nn, nn, nn]) rfl (by kernel_rfl) rfl (NP.next NP.body) rfl rfl rfl rfl (not_f (dec_t hc35)) hS34 (fun hS36 => ?_)
          refine GH.off (i := 5) (listed' := #[yy, yy, yy, yy, yy, yy, nn, nn, nn, nn, nn, nn, nn, nn, nn, nn, nn]) rfl (by kernel_rfl) rfl (NP.next NP.body) rfl rfl rfl rfl (not_f (dec_t hc35)) hS36 (fun hS37 => ?_)
          refine GH.off (i := 6) (listed' := #[yy, yy, yy, yy, yy, yy, yy, nn, nn, nn, nn, nn, nn, nn, nn, nn, nn]) rfl (by kernel_rfl) rfl (NP.next NP.body) rfl rfl rfl rfl (not_f (dec_t hc35)) hS37 (fun hS38 => ?_)
          refine GH.yl (i := 7) (listed' := #[yy, yy, yy, yy, yy, yy, yy, yy, nn, nn, nn, nn, nn, nn, nn, nn, nn]) rfl (by kernel_rfl) rfl (NP.next NP.body) rfl rfl rfl (fun w' => yl_pick_f rfl (not_f (dec_t hc35)) rfl) hS38 (fun hS39 => ?_)
          refine GH.yl (i := 8) (listed' := #[yy, yy, yy, yy, yy, yy, yy, yy, yy, nn, nn, nn, nn, nn, nn, nn, nn]) rfl (by kernel_rfl) rfl (NP.next NP.body) rfl rfl rfl (fun w' => yl_move rfl) hS39 (fun hS40 => ?_)
          refine GH.off (i := 9) (listed' := #[yy, yy, yy, yy, yy, yy, yy, yy, yy, yy, nn, nn, nn, nn, nn, nn, nn]) rfl (by kernel_rfl) rfl (NP.next NP.body) rfl rfl rfl rfl rfl hS40 (fun hS41 => ?_)
          refine GH.off (i := 10) (listed' := #[yy, yy, yy, yy, yy, yy, yy, yy, yy, yy, yy, nn, nn, nn, nn, nn, nn]) rfl (by kernel_rfl) rfl (NP.next NP.body) rfl rfl rfl rfl rfl hS41 (fun hS42 => ?_)
          refine GH.off (i := 11) (listed' := #[yy, yy, yy, yy, yy, yy, yy, yy, yy, yy, yy, yy, nn, nn, nn, nn, nn]) rfl (by kernel_rfl) rfl (NP.next NP.body) rfl rfl rfl rfl rfl hS42 (fun hS43 => ?_)
          refine GH.off (i := 12) (listed' := #[yy, yy, yy, yy, yy, yy, yy, yy, yy, yy, yy, yy, yy, nn, nn, nn, nn]) rfl (by kernel_rfl) rfl (NP.next NP.body) rfl rfl rfl rfl rfl hS43 (fun hS44 => ?_)
          refine GH.off (i := 13) (listed' := #[yy, yy, yy, yy, yy, yy, yy, yy, yy, yy, yy, yy, yy, yy, nn, nn, nn]) rfl (by kernel_rfl) rfl (NP.next NP.body) rfl rfl rfl rfl rfl hS44 (fun hS45 => ?_)
          refine GH.off (i := 14) (listed' := #[yy, yy, yy, yy, yy, yy, yy, yy, yy, yy, yy, yy, yy, yy, yy, nn, nn]) rfl (by kernel_rfl) rfl (NP.next NP.body) rfl rfl rfl rfl rfl hS45 (fun hS46 => ?_)
          refine GH.yl (i := 15) (listed' := #[yy, yy, yy, yy, yy, yy, yy, yy, yy, yy, yy, yy, yy, yy, yy, yy, nn]) rfl (by kernel_rfl) rfl (NP.next NP.body) rfl rfl rfl (fun w' => yl_pick_f rfl rfl rfl) hS46 (fun hS47 => ?_)
          refine GH.yl (i := 16) (listed' := #[yy, yy, yy, yy, yy, yy, yy, yy, yy, yy, yy, yy, yy, yy, yy, yy, yy]) rfl (by kernel_rfl) rfl (NP.next NP.body) rfl rfl rfl (fun w' => yl_assign rfl) hS47 (fun hS48 => ?_)
          refine GH.done (by kernel_rfl) ?_
          refine QA.then_normal ?_
          refine C.ret ?_
          refine QA.ret1 rfl rfl ?_
          obtain rfl := sp_ret1 hm
          exact ⟨rfl, (Sat.pick [] h29)⟩
        · refine GH.on (i := 4) (listed' := #[yy, yy, yy, yy, yy, nn, nn, nn, nn, nn, nn, nn, nn, nn, nn, nn, nn]) rfl (by kernel_rfl) rfl rfl (NP.next NP.body) rfl rfl rfl rfl (not_t (dec_f hc35)) (fun w' hw' => yl_fieldAddr fo31_8 rfl) hS34 (fun hS49 => ?_)
          refine GH.on (i := 5) (listed' := #[yy, yy, yy, yy, yy, yy, nn, nn, nn, nn, nn, nn, nn, nn, nn, nn, nn]) rfl (by kernel_rfl) rfl rfl (NP.next NP.body) rfl rfl rfl rfl (not_t (dec_f hc35)) (fun w' hw' => yl_load (v := (.string (str i.Target))) ag9 rfl (View.at_ (j := 7) (View.span_tail hw') rfl)) hS49 (fun hS50 => ?_)
          obtain ⟨r1_2, hy51, hm⟩ := sp_bind hm
          refine GH.doesOn (i := 6) (listed' := #[yy, yy, yy, yy, yy, yy, yy, nn, nn, nn, nn, nn, nn, nn, nn, nn, nn]) rfl (by kernel_rfl) rfl rfl rfl (not_t (dec_f hc35)) rfl rfl (does_fn 0 rfl rfl rfl en22 h29 (fun U hU hp hr hs => M_label_Good_w (s := i.Target) hp hy51)) ?_
          rintro _ w52 ⟨U55, hb56, rfl, h54⟩
          have h53 : Sat W w52 [blk b1 (bytesV (List.ofFn (n := 20) i.Publisher) ++ ([(v64 i.Seq), (v64 i.Born), (v32 i.Life), (.bool i.Gone), (v16 i.Priority), (v16 i.Weight), (v16 i.Port), (.string (str i.Target))] : List Value)) 31] := hb56 h54
          have hS57 : Cls (fun w' => View w' (some ⟨b1, 0, none⟩) (bytesV (List.ofFn (n := 20) i.Publisher) ++ ([(v64 i.Seq), (v64 i.Born), (v32 i.Life), (.bool i.Gone), (v16 i.Priority), (v16 i.Weight), (v16 i.Port), (.string (str i.Target))] : List Value))) [1, 4, 5, 9, 10, 12, 13, 14] [] #[yy, yy, yy, yy, yy, yy, yy, nn, nn, nn, nn, nn, nn, nn, nn, nn, nn] w52 := Cls.keep (h53.isBlk.view0) (by kernel_rfl)
          refine ⟨hS57, ?_⟩
          refine GH.yl (i := 7) (listed' := #[yy, yy, yy, yy, yy, yy, yy, yy, nn, nn, nn, nn, nn, nn, nn, nn, nn]) rfl (by kernel_rfl) rfl (NP.next NP.body) rfl rfl rfl (fun w' => yl_pick_t rfl (not_t (dec_f hc35)) rfl) hS57 (fun hS58 => ?_)
          refine GH.yl (i := 8) (listed' := #[yy, yy, yy, yy, yy, yy, yy, yy, yy, nn, nn, nn, nn, nn, nn, nn, nn]) rfl (by kernel_rfl) rfl (NP.next NP.body) rfl rfl rfl (fun w' => yl_move rfl) hS58 (fun hS59 => ?_)
          rcases sp_b hm with ⟨hc60, hm⟩ | ⟨hc60, hm⟩
          · refine GH.on (i := 9) (listed' := #[yy, yy, yy, yy, yy, yy, yy, yy, yy, yy, nn, nn, nn, nn, nn, nn, nn]) rfl (by kernel_rfl) rfl rfl (NP.next NP.body) rfl rfl rfl rfl hc60 (fun w' hw' => yl_fieldAddr fo31_8 rfl) hS59 (fun hS61 => ?_)
            refine GH.on (i := 10) (listed' := #[yy, yy, yy, yy, yy, yy, yy, yy, yy, yy, yy, nn, nn, nn, nn, nn, nn]) rfl (by kernel_rfl) rfl rfl (NP.next NP.body) rfl rfl rfl rfl hc60 (fun w' hw' => yl_load (v := (.string (str i.Target))) ag9 rfl (View.at_ (j := 7) (View.span_tail hw') rfl)) hS61 (fun hS62 => ?_)
            refine GH.on (i := 12) (listed' := #[yy, yy, yy, yy, yy, yy, yy, yy, yy, yy, yy, nn, yy, nn, nn, nn, nn]) rfl (by kernel_rfl) rfl rfl (NP.next NP.body) rfl rfl rfl rfl hc60 (fun w' hw' => yl_fieldAddr fo31_8 rfl) hS62 (fun hS63 => ?_)
            refine GH.on (i := 13) (listed' := #[yy, yy, yy, yy, yy, yy, yy, yy, yy, yy, yy, nn, yy, yy, nn, nn, nn]) rfl (by kernel_rfl) rfl rfl (NP.next NP.body) rfl rfl rfl rfl hc60 (fun w' hw' => yl_load (v := (.string (str i.Target))) ag9 rfl (View.at_ (j := 7) (View.span_tail hw') rfl)) hS63 (fun hS64 => ?_)
            obtain ⟨r1_3, hy65, hm⟩ := sp_bind hm
            refine GH.doesOn (i := 11) (listed' := #[yy, yy, yy, yy, yy, yy, yy, yy, yy, yy, yy, yy, yy, yy, nn, nn, nn]) rfl (by kernel_rfl) rfl rfl rfl hc60 rfl rfl (does_fn 0 rfl rfl rfl en23 h53 (fun U hU hp hr hs => M_label_Fold_w (s := i.Target) hp hy65)) ?_
            rintro _ w66 ⟨U69, hb70, rfl, h68⟩
            have h67 : Sat W w66 [blk b1 (bytesV (List.ofFn (n := 20) i.Publisher) ++ ([(v64 i.Seq), (v64 i.Born), (v32 i.Life), (.bool i.Gone), (v16 i.Priority), (v16 i.Weight), (v16 i.Port), (.string (str i.Target))] : List Value)) 31] := hb70 h68
            have hS71 : Cls (fun w' => View w' (some ⟨b1, 0, none⟩) (bytesV (List.ofFn (n := 20) i.Publisher) ++ ([(v64 i.Seq), (v64 i.Born), (v32 i.Life), (.bool i.Gone), (v16 i.Priority), (v16 i.Weight), (v16 i.Port), (.string (str i.Target))] : List Value))) [1, 4, 5, 9, 10, 12, 13, 14] [] #[yy, yy, yy, yy, yy, yy, yy, yy, yy, yy, yy, yy, yy, yy, nn, nn, nn] w66 := Cls.keep (h67.isBlk.view0) (by kernel_rfl)
            refine ⟨hS71, ?_⟩
            refine GH.on (i := 14) (listed' := #[yy, yy, yy, yy, yy, yy, yy, yy, yy, yy, yy, yy, yy, yy, yy, nn, nn]) rfl (by kernel_rfl) rfl rfl (NP.next NP.body) rfl rfl rfl rfl hc60 (fun w' hw' => yl_eqS rfl rfl) hS71 (fun hS72 => ?_)
            refine GH.yl (i := 15) (listed' := #[yy, yy, yy, yy, yy, yy, yy, yy, yy, yy, yy, yy, yy, yy, yy, yy, nn]) rfl (by kernel_rfl) rfl (NP.next NP.body) rfl rfl rfl (fun w' => yl_pick_t rfl hc60 rfl) hS72 (fun hS73 => ?_)
            refine GH.yl (i := 16) (listed' := #[yy, yy, yy, yy, yy, yy, yy, yy, yy, yy, yy, yy, yy, yy, yy, yy, yy]) rfl (by kernel_rfl) rfl (NP.next NP.body) rfl rfl rfl (fun w' => yl_assign rfl) hS73 (fun hS74 => ?_)
            refine GH.done (by kernel_rfl) ?_
            refine QA.then_normal ?_
            refine C.ret ?_
            refine QA.ret1 rfl rfl ?_
            obtain rfl := sp_ret1 hm
            exact ⟨rfl, (Sat.pick [] h67)⟩
          · refine GH.off (i := 9) (listed' := #[yy, yy, yy, yy, yy, yy, yy, yy, yy, yy, nn, nn, nn, nn, nn, nn, nn]) rfl (by kernel_rfl) rfl (NP.next NP.body) rfl rfl rfl rfl hc60 hS59 (fun hS75 => ?_)
            refine GH.off (i := 10) (listed' := #[yy, yy, yy, yy, yy, yy, yy, yy, yy, yy, yy, nn, nn, nn, nn, nn, nn]) rfl (by kernel_rfl) rfl (NP.next NP.body) rfl rfl rfl rfl hc60 hS75 (fun hS76 => ?_)
            refine GH.off (i := 11) (listed' := #[yy, yy, yy, yy, yy, yy, yy, yy, yy, yy, yy, yy, nn, nn, nn, nn, nn]) rfl (by kernel_rfl) rfl (NP.next NP.body) rfl rfl rfl rfl hc60 hS76 (fun hS77 => ?_)
            refine GH.off (i := 12) (listed' := #[yy, yy, yy, yy, yy, yy, yy, yy, yy, yy, yy, yy, yy, nn, nn, nn, nn]) rfl (by kernel_rfl) rfl (NP.next NP.body) rfl rfl rfl rfl hc60 hS77 (fun hS78 => ?_)
            refine GH.off (i := 13) (listed' := #[yy, yy, yy, yy, yy, yy, yy, yy, yy, yy, yy, yy, yy, yy, nn, nn, nn]) rfl (by kernel_rfl) rfl (NP.next NP.body) rfl rfl rfl rfl hc60 hS78 (fun hS79 => ?_)
            refine GH.off (i := 14) (listed' := #[yy, yy, yy, yy, yy, yy, yy, yy, yy, yy, yy, yy, yy, yy, yy, nn, nn]) rfl (by kernel_rfl) rfl (NP.next NP.body) rfl rfl rfl rfl hc60 hS79 (fun hS80 => ?_)
            refine GH.yl (i := 15) (listed' := #[yy, yy, yy, yy, yy, yy, yy, yy, yy, yy, yy, yy, yy, yy, yy, yy, nn]) rfl (by kernel_rfl) rfl (NP.next NP.body) rfl rfl rfl (fun w' => yl_pick_f rfl hc60 rfl) hS80 (fun hS81 => ?_)
            refine GH.yl (i := 16) (listed' := #[yy, yy, yy, yy, yy, yy, yy, yy, yy, yy, yy, yy, yy, yy, yy, yy, yy]) rfl (by kernel_rfl) rfl (NP.next NP.body) rfl rfl rfl (fun w' => yl_assign rfl) hS81 (fun hS82 => ?_)
            refine GH.done (by kernel_rfl) ?_
            refine QA.then_normal ?_
            refine C.ret ?_
            refine QA.ret1 rfl rfl ?_
            obtain rfl := sp_ret1 hm
            exact ⟨rfl, (Sat.pick [] h53)⟩
set_option maxRecDepth 20000 in
set_option maxHeartbeats 1000000 in
theorem M_bytes_Compare_vv_w {W : Base} {w : World} {a : Option Addr} {c : Nat} {a2 : List UInt8} {a3 : Option Addr} {c2 : Nat} {b : List UInt8} (hv_a2 : V W a (elU8.row a2)) (hq_a2 : a2.length ≤ c) (hv_b : V W a3 (elU8.row b)) (hq_b : b.length ≤ c2) (h : Sat W w [])  (hm : M_bytes_Compare_vv a2 b = some ()) :
    Calls Try.prog 34 #[(.slice a a2.length c), (.slice a3 b.length c2)] w (Ret fun v w' => v = (vI (Lib.compareBytes a2 b)) ∧ Sat W w' []) := by
  unfold M_bytes_Compare_vv at hm
  refine C.enter (N := 8) Try.func34 rfl Try.ntmps34 rfl ?_
  show C _ _ _ [(0, (.slice a a2.length c)), (1, (.slice a3 b.length c2))] _ _
  refine C.seq ?_
  refine C.region ?_
  refine G.yl (yl_assign rfl) rfl rfl rfl ?_
  refine G.nil ?_
  refine QA.then_normal ?_
  refine C.seq ?_
  refine C.region ?_
  refine G.yl (yl_move rfl) rfl rfl rfl ?_
  refine G.yl (yl_move rfl) rfl rfl rfl ?_
  refine G.yl (yl_cmpB (l := a2) (m := b) rfl rfl rfl Try.func55 ex55 rfl rfl (hv_a2.at_ h) (hv_b.at_ h)) rfl rfl rfl ?_
  refine G.yl (yl_assign rfl) rfl rfl rfl ?_
  refine G.nil ?_
  refine QA.then_normal ?_
  refine C.ret ?_
  refine QA.ret1 rfl rfl ?_
  exact ⟨rfl, (Sat.pick [] h)⟩
set_option maxRecDepth 20000 in
set_option maxHeartbeats 1000000 in
theorem M_roster_order_w {W : Base} {w : World} {i : G_api_Instance} {publisher : Fin 20 → UInt8}  (h : Sat W w [])  (hm : M_roster_order i publisher = some ()) :
    Calls Try.prog 25 #[(.agg (bytesV (List.ofFn (n := 20) i.Publisher) ++ ([(v64 i.Seq), (v64 i.Born), (v32 i.Life), (.bool i.Gone), (v16 i.Priority), (v16 i.Weight), (v16 i.Port), (.string (str i.Target))] : List Value)).toArray), (.agg (bytesV (List.ofFn (n := 20) publisher)).toArray)] w (Ret fun v w' => v = (vI (Lib.compareBytes (List.ofFn i.Publisher) (List.ofFn publisher))) ∧ Sat W w' []) := by
  unfold M_roster_order at hm
  refine C.enter (N := 9) Try.func25 rfl Try.ntmps25 rfl ?_
  show C _ _ _ [(0, (.agg (bytesV (List.ofFn (n := 20) i.Publisher) ++ ([(v64 i.Seq), (v64 i.Born), (v32 i.Life), (.bool i.Gone), (v16 i.Priority), (v16 i.Weight), (v16 i.Port), (.string (str i.Target))] : List Value)).toArray)), (1, (.agg (bytesV (List.ofFn (n := 20) publisher)).toArray))] _ _
  refine C.seq ?_
  refine C.region ?_
  refine G.does (does_box (cs := (bytesV (List.ofFn (n := 20) i.Publisher) ++ ([(v64 i.Seq), (v64 i.Born), (v32 i.Life), (.bool i.Gone), (v16 i.Priority), (v16 i.Weight), (v16 i.Port), (.string (str i.Target))] : List Value))) h rfl rfl) rfl rfl rfl ?_
  rintro _ w2 ⟨b1, rfl, h3⟩
  refine G.does (does_box (cs := (bytesV (List.ofFn (n := 20) publisher))) h3 rfl rfl) rfl rfl rfl ?_
  rintro _ w5 ⟨b4, rfl, h6⟩
  refine G.yl (yl_assign rfl) rfl rfl rfl ?_
  refine G.nil ?_
  refine QA.then_normal ?_
  refine C.seq ?_
  refine C.draw (V := fun w' => True) (nd := []) (sp := []) (n := 5) rfl h6 rfl rfl ?_
  intro w7 h8
  have hS9 : Cls (fun w' => True) [] [] #[false, false, false, false, false] w7 := Cls.keep (trivial) (by kernel_rfl)
  refine GH.yl (i := 0) (listed' := #[true, false, false, false, false]) rfl (by kernel_rfl) rfl (NP.next NP.body) rfl rfl rfl (fun w' => yl_fieldAddr fo31_0 rfl) hS9 (fun hS10 => ?_)
  refine GH.yl (i := 1) (listed' := #[true, true, false, false, false]) rfl (by kernel_rfl) rfl (NP.next NP.body) rfl rfl rfl (fun w' => yl_slice_arr (n := 20) (l := 0) (h := 20) (s := 1) (v := (.slice (some ⟨b1, 0, none⟩) 20 20)) Try.underlying26 (by kernel_rfl) (by kernel_rfl) rfl rfl rfl (by decide) (by decide) rfl) hS10 (fun hS11 => ?_)
  refine GH.yl (i := 2) (listed' := #[true, true, true, false, false]) rfl (by kernel_rfl) rfl (NP.next NP.body) rfl rfl rfl (fun w' => yl_slice_arr (n := 20) (l := 0) (h := 20) (s := 1) (v := (.slice (some ⟨b4, 0, none⟩) 20 20)) Try.underlying26 (by kernel_rfl) (by kernel_rfl) rfl rfl rfl (by decide) (by decide) rfl) hS11 (fun hS12 => ?_)
  obtain ⟨_, hy13, hm⟩ := sp_bind hm
  refine GH.does (i := 3) (listed' := #[true, true, true, true, false]) rfl (by kernel_rfl) rfl rfl rfl rfl (does_fn 0 rfl rfl rfl en34 h8 (fun U hU hp hr hs => M_bytes_Compare_vv_w (a2 := List.ofFn i.Publisher) (b := List.ofFn publisher) (V.of_bytes (V.span_head (Rest.blk (Rest.front 1 hr) 0))) (by simp) (V.of_bytes ((Rest.blk hr 0))) (by simp) hp hy13)) ?_
  rintro _ w14 ⟨U17, hb18, rfl, h16⟩
  have h15 : Sat W w14 [blk b4 (bytesV (List.ofFn (n := 20) publisher)) 26, blk b1 (bytesV (List.ofFn (n := 20) i.Publisher) ++ ([(v64 i.Seq), (v64 i.Born), (v32 i.Life), (.bool i.Gone), (v16 i.Priority), (v16 i.Weight), (v16 i.Port), (.string (str i.Target))] : List Value)) 31] := hb18 h16
  have hS19 : Cls (fun w' => True) [] [] #[true, true, true, true, false] w14 := Cls.keep (trivial) (by kernel_rfl)
  refine ⟨hS19, ?_⟩
  refine GH.yl (i := 4) (listed' := #[true, true, true, true, true]) rfl (by kernel_rfl) rfl (NP.next NP.body) rfl rfl rfl (fun w' => yl_assign rfl) hS19 (fun hS20 => ?_)
  refine GH.done (by kernel_rfl) ?_
  refine QA.then_normal ?_
  refine C.ret ?_
  refine QA.ret1 rfl rfl ?_
  exact ⟨rfl, (Sat.pick [] h15)⟩
set_option maxRecDepth 20000 in
set_option maxHeartbeats 1000000 in
theorem M_roster_Good_v_w {W : Base} {w : World} {a : Option Addr} {c : Nat} {l : List G_api_Instance} (hv_l : V W a (el_G_api_Instance.row l)) (hq_l : l.length ≤ c) (h : Sat W w []) {r1 : Bool} (hm : M_roster_Good_v l = some r1) :
    Calls Try.prog 10 #[(.slice a l.length c)] w (Ret fun v w' => v = (.bool r1) ∧ Sat W w' []) := by
  unfold M_roster_Good_v at hm
  refine C.enter (N := 34) Try.func10 rfl Try.ntmps10 rfl ?_
  show C _ _ _ [(0, (.slice a l.length c))] _ _
  refine C.seq ?_
  refine C.region ?_
  refine G.yl (yl_assign rfl) rfl rfl rfl ?_
  refine G.nil ?_
  refine QA.then_normal ?_
  refine C.seq ?_
  refine C.seq ?_
  refine C.region ?_
  refine G.yl (yl_move rfl) rfl rfl rfl ?_
  refine G.yl (yl_lenE Try.underlying22 rfl) rfl rfl rfl ?_
  refine G.yl (yl_move rfl) rfl rfl rfl ?_
  refine G.nil ?_
  refine QA.then_normal ?_
  refine C.block ?_
  obtain ⟨o, ho1, hm2⟩ := sp_bind hm
  refine C.left (γ := Unit) (.exit 0) (fun g => match g with | () => [(0, (.slice a l.length c)), (2, (.bool false))]) (fun g ww => match g with | () => .inl () = o ∧ Sat W ww []) ?_ ?_
  · refine C.loopO (γ := Int) (fun g => match g with | t7 => [(0, (.slice a l.length c)), (2, (.bool false)), (5, (.slice a l.length c)), (6, (vI (l.length : Int))), (7, (vI t7))]) (fun g ww => match g with | t7 => Sat W ww []) (fun g => match g with | t7 => t7) 0 ho1 (Sub.of ⟨rfl, rfl, rfl, rfl, rfl, trivial⟩) (Sat.pick [] h) ?_
    rintro t7 k5 w3 y_ h4 hm hg6
    show C _ _ _ [(0, (.slice a l.length c)), (2, (.bool false)), (5, (.slice a l.length c)), (6, (vI (l.length : Int))), (7, (vI t7))] _ _
    change M_roster_Good_v_b1 l t7 = some y_ at hm
    unfold M_roster_Good_v_b1 at hm
    refine C.seq ?_
    refine C.region ?_
    refine G.yl (yl_ltI rfl rfl) rfl rfl rfl ?_
    refine G.nil ?_
    refine QA.then_normal ?_
    refine C.seq ?_
    rcases sp_ite hm with ⟨hc7, hm⟩ | ⟨hc7, hm⟩
    · refine C.cond_t rfl (dec_t hc7) ?_
      refine C.skip ?_
      refine QA.then_normal ?_
      refine C.seq ?_
      refine C.block ?_
      refine C.seq ?_
      refine C.region ?_
      refine G.yl (yl_move rfl) rfl rfl rfl ?_
      obtain ⟨x, hy8, hm⟩ := sp_bind hm
      refine G.yl (yl_ixP (l := l) sl22 rfl rfl (View.isA (E := el_G_api_Instance) (hv_l.at_ h4) (by decide) (at?_lt hy8)) rfl (at?_lt hy8)) rfl rfl rfl ?_
      refine G.yl (yl_ldE (E := el_G_api_Instance) ag31 sz31 rfl (hv_l.at_ h4) (at?_some hy8).2) rfl rfl rfl ?_
      refine G.does (does_alloc (cs := (bytesV (List.ofFn (n := 20) (fun _ => 0)) ++ ([(.int .u64 0), (.int .u64 0), (.int .u32 0), (.bool false), (.int .u16 0), (.int .u16 0), (.int .u16 0), (.string (str ([] : List UInt8)))] : List Value))) h4 z31 rfl) rfl rfl rfl ?_
      rintro _ w10 ⟨b9, rfl, h11⟩
      refine G.yl (yl_assign rfl) rfl rfl rfl ?_
      refine G.unit (does_store (vs := (bytesV (List.ofFn (n := 20) x.Publisher) ++ ([(v64 x.Seq), (v64 x.Born), (v32 x.Life), (.bool x.Gone), (v16 x.Priority), (v16 x.Weight), (v16 x.Port), (.string (str x.Target))] : List Value))) h11 sz31 rfl rfl rfl (by simp [bytesV_length]) (List.forall_mem_append.2 ⟨(bytesV_one _), (List.forall_mem_cons.2 ⟨rfl, (List.forall_mem_cons.2 ⟨rfl, (List.forall_mem_cons.2 ⟨rfl, (List.forall_mem_cons.2 ⟨rfl, (List.forall_mem_cons.2 ⟨rfl, (List.forall_mem_cons.2 ⟨rfl, (List.forall_mem_cons.2 ⟨rfl, (List.forall_mem_cons.2 ⟨rfl, (fun _ hh => by cases hh)⟩)⟩)⟩)⟩)⟩)⟩)⟩)⟩)⟩) (by simp [bytesV_length])) rfl rfl ?_
      rintro _ w12 h14
      have h13 : Sat W w12 [blk b9 (bytesV (List.ofFn (n := 20) x.Publisher) ++ ([(v64 x.Seq), (v64 x.Born), (v32 x.Life), (.bool x.Gone), (v16 x.Priority), (v16 x.Weight), (v16 x.Port), (.string (str x.Target))] : List Value)) 31] := sl_blk (setN_all _ _ (by simp [bytesV_length])) h14
      refine G.nil ?_
      refine QA.then_normal ?_
      refine C.seq ?_
      refine C.draw (V := fun w' => View w' (some ⟨b9, 0, none⟩) (bytesV (List.ofFn (n := 20) x.Publisher) ++ ([(v64 x.Seq), (v64 x.Born), (v32 x.Life), (.bool x.Gone), (v16 x.Priority), (v16 x.Weight), (v16 x.Port), (.string (str x.Target))] : List Value)) ∧ View w' a (el_G_api_Instance.row l)) (nd := [0, 4, 5, 6, 7, 8, 9, 10, 11, 12, 13, 15, 16]) (sp := []) (n := 18) rfl h13 rfl rfl ?_
      intro w15 h16
      have hS17 : Cls (fun w' => View w' (some ⟨b9, 0, none⟩) (bytesV (List.ofFn (n := 20) x.Publisher) ++ ([(v64 x.Seq), (v64 x.Born), (v32 x.Life), (.bool x.Gone), (v16 x.Priority), (v16 x.Weight), (v16 x.Port), (.string (str x.Target))] : List Value)) ∧ View w' a (el_G_api_Instance.row l)) [0, 4, 5, 6, 7, 8, 9, 10, 11, 12, 13, 15, 16] [] #[nn, nn, nn, nn, nn, nn, nn, nn, nn, nn, nn, nn, nn, nn, nn, nn, nn, nn] w15 := Cls.keep (⟨h16.isBlk.view0, (hv_l.at_ h16)⟩) (by kernel_rfl)
      refine GH.yr (i := 0) (listed' := #[yy, nn, nn, nn, nn, nn, nn, nn, nn, nn, nn, nn, nn, nn, nn, nn, nn, nn]) rfl (by kernel_rfl) rfl rfl (NP.next (NP.block (NP.next (NP.next (NP.left (by simp) (NP.block (NP.next NP.body))))))) rfl rfl rfl (fun w' hw' => yl_loadN (vs := (bytesV (List.ofFn (n := 20) x.Publisher) ++ ([(v64 x.Seq), (v64 x.Born), (v32 x.Life), (.bool x.Gone), (v16 x.Priority), (v16 x.Weight), (v16 x.Port), (.string (str x.Target))] : List Value))) ag31 sz31 (by simp [bytesV_length]) rfl (hw'.1)) hS17 (fun hS18 => ?_)
      obtain ⟨r1_2, hy19, hm⟩ := sp_bind hm
      refine GH.does (i := 1) (listed' := #[yy, yy, nn, nn, nn, nn, nn, nn, nn, nn, nn, nn, nn, nn, nn, nn, nn, nn]) rfl (by kernel_rfl) rfl rfl rfl rfl (does_fn 0 rfl rfl rfl en8 h16 (fun U hU hp hr hs => M_inst_Good_w (i := x) hp hy19)) ?_
      rintro _ w20 ⟨U23, hb24, rfl, h22⟩
      have h21 : Sat W w20 [blk b9 (bytesV (List.ofFn (n := 20) x.Publisher) ++ ([(v64 x.Seq), (v64 x.Born), (v32 x.Life), (.bool x.Gone), (v16 x.Priority), (v16 x.Weight), (v16 x.Port), (.string (str x.Target))] : List Value)) 31] := hb24 h22
      have hS25 : Cls (fun w' => View w' (some ⟨b9, 0, none⟩) (bytesV (List.ofFn (n := 20) x.Publisher) ++ ([(v64 x.Seq), (v64 x.Born), (v32 x.Life), (.bool x.Gone), (v16 x.Priority), (v16 x.Weight), (v16 x.Port), (.string (str x.Target))] : List Value)) ∧ View w' a (el_G_api_Instance.row l)) [0, 4, 5, 6, 7, 8, 9, 10, 11, 12, 13, 15, 16] [] #[yy, yy, nn, nn, nn, nn, nn, nn, nn, nn, nn, nn, nn, nn, nn, nn, nn, nn] w20 := Cls.keep (⟨h21.isBlk.view0, (hv_l.at_ h21)⟩) (by kernel_rfl)
      refine ⟨hS25, ?_⟩
      refine GH.yl (i := 2) (listed' := #[yy, yy, yy, nn, nn, nn, nn, nn, nn, nn, nn, nn, nn, nn, nn, nn, nn, nn]) rfl (by kernel_rfl) rfl (NP.next (NP.block (NP.next (NP.next (NP.left (by simp) (NP.block (NP.next NP.body))))))) rfl rfl rfl (fun w' => yl_not rfl) hS25 (fun hS26 => ?_)
      refine GH.yl (i := 3) (listed' := #[yy, yy, yy, yy, nn, nn, nn, nn, nn, nn, nn, nn, nn, nn, nn, nn, nn, nn]) rfl (by kernel_rfl) rfl (NP.next (NP.block (NP.next (NP.next (NP.left (by simp) (NP.block (NP.next NP.body))))))) rfl rfl rfl (fun w' => yl_move rfl) hS26 (fun hS27 => ?_)
      rcases sp_b hm with ⟨hc28, hm⟩ | ⟨hc28, hm⟩
      · refine GH.on (i := 4) (listed' := #[yy, yy, yy, yy, yy, nn, nn, nn, nn, nn, nn, nn, nn, nn, nn, nn, nn, nn]) rfl (by kernel_rfl) rfl rfl (NP.next (NP.block (NP.next (NP.next (NP.left (by simp) (NP.block (NP.next NP.body))))))) rfl rfl rfl rfl (not_f hc28) (fun w' hw' => yl_move rfl) hS27 (fun hS29 => ?_)
        refine GH.on (i := 5) (listed' := #[yy, yy, yy, yy, yy, yy, nn, nn, nn, nn, nn, nn, nn, nn, nn, nn, nn, nn]) rfl (by kernel_rfl) rfl rfl (NP.next (NP.block (NP.next (NP.next (NP.left (by simp) (NP.block (NP.next NP.body))))))) rfl rfl rfl rfl (not_f hc28) (fun w' hw' => yl_gtI rfl rfl) hS29 (fun hS30 => ?_)
        refine GH.on (i := 6) (listed' := #[yy, yy, yy, yy, yy, yy, yy, nn, nn, nn, nn, nn, nn, nn, nn, nn, nn, nn]) rfl (by kernel_rfl) rfl rfl (NP.next (NP.block (NP.next (NP.next (NP.left (by simp) (NP.block (NP.next NP.body))))))) rfl rfl rfl rfl (not_f hc28) (fun w' hw' => yl_move rfl) hS30 (fun hS31 => ?_)
        rcases sp_ite hm with ⟨hc32, hm⟩ | ⟨hc32, hm⟩
        · refine GH.on (i := 7) (listed' := #[yy, yy, yy, yy, yy, yy, yy, yy, nn, nn, nn, nn, nn, nn, nn, nn, nn, nn]) rfl (by kernel_rfl) rfl rfl (NP.next (NP.block (NP.next (NP.next (NP.left (by simp) (NP.block (NP.next NP.body))))))) rfl rfl rfl rfl (dec_t hc32) (fun w' hw' => yl_move rfl) hS31 (fun hS33 => ?_)
          refine GH.on (i := 8) (listed' := #[yy, yy, yy, yy, yy, yy, yy, yy, yy, nn, nn, nn, nn, nn, nn, nn, nn, nn]) rfl (by kernel_rfl) rfl rfl (NP.next (NP.block (NP.next (NP.next (NP.left (by simp) (NP.block (NP.next NP.body))))))) rfl rfl rfl rfl (dec_t hc32) (fun w' hw' => yl_move rfl) hS33 (fun hS34 => ?_)
          obtain ⟨hc35, hm⟩ := sp_chk hm
          refine GH.on (i := 9) (listed' := #[yy, yy, yy, yy, yy, yy, yy, yy, yy, yy, nn, nn, nn, nn, nn, nn, nn, nn]) rfl (by kernel_rfl) rfl rfl (NP.next (NP.block (NP.next (NP.next (NP.left (by simp) (NP.block (NP.next NP.body))))))) rfl rfl rfl rfl (dec_t hc32) (fun w' hw' => yl_subI rfl rfl hc35) hS34 (fun hS36 => ?_)
          obtain ⟨x_2, hy37, hm⟩ := sp_bind hm
          refine GH.on (i := 10) (listed' := #[yy, yy, yy, yy, yy, yy, yy, yy, yy, yy, yy, nn, nn, nn, nn, nn, nn, nn]) rfl (by kernel_rfl) rfl rfl (NP.next (NP.block (NP.next (NP.next (NP.left (by simp) (NP.block (NP.next NP.body))))))) rfl rfl rfl rfl (dec_t hc32) (fun w' hw' => yl_ixP (l := l) sl22 rfl rfl (View.isA (E := el_G_api_Instance) (hv_l.at_ h21) (by decide) (at?_lt hy37)) rfl (at?_lt hy37)) hS36 (fun hS38 => ?_)
          refine GH.on (i := 11) (listed' := #[yy, yy, yy, yy, yy, yy, yy, yy, yy, yy, yy, yy, nn, nn, nn, nn, nn, nn]) rfl (by kernel_rfl) rfl rfl (NP.next (NP.block (NP.next (NP.next (NP.left (by simp) (NP.block (NP.next NP.body))))))) rfl rfl rfl rfl (dec_t hc32) (fun w' hw' => yl_ldE (E := el_G_api_Instance) ag31 sz31 rfl (hw'.2) (at?_some hy37).2) hS38 (fun hS39 => ?_)
          refine GH.on (i := 12) (listed' := #[yy, yy, yy, yy, yy, yy, yy, yy, yy, yy, yy, yy, yy, nn, nn, nn, nn, nn]) rfl (by kernel_rfl) rfl rfl (NP.next (NP.block (NP.next (NP.next (NP.left (by simp) (NP.block (NP.next NP.body))))))) rfl rfl rfl rfl (dec_t hc32) (fun w' hw' => yl_fieldAddr fo31_0 rfl) hS39 (fun hS40 => ?_)
          refine GH.on (i := 13) (listed' := #[yy, yy, yy, yy, yy, yy, yy, yy, yy, yy, yy, yy, yy, yy, nn, nn, nn, nn]) rfl (by kernel_rfl) rfl rfl (NP.next (NP.block (NP.next (NP.next (NP.left (by simp) (NP.block (NP.next NP.body))))))) rfl rfl rfl rfl (dec_t hc32) (fun w' hw' => yl_loadN (vs := (bytesV (List.ofFn (n := 20) x.Publisher))) ag26 sz26 (by simp [bytesV_length]) rfl (View.span_head hw'.1)) hS40 (fun hS41 => ?_)
          obtain ⟨_, hy42, hm⟩ := sp_bind hm
          refine GH.doesOn (i := 14) (listed' := #[yy, yy, yy, yy, yy, yy, yy, yy, yy, yy, yy, yy, yy, yy, yy, nn, nn, nn]) rfl (by kernel_rfl) rfl rfl rfl (dec_t hc32) rfl rfl (does_fn 0 rfl rfl rfl en25 h21 (fun U hU hp hr hs => M_roster_order_w (i := x_2) (publisher := x.Publisher) hp hy42)) ?_
          rintro _ w43 ⟨U46, hb47, rfl, h45⟩
          have h44 : Sat W w43 [blk b9 (bytesV (List.ofFn (n := 20) x.Publisher) ++ ([(v64 x.Seq), (v64 x.Born), (v32 x.Life), (.bool x.Gone), (v16 x.Priority), (v16 x.Weight), (v16 x.Port), (.string (str x.Target))] : List Value)) 31] := hb47 h45
          have hS48 : Cls (fun w' => View w' (some ⟨b9, 0, none⟩) (bytesV (List.ofFn (n := 20) x.Publisher) ++ ([(v64 x.Seq), (v64 x.Born), (v32 x.Life), (.bool x.Gone), (v16 x.Priority), (v16 x.Weight), (v16 x.Port), (.string (str x.Target))] : List Value)) ∧ View w' a (el_G_api_Instance.row l)) [0, 4, 5, 6, 7, 8, 9, 10, 11, 12, 13, 15, 16] [] #[yy, yy, yy, yy, yy, yy, yy, yy, yy, yy, yy, yy, yy, yy, yy, nn, nn, nn] w43 := Cls.keep (⟨h44.isBlk.view0, (hv_l.at_ h44)⟩) (by kernel_rfl)
          refine ⟨hS48, ?_⟩
          refine GH.on (i := 15) (listed' := #[yy, yy, yy, yy, yy, yy, yy, yy, yy, yy, yy, yy, yy, yy, yy, yy, nn, nn]) rfl (by kernel_rfl) rfl rfl (NP.next (NP.block (NP.next (NP.next (NP.left (by simp) (NP.block (NP.next NP.body))))))) rfl rfl rfl rfl (dec_t hc32) (fun w' hw' => yl_geI rfl rfl) hS48 (fun hS49 => ?_)
          refine GH.on (i := 16) (listed' := #[yy, yy, yy, yy, yy, yy, yy, yy, yy, yy, yy, yy, yy, yy, yy, yy, yy, nn]) rfl (by kernel_rfl) rfl rfl (NP.next (NP.block (NP.next (NP.next (NP.left (by simp) (NP.block (NP.next NP.body))))))) rfl rfl rfl rfl (not_f hc28) (fun w' hw' => yl_pick_t rfl (dec_t hc32) rfl) hS49 (fun hS50 => ?_)
          refine GH.yl (i := 17) (listed' := #[yy, yy, yy, yy, yy, yy, yy, yy, yy, yy, yy, yy, yy, yy, yy, yy, yy, yy]) rfl (by kernel_rfl) rfl (NP.next (NP.block (NP.next (NP.next (NP.left (by simp) (NP.block (NP.next NP.body))))))) rfl rfl rfl (fun w' => yl_pick_f rfl (not_f hc28) rfl) hS50 (fun hS51 => ?_)
          refine GH.done (by kernel_rfl) ?_
          refine QA.then_normal ?_
          rcases sp_ite hm with ⟨hc52, hm⟩ | ⟨hc52, hm⟩
          · refine C.cond_t rfl (dec_t hc52) ?_
            refine C.seq ?_
            refine C.region ?_
            refine G.yl (yl_assign rfl) rfl rfl rfl ?_
            refine G.nil ?_
            refine QA.then_normal ?_
            refine C.ret ?_
            refine QA.block_ret ?_
            refine QA.then_ret ?_
            refine QA.then_ret ?_
            refine QA.past (by simp) ?_
            refine QA.block_ret ?_
            refine QA.then_ret ?_
            refine QA.ret1 rfl rfl ?_
            obtain rfl := sp_ret1 hm
            obtain rfl : .inr false = o := hg6
            have hm : some false = some r1 := hm2
            obtain rfl := sp_ret1 hm
            exact ⟨rfl, (Sat.pick [] h44)⟩
          · refine C.cond_f rfl (dec_f hc52) ?_
            refine C.skip ?_
            refine QA.block_normal ?_
            refine QA.then_normal ?_
            refine C.region ?_
            obtain ⟨hc53, hm⟩ := sp_chk hm
            refine G.yl (yl_addI rfl rfl hc53) rfl rfl rfl ?_
            refine G.yl (yl_move rfl) rfl rfl rfl ?_
            refine G.nil ?_
            obtain rfl := sp_ret1 hm
            exact QA.againO (t7 + 1) hg6 (Sub.of ⟨rfl, rfl, rfl, rfl, rfl, trivial⟩) (Sat.pick [] h44)
        · refine GH.off (i := 7) (listed' := #[yy, yy, yy, yy, yy, yy, yy, yy, nn, nn, nn, nn, nn, nn, nn, nn, nn, nn]) rfl (by kernel_rfl) rfl (NP.next (NP.block (NP.next (NP.next (NP.left (by simp) (NP.block (NP.next NP.body))))))) rfl rfl rfl rfl (dec_f hc32) hS31 (fun hS54 => ?_)
          refine GH.off (i := 8) (listed' := #[yy, yy, yy, yy, yy, yy, yy, yy, yy, nn, nn, nn, nn, nn, nn, nn, nn, nn]) rfl (by kernel_rfl) rfl (NP.next (NP.block (NP.next (NP.next (NP.left (by simp) (NP.block (NP.next NP.body))))))) rfl rfl rfl rfl (dec_f hc32) hS54 (fun hS55 => ?_)
          refine GH.off (i := 9) (listed' := #[yy, yy, yy, yy, yy, yy, yy, yy, yy, yy, nn, nn, nn, nn, nn, nn, nn, nn]) rfl (by kernel_rfl) rfl (NP.next (NP.block (NP.next (NP.next (NP.left (by simp) (NP.block (NP.next NP.body))))))) rfl rfl rfl rfl (dec_f hc32) hS55 (fun hS56 => ?_)
          refine GH.off (i := 10) (listed' := #[yy, yy, yy, yy, yy, yy, yy, yy, yy, yy, yy, nn, nn, nn, nn, nn, nn, nn]) rfl (by kernel_rfl) rfl (NP.next (NP.block (NP.next (NP.next (NP.left (by simp) (NP.block (NP.next NP.body))))))) rfl rfl rfl rfl (dec_f hc32) hS56 (fun hS57 => ?_)
          refine GH.off (i := 11) (listed' := #[yy, yy, yy, yy, yy, yy, yy, yy, yy, yy, yy, yy, nn, nn, nn, nn, nn, nn]) rfl (by kernel_rfl) rfl (NP.next (NP.block (NP.next (NP.next (NP.left (by simp) (NP.block (NP.next NP.body))))))) rfl rfl rfl rfl (dec_f hc32) hS57 (fun hS58 => ?_)
          refine GH.off (i := 12) (listed' := #[yy, yy, yy, yy, yy, yy, yy, yy, yy, yy, yy, yy, yy, nn, nn, nn, nn, nn]) rfl (by kernel_rfl) rfl (NP.next (NP.block (NP.next (NP.next (NP.left (by simp) (NP.block (NP.next NP.body))))))) rfl rfl rfl rfl (dec_f hc32) hS58 (fun hS59 => ?_)
          refine GH.off (i := 13) (listed' := #[yy, yy, yy, yy, yy, yy, yy, yy, yy, yy, yy, yy, yy, yy, nn, nn, nn, nn]) rfl (by kernel_rfl) rfl (NP.next (NP.block (NP.next (NP.next (NP.left (by simp) (NP.block (NP.next NP.body))))))) rfl rfl rfl rfl (dec_f hc32) hS59 (fun hS60 => ?_)
          refine GH.off (i := 14) (listed' := #[yy, yy, yy, yy, yy, yy, yy, yy, yy, yy, yy, yy, yy, yy, yy, nn, nn, nn]) rfl (by kernel_rfl) rfl (NP.next (NP.block (NP.next (NP.next (NP.left (by simp) (NP.block (NP.next NP.body))))))) rfl rfl rfl rfl (dec_f hc32) hS60 (fun hS61 => ?_)
          refine GH.off (i := 15) (listed' := #[yy, yy, yy, yy, yy, yy, yy, yy, yy, yy, yy, yy, yy, yy, yy, yy, nn, nn]) rfl (by kernel_rfl) rfl (NP.next (NP.block (NP.next (NP.next (NP.left (by simp) (NP.block (NP.next NP.body))))))) rfl rfl rfl rfl (dec_f hc32) hS61 (fun hS62 => ?_)
          refine GH.on (i := 16) (listed' := #[yy, yy, yy, yy, yy, yy, yy, yy, yy, yy, yy, yy, yy, yy, yy, yy, yy, nn]) rfl (by kernel_rfl) rfl rfl (NP.next (NP.block (NP.next (NP.next (NP.left (by simp) (NP.block (NP.next NP.body))))))) rfl rfl rfl rfl (not_f hc28) (fun w' hw' => yl_pick_f rfl (dec_f hc32) rfl) hS62 (fun hS63 => ?_)
          refine GH.yl (i := 17) (listed' := #[yy, yy, yy, yy, yy, yy, yy, yy, yy, yy, yy, yy, yy, yy, yy, yy, yy, yy]) rfl (by kernel_rfl) rfl (NP.next (NP.block (NP.next (NP.next (NP.left (by simp) (NP.block (NP.next NP.body))))))) rfl rfl rfl (fun w' => yl_pick_f rfl (not_f hc28) rfl) hS63 (fun hS64 => ?_)
          refine GH.done (by kernel_rfl) ?_
          refine QA.then_normal ?_
          refine C.cond_f rfl rfl ?_
          refine C.skip ?_
          refine QA.block_normal ?_
          refine QA.then_normal ?_
          refine C.region ?_
          obtain ⟨hc65, hm⟩ := sp_chk hm
          refine G.yl (yl_addI rfl rfl hc65) rfl rfl rfl ?_
          refine G.yl (yl_move rfl) rfl rfl rfl ?_
          refine G.nil ?_
          obtain rfl := sp_ret1 hm
          exact QA.againO (t7 + 1) hg6 (Sub.of ⟨rfl, rfl, rfl, rfl, rfl, trivial⟩) (Sat.pick [] h21)
      · refine GH.off (i := 4) (listed' := #[yy, yy, yy, yy, yy, nn, nn, nn, nn, nn, nn, nn, nn, nn, nn, nn, nn, nn]) rfl (by kernel_rfl) rfl (NP.next (NP.block (NP.next (NP.next (NP.left (by simp) (NP.block (NP.next NP.body))))))) rfl rfl rfl rfl (not_t hc28) hS27 (fun hS66 => ?_)
        refine GH.off (i := 5) (listed' := #[yy, yy, yy, yy, yy, yy, nn, nn, nn, nn, nn, nn, nn, nn, nn, nn, nn, nn]) rfl (by kernel_rfl) rfl (NP.next (NP.block (NP.next (NP.next (NP.left (by simp) (NP.block (NP.next NP.body))))))) rfl rfl rfl rfl (not_t hc28) hS66 (fun hS67 => ?_)
        refine GH.off (i := 6) (listed' := #[yy, yy, yy, yy, yy, yy, yy, nn, nn, nn, nn, nn, nn, nn, nn, nn, nn, nn]) rfl (by kernel_rfl) rfl (NP.next (NP.block (NP.next (NP.next (NP.left (by simp) (NP.block (NP.next NP.body))))))) rfl rfl rfl rfl (not_t hc28) hS67 (fun hS68 => ?_)
        refine GH.offU (i := 7) (listed' := #[yy, yy, yy, yy, yy, yy, yy, yy, nn, nn, nn, nn, nn, nn, nn, nn, nn, nn]) rfl (by kernel_rfl) rfl (NP.next (NP.block (NP.next (NP.next (NP.left (by simp) (NP.block (NP.next NP.body))))))) rfl rfl rfl rfl hS68 (fun hS69 => ?_)
        refine GH.offU (i := 8) (listed' := #[yy, yy, yy, yy, yy, yy, yy, yy, yy, nn, nn, nn, nn, nn, nn, nn, nn, nn]) rfl (by kernel_rfl) rfl (NP.next (NP.block (NP.next (NP.next (NP.left (by simp) (NP.block (NP.next NP.body))))))) rfl rfl rfl rfl hS69 (fun hS70 => ?_)
        refine GH.offU (i := 9) (listed' := #[yy, yy, yy, yy, yy, yy, yy, yy, yy, yy, nn, nn, nn, nn, nn, nn, nn, nn]) rfl (by kernel_rfl) rfl (NP.next (NP.block (NP.next (NP.next (NP.left (by simp) (NP.block (NP.next NP.body))))))) rfl rfl rfl rfl hS70 (fun hS71 => ?_)
        refine GH.offU (i := 10) (listed' := #[yy, yy, yy, yy, yy, yy, yy, yy, yy, yy, yy, nn, nn, nn, nn, nn, nn, nn]) rfl (by kernel_rfl) rfl (NP.next (NP.block (NP.next (NP.next (NP.left (by simp) (NP.block (NP.next NP.body))))))) rfl rfl rfl rfl hS71 (fun hS72 => ?_)
        refine GH.offU (i := 11) (listed' := #[yy, yy, yy, yy, yy, yy, yy, yy, yy, yy, yy, yy, nn, nn, nn, nn, nn, nn]) rfl (by kernel_rfl) rfl (NP.next (NP.block (NP.next (NP.next (NP.left (by simp) (NP.block (NP.next NP.body))))))) rfl rfl rfl rfl hS72 (fun hS73 => ?_)
        refine GH.offU (i := 12) (listed' := #[yy, yy, yy, yy, yy, yy, yy, yy, yy, yy, yy, yy, yy, nn, nn, nn, nn, nn]) rfl (by kernel_rfl) rfl (NP.next (NP.block (NP.next (NP.next (NP.left (by simp) (NP.block (NP.next NP.body))))))) rfl rfl rfl rfl hS73 (fun hS74 => ?_)
        refine GH.offU (i := 13) (listed' := #[yy, yy, yy, yy, yy, yy, yy, yy, yy, yy, yy, yy, yy, yy, nn, nn, nn, nn]) rfl (by kernel_rfl) rfl (NP.next (NP.block (NP.next (NP.next (NP.left (by simp) (NP.block (NP.next NP.body))))))) rfl rfl rfl rfl hS74 (fun hS75 => ?_)
        refine GH.offU (i := 14) (listed' := #[yy, yy, yy, yy, yy, yy, yy, yy, yy, yy, yy, yy, yy, yy, yy, nn, nn, nn]) rfl (by kernel_rfl) rfl (NP.next (NP.block (NP.next (NP.next (NP.left (by simp) (NP.block (NP.next NP.body))))))) rfl rfl rfl rfl hS75 (fun hS76 => ?_)
        refine GH.offU (i := 15) (listed' := #[yy, yy, yy, yy, yy, yy, yy, yy, yy, yy, yy, yy, yy, yy, yy, yy, nn, nn]) rfl (by kernel_rfl) rfl (NP.next (NP.block (NP.next (NP.next (NP.left (by simp) (NP.block (NP.next NP.body))))))) rfl rfl rfl rfl hS76 (fun hS77 => ?_)
        refine GH.off (i := 16) (listed' := #[yy, yy, yy, yy, yy, yy, yy, yy, yy, yy, yy, yy, yy, yy, yy, yy, yy, nn]) rfl (by kernel_rfl) rfl (NP.next (NP.block (NP.next (NP.next (NP.left (by simp) (NP.block (NP.next NP.body))))))) rfl rfl rfl rfl (not_t hc28) hS77 (fun hS78 => ?_)
        refine GH.yl (i := 17) (listed' := #[yy, yy, yy, yy, yy, yy, yy, yy, yy, yy, yy, yy, yy, yy, yy, yy, yy, yy]) rfl (by kernel_rfl) rfl (NP.next (NP.block (NP.next (NP.next (NP.left (by simp) (NP.block (NP.next NP.body))))))) rfl rfl rfl (fun w' => yl_pick_t rfl (not_t hc28) rfl) hS78 (fun hS79 => ?_)
        refine GH.done (by kernel_rfl) ?_
        refine QA.then_normal ?_
        refine C.cond_t rfl rfl ?_
        refine C.seq ?_
        refine C.region ?_
        refine G.yl (yl_assign rfl) rfl rfl rfl ?_
        refine G.nil ?_
        refine QA.then_normal ?_
        refine C.ret ?_
        refine QA.block_ret ?_
        refine QA.then_ret ?_
        refine QA.then_ret ?_
        refine QA.past (by simp) ?_
        refine QA.block_ret ?_
        refine QA.then_ret ?_
        refine QA.ret1 rfl rfl ?_
        obtain rfl := sp_ret1 hm
        obtain rfl : .inr false = o := hg6
        have hm : some false = some r1 := hm2
        obtain rfl := sp_ret1 hm
        exact ⟨rfl, (Sat.pick [] h21)⟩
    · refine C.cond_f rfl (dec_f hc7) ?_
      refine C.exit ?_
      refine QA.then_exit ?_
      refine QA.then_exit ?_
      obtain rfl := sp_ret1 hm
      exact QA.left () (Sub.of ⟨rfl, rfl, trivial⟩) ⟨hg6, (Sat.pick [] h4)⟩
  · rintro _ w80 ⟨rfl, h81⟩
    have hm := hm2
    show QA _ _ [(0, (.slice a l.length c)), (2, (.bool false))] _ _
    refine QA.block_here ?_
    refine QA.then_normal ?_
    refine C.seq ?_
    refine C.region ?_
    refine G.yl (yl_move rfl) rfl rfl rfl ?_
    refine G.yl (yl_lenE Try.underlying22 rfl) rfl rfl rfl ?_
    refine G.yl (yl_leI rfl rfl) rfl rfl rfl ?_
    refine G.yl (yl_assign rfl) rfl rfl rfl ?_
    refine G.nil ?_
    refine QA.then_normal ?_
    refine C.ret ?_
    refine QA.ret1 rfl rfl ?_
    obtain rfl := sp_ret1 hm
    exact ⟨rfl, (Sat.pick [] h81)⟩
end Go.Proofs.Ytmjcemhojhbijaa
