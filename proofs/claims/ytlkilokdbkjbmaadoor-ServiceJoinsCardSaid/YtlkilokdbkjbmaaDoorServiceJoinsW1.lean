/-
  That the functions of the program compute what their Lean functions say, part 1. No condition.
-/
import Derived.Test.YtlkilokdbkjbmaaDoorServiceJoinsW0
namespace Go.Proofs.YtlkilokdbkjbmaaDoor
open Go Go.RowKit
set_option linter.unusedVariables false
set_option linter.unusedSimpArgs false
set_option linter.unnecessarySimpa false
set_option maxRecDepth 20000 in
set_option maxHeartbeats 1000000 in
theorem M_signpostref09_Parts_w {W : Base} {w : World} {s : List UInt8}  (h : Sat W w []) {r3 : List (List UInt8)} (hm : M_signpostref09_Parts s = some r3) :
    Calls Tryd.prog 18 #[(.string (str s))] w (Ret fun v w' => ∃ r1 : Option Addr, ∃ r2 : Nat, v = (.slice r1 r3.length r2) ∧ Sat W w' [ow elStr r1 r2 9 r3]) := by
  unfold M_signpostref09_Parts at hm
  refine C.enter (N := 32) Tryd.func18 rfl Tryd.ntmps18 rfl ?_
  show C _ _ _ [(0, (.string (str s)))] _ _
  refine C.seq ?_
  refine C.region ?_
  refine G.yl (yl_assign rfl) rfl rfl rfl ?_
  refine G.nil ?_
  refine QA.then_normal ?_
  refine C.seq ?_
  refine C.region ?_
  refine G.yl (yl_assign rfl) rfl rfl rfl ?_
  refine G.nil ?_
  refine QA.then_normal ?_
  refine C.seq ?_
  refine C.region ?_
  refine G.yl (yl_assign rfl) rfl rfl rfl ?_
  refine G.nil ?_
  refine QA.then_normal ?_
  refine C.seq ?_
  refine C.seq ?_
  refine C.region ?_
  refine G.yl (yl_assign rfl) rfl rfl rfl ?_
  refine G.nil ?_
  refine QA.then_normal ?_
  refine C.block ?_
  obtain ⟨o, ho1, hm2⟩ := sp_bind hm
  refine C.left (γ := Option Addr × Nat × List (List UInt8)) (.exit 0) (fun g => match g with | (a_2, c_2, out_2) => [(2, (.slice none 0 0)), (3, (.slice a_2 out_2.length c_2))]) (fun g ww => match g with | (a_2, c_2, out_2) => out_2 = o ∧ Sat W ww [ow elStr a_2 c_2 9 out_2]) ?_ ?_
  · refine C.loopO (γ := Option Addr × Nat × List (List UInt8) × Int × Int) (fun g => match g with | (a, c, out, from_, i) => [(0, (.string (str s))), (2, (.slice none 0 0)), (3, (.slice a out.length c)), (4, (vI from_)), (5, (vI i))]) (fun g ww => match g with | (a, c, out, from_, i) => Sat W ww [ow elStr a c 9 out]) (fun g => match g with | (a, c, out, from_, i) => (out, from_, i)) (none, 0, ([] : List (List UInt8)), 0, 0) ho1 (Sub.of ⟨rfl, rfl, rfl, rfl, rfl, trivial⟩) (Sat.pick [0] (Sat.own_zero h elStr none 9)) ?_
    rintro ⟨a, c, out, from_, i⟩ k5 w3 y_ h4 hm hg6
    show C _ _ _ [(0, (.string (str s))), (2, (.slice none 0 0)), (3, (.slice a out.length c)), (4, (vI from_)), (5, (vI i))] _ _
    change M_signpostref09_Parts_b1 s out from_ i = some y_ at hm
    unfold M_signpostref09_Parts_b1 at hm
    refine C.seq ?_
    refine C.seq ?_
    refine C.region ?_
    refine G.yl (yl_move rfl) rfl rfl rfl ?_
    refine G.yl (yl_move rfl) rfl rfl rfl ?_
    refine G.yl (yl_slenE Tryd.underlying9 rfl) rfl rfl rfl ?_
    refine G.yl (yl_leI rfl rfl) rfl rfl rfl ?_
    refine G.nil ?_
    refine QA.then_normal ?_
    rcases sp_ite hm with ⟨hc7, hm⟩ | ⟨hc7, hm⟩
    · refine C.cond_t rfl (dec_t hc7) ?_
      refine C.skip ?_
      refine QA.then_normal ?_
      refine C.seq ?_
      refine C.block ?_
      refine C.join (γ := Bool) (fun g => match g with | t21 => [(0, (.string (str s))), (2, (.slice none 0 0)), (3, (.slice a out.length c)), (4, (vI from_)), (5, (vI i)), (21, (.bool t21))]) (fun g ww => match g with | t21 => (M_signpostref09_Parts_k2 from_ i out s t21 = some y_) ∧ Sat W ww [ow elStr a c 9 out]) ?_ ?_
      · refine C.region ?_
        refine G.yl (yl_move rfl) rfl rfl rfl ?_
        refine G.yl (yl_move rfl) rfl rfl rfl ?_
        refine G.yl (yl_slenE Tryd.underlying9 rfl) rfl rfl rfl ?_
        refine G.yl (yl_eqI rfl rfl) rfl rfl rfl ?_
        refine G.yl (yl_move rfl) rfl rfl rfl ?_
        rcases sp_ite hm with ⟨hc8, hm⟩ | ⟨hc8, hm⟩
        · refine G.offU rfl rfl (dec_t hc8) rfl ?_
          refine G.offU rfl rfl (dec_t hc8) rfl ?_
          refine G.offU rfl rfl (dec_t hc8) rfl ?_
          refine G.offU rfl rfl (dec_t hc8) rfl ?_
          refine G.yl (yl_pick_t rfl (dec_t hc8) rfl) rfl rfl rfl ?_
          refine G.nil ?_
          exact QA.join true (Sub.of ⟨rfl, rfl, rfl, rfl, rfl, rfl, trivial⟩) ⟨hm, (Sat.pick [0] h4)⟩
        · refine G.on rfl rfl (dec_f hc8) ?_
          refine G.yl (yl_move rfl) rfl rfl rfl ?_
          refine G.on rfl rfl (dec_f hc8) ?_
          refine G.yl (yl_move rfl) rfl rfl rfl ?_
          refine G.on rfl rfl (dec_f hc8) ?_
          obtain ⟨c_3, hy9, hm⟩ := sp_bind hm
          refine G.yl (yl_ixS Tryd.underlying9 rfl rfl hy9) rfl rfl rfl ?_
          refine G.on rfl rfl (dec_f hc8) ?_
          refine G.yl (yl_eq8 (b := 46) rfl rfl) rfl rfl rfl ?_
          refine G.yl (yl_pick_f rfl (dec_f hc8) rfl) rfl rfl rfl ?_
          refine G.nil ?_
          exact QA.join (decide (c_3 = 46)) (Sub.of ⟨rfl, rfl, rfl, rfl, rfl, rfl, trivial⟩) ⟨hm, (Sat.pick [0] h4)⟩
      · rintro t21 w10 ⟨hm, h11⟩
        show C _ _ _ [(0, (.string (str s))), (2, (.slice none 0 0)), (3, (.slice a out.length c)), (4, (vI from_)), (5, (vI i)), (21, (.bool t21))] _ _
        unfold M_signpostref09_Parts_k2 at hm
        rcases sp_b hm with ⟨hc12, hm⟩ | ⟨hc12, hm⟩
        · refine C.cond_t rfl hc12 ?_
          refine C.seq ?_
          refine C.region ?_
          refine G.yl (yl_move rfl) rfl rfl rfl ?_
          refine G.yl (yl_move rfl) rfl rfl rfl ?_
          refine G.yl (yl_move rfl) rfl rfl rfl ?_
          refine G.yl (yl_move rfl) rfl rfl rfl ?_
          obtain ⟨hc13, hm⟩ := sp_chk hm
          refine G.yl (yl_slLHS Tryd.underlying9 rfl rfl rfl hc13) rfl rfl rfl ?_
          refine G.does (does_lit (E := elStr) (l := [(s.take i.toNat).drop from_.toNat]) (vs := [(.string (str ((s.take i.toNat).drop from_.toNat)))]) (cs := [(.string (str ((s.take i.toNat).drop from_.toNat)))]) (e := 9) h11 rfl (by kernel_rfl) rfl rfl (by decide)) rfl rfl rfl ?_
          rintro _ w15 ⟨a14, rfl, h16⟩
          obtain ⟨hc17, hm⟩ := sp_chk hm
          refine G.does (does_app (E := elStr) (l := out) (l2 := [(s.take i.toNat).drop from_.toNat]) Tryd.underlying35 el9 (Sat.pick [1, 0] h16) rfl rfl rfl rfl (by decide) (Sat.own_view h16) hc17 (by decide)) rfl rfl rfl ?_
          rintro _ w20 ⟨a18, c19, rfl, h21⟩
          refine G.yl (yl_assign rfl) rfl rfl rfl ?_
          refine G.nil ?_
          refine QA.then_normal ?_
          refine C.region ?_
          refine G.yl (yl_move rfl) rfl rfl rfl ?_
          obtain ⟨hc22, hm⟩ := sp_chk hm
          refine G.yl (yl_addI rfl rfl hc22) rfl rfl rfl ?_
          refine G.yl (yl_assign rfl) rfl rfl rfl ?_
          refine G.nil ?_
          refine QA.block_normal ?_
          refine QA.then_normal ?_
          refine C.region ?_
          refine G.yl (yl_move rfl) rfl rfl rfl ?_
          obtain ⟨hc23, hm⟩ := sp_chk hm
          refine G.yl (yl_addI rfl rfl hc23) rfl rfl rfl ?_
          refine G.yl (yl_assign rfl) rfl rfl rfl ?_
          refine G.nil ?_
          obtain rfl := sp_ret1 hm
          exact QA.againO (a18, c19, out ++ [(s.take i.toNat).drop from_.toNat], i + 1, i + 1) hg6 (Sub.of ⟨rfl, rfl, rfl, rfl, rfl, trivial⟩) (Sat.pick [0] h21)
        · refine C.cond_f rfl hc12 ?_
          refine C.skip ?_
          refine QA.block_normal ?_
          refine QA.then_normal ?_
          refine C.region ?_
          refine G.yl (yl_move rfl) rfl rfl rfl ?_
          obtain ⟨hc24, hm⟩ := sp_chk hm
          refine G.yl (yl_addI rfl rfl hc24) rfl rfl rfl ?_
          refine G.yl (yl_assign rfl) rfl rfl rfl ?_
          refine G.nil ?_
          obtain rfl := sp_ret1 hm
          exact QA.againO (a, c, out, from_, i + 1) hg6 (Sub.of ⟨rfl, rfl, rfl, rfl, rfl, trivial⟩) (Sat.pick [0] h11)
    · refine C.cond_f rfl (dec_f hc7) ?_
      refine C.exit ?_
      refine QA.then_exit ?_
      refine QA.then_exit ?_
      obtain rfl := sp_ret1 hm
      exact QA.left (a, c, out) (Sub.of ⟨rfl, rfl, trivial⟩) ⟨hg6, (Sat.pick [0] h4)⟩
  · rintro ⟨a_2, c_2, out_2⟩ w25 ⟨rfl, h26⟩
    have hm := hm2
    show QA _ _ [(2, (.slice none 0 0)), (3, (.slice a_2 out_2.length c_2))] _ _
    refine QA.block_here ?_
    refine QA.then_normal ?_
    refine C.seq ?_
    refine C.region ?_
    refine G.yl (yl_move rfl) rfl rfl rfl ?_
    refine G.yl (yl_assign rfl) rfl rfl rfl ?_
    refine G.nil ?_
    refine QA.then_normal ?_
    refine C.ret ?_
    refine QA.ret1 rfl rfl ?_
    obtain rfl := sp_ret1 hm
    exact ⟨a_2, c_2, rfl, (Sat.pick [0] h26)⟩
set_option maxRecDepth 20000 in
set_option maxHeartbeats 1000000 in
theorem M_signpostref09_letter_w {W : Base} {w : World} {b : UInt8}  (h : Sat W w []) {r1 : Bool} (hm : M_signpostref09_letter b = some r1) :
    Calls Tryd.prog 43 #[(v8 b)] w (Ret fun v w' => v = (.bool r1) ∧ Sat W w' []) := by
  unfold M_signpostref09_letter at hm
  refine C.enter (N := 17) Tryd.func43 rfl Tryd.ntmps43 rfl ?_
  show C _ _ _ [(0, (v8 b))] _ _
  refine C.seq ?_
  refine C.region ?_
  refine G.yl (yl_assign rfl) rfl rfl rfl ?_
  refine G.nil ?_
  refine QA.then_normal ?_
  refine C.seq ?_
  refine C.region ?_
  refine G.yl (yl_move rfl) rfl rfl rfl ?_
  refine G.yl (yl_ge8 (b := 97) rfl rfl) rfl rfl rfl ?_
  refine G.yl (yl_move rfl) rfl rfl rfl ?_
  rcases sp_ite hm with ⟨hc1, hm⟩ | ⟨hc1, hm⟩
  · refine G.on rfl rfl (dec_t hc1) ?_
    refine G.yl (yl_move rfl) rfl rfl rfl ?_
    refine G.on rfl rfl (dec_t hc1) ?_
    refine G.yl (yl_le8 (b := 122) rfl rfl) rfl rfl rfl ?_
    refine G.yl (yl_pick_t rfl (dec_t hc1) rfl) rfl rfl rfl ?_
    refine G.yl (yl_move rfl) rfl rfl rfl ?_
    rcases sp_ite hm with ⟨hc2, hm⟩ | ⟨hc2, hm⟩
    · refine G.offU rfl rfl (dec_t hc2) rfl ?_
      refine G.offU rfl rfl (dec_t hc2) rfl ?_
      refine G.offU rfl rfl (dec_t hc2) rfl ?_
      refine G.offUU rfl rfl rfl ?_
      refine G.offUU rfl rfl rfl ?_
      refine G.offU rfl rfl (dec_t hc2) rfl ?_
      refine G.yl (yl_pick_t rfl (dec_t hc2) rfl) rfl rfl rfl ?_
      refine G.yl (yl_assign rfl) rfl rfl rfl ?_
      refine G.nil ?_
      refine QA.then_normal ?_
      refine C.ret ?_
      refine QA.ret1 rfl rfl ?_
      obtain rfl := sp_ret1 hm
      exact ⟨rfl, (Sat.pick [] h)⟩
    · refine G.on rfl rfl (dec_f hc2) ?_
      refine G.yl (yl_move rfl) rfl rfl rfl ?_
      refine G.on rfl rfl (dec_f hc2) ?_
      refine G.yl (yl_ge8 (b := 65) rfl rfl) rfl rfl rfl ?_
      refine G.on rfl rfl (dec_f hc2) ?_
      refine G.yl (yl_move rfl) rfl rfl rfl ?_
      rcases sp_ite hm with ⟨hc3, hm⟩ | ⟨hc3, hm⟩
      · refine G.on rfl rfl (dec_t hc3) ?_
        refine G.yl (yl_move rfl) rfl rfl rfl ?_
        refine G.on rfl rfl (dec_t hc3) ?_
        refine G.yl (yl_le8 (b := 90) rfl rfl) rfl rfl rfl ?_
        refine G.on rfl rfl (dec_f hc2) ?_
        refine G.yl (yl_pick_t rfl (dec_t hc3) rfl) rfl rfl rfl ?_
        refine G.yl (yl_pick_f rfl (dec_f hc2) rfl) rfl rfl rfl ?_
        refine G.yl (yl_assign rfl) rfl rfl rfl ?_
        refine G.nil ?_
        refine QA.then_normal ?_
        refine C.ret ?_
        refine QA.ret1 rfl rfl ?_
        obtain rfl := sp_ret1 hm
        exact ⟨rfl, (Sat.pick [] h)⟩
      · refine G.offU rfl rfl (dec_f hc3) rfl ?_
        refine G.offU rfl rfl (dec_f hc3) rfl ?_
        refine G.on rfl rfl (dec_f hc2) ?_
        refine G.yl (yl_pick_f rfl (dec_f hc3) rfl) rfl rfl rfl ?_
        refine G.yl (yl_pick_f rfl (dec_f hc2) rfl) rfl rfl rfl ?_
        refine G.yl (yl_assign rfl) rfl rfl rfl ?_
        refine G.nil ?_
        refine QA.then_normal ?_
        refine C.ret ?_
        refine QA.ret1 rfl rfl ?_
        obtain rfl := sp_ret1 hm
        exact ⟨rfl, (Sat.pick [] h)⟩
  · refine G.offU rfl rfl (dec_f hc1) rfl ?_
    refine G.offU rfl rfl (dec_f hc1) rfl ?_
    refine G.yl (yl_pick_f rfl (dec_f hc1) rfl) rfl rfl rfl ?_
    refine G.yl (yl_move rfl) rfl rfl rfl ?_
    refine G.on rfl rfl rfl ?_
    refine G.yl (yl_move rfl) rfl rfl rfl ?_
    refine G.on rfl rfl rfl ?_
    refine G.yl (yl_ge8 (b := 65) rfl rfl) rfl rfl rfl ?_
    refine G.on rfl rfl rfl ?_
    refine G.yl (yl_move rfl) rfl rfl rfl ?_
    rcases sp_ite hm with ⟨hc4, hm⟩ | ⟨hc4, hm⟩
    · refine G.on rfl rfl (dec_t hc4) ?_
      refine G.yl (yl_move rfl) rfl rfl rfl ?_
      refine G.on rfl rfl (dec_t hc4) ?_
      refine G.yl (yl_le8 (b := 90) rfl rfl) rfl rfl rfl ?_
      refine G.on rfl rfl rfl ?_
      refine G.yl (yl_pick_t rfl (dec_t hc4) rfl) rfl rfl rfl ?_
      refine G.yl (yl_pick_f rfl rfl rfl) rfl rfl rfl ?_
      refine G.yl (yl_assign rfl) rfl rfl rfl ?_
      refine G.nil ?_
      refine QA.then_normal ?_
      refine C.ret ?_
      refine QA.ret1 rfl rfl ?_
      obtain rfl := sp_ret1 hm
      exact ⟨rfl, (Sat.pick [] h)⟩
    · refine G.offU rfl rfl (dec_f hc4) rfl ?_
      refine G.offU rfl rfl (dec_f hc4) rfl ?_
      refine G.on rfl rfl rfl ?_
      refine G.yl (yl_pick_f rfl (dec_f hc4) rfl) rfl rfl rfl ?_
      refine G.yl (yl_pick_f rfl rfl rfl) rfl rfl rfl ?_
      refine G.yl (yl_assign rfl) rfl rfl rfl ?_
      refine G.nil ?_
      refine QA.then_normal ?_
      refine C.ret ?_
      refine QA.ret1 rfl rfl ?_
      obtain rfl := sp_ret1 hm
      exact ⟨rfl, (Sat.pick [] h)⟩
set_option maxRecDepth 20000 in
set_option maxHeartbeats 1000000 in
theorem M_signpostref09_Part_w {W : Base} {w : World} {s : List UInt8}  (h : Sat W w []) {r1 : Bool} (hm : M_signpostref09_Part s = some r1) :
    Calls Tryd.prog 35 #[(.string (str s))] w (Ret fun v w' => v = (.bool r1) ∧ Sat W w' []) := by
  unfold M_signpostref09_Part at hm
  refine C.enter (N := 61) Tryd.func35 rfl Tryd.ntmps35 rfl ?_
  show C _ _ _ [(0, (.string (str s)))] _ _
  refine C.seq ?_
  refine C.region ?_
  refine G.yl (yl_assign rfl) rfl rfl rfl ?_
  refine G.nil ?_
  refine QA.then_normal ?_
  refine C.seq ?_
  refine C.seq ?_
  refine C.region ?_
  refine G.yl (yl_assign rfl) rfl rfl rfl ?_
  refine G.nil ?_
  refine QA.then_normal ?_
  refine C.block ?_
  obtain ⟨o, ho1, hm2⟩ := sp_bind hm
  refine C.left (γ := Unit) (.exit 0) (fun g => match g with | () => [(0, (.string (str s))), (2, (.bool false))]) (fun g ww => match g with | () => .inl () = o ∧ Sat W ww []) ?_ ?_
  · refine C.loopO (γ := Int) (fun g => match g with | i => [(0, (.string (str s))), (2, (.bool false)), (3, (vI i))]) (fun g ww => match g with | i => Sat W ww []) (fun g => match g with | i => i) 0 ho1 (Sub.of ⟨rfl, rfl, rfl, trivial⟩) (Sat.pick [] h) ?_
    rintro i k5 w3 y_ h4 hm hg6
    show C _ _ _ [(0, (.string (str s))), (2, (.bool false)), (3, (vI i))] _ _
    change M_signpostref09_Part_b1 s i = some y_ at hm
    unfold M_signpostref09_Part_b1 at hm
    refine C.seq ?_
    refine C.seq ?_
    refine C.region ?_
    refine G.yl (yl_move rfl) rfl rfl rfl ?_
    refine G.yl (yl_move rfl) rfl rfl rfl ?_
    refine G.yl (yl_slenE Tryd.underlying9 rfl) rfl rfl rfl ?_
    refine G.yl (yl_ltI rfl rfl) rfl rfl rfl ?_
    refine G.nil ?_
    refine QA.then_normal ?_
    rcases sp_ite hm with ⟨hc7, hm⟩ | ⟨hc7, hm⟩
    · refine C.cond_t rfl (dec_t hc7) ?_
      refine C.skip ?_
      refine QA.then_normal ?_
      refine C.join (γ := Unit) (fun g => match g with | () => [(0, (.string (str s))), (2, (.bool false)), (3, (vI i))]) (fun g ww => match g with | () => (M_signpostref09_Part_k2 i = some y_) ∧ Sat W ww []) ?_ ?_
      · refine C.block ?_
        refine C.join (γ := Bool) (fun g => match g with | t39 => [(0, (.string (str s))), (2, (.bool false)), (3, (vI i)), (39, (.bool t39))]) (fun g ww => match g with | t39 => (M_signpostref09_Part_k3 i t39 = some y_) ∧ Sat W ww []) ?_ ?_
        · refine C.region ?_
          refine G.yl (yl_move rfl) rfl rfl rfl ?_
          refine G.yl (yl_move rfl) rfl rfl rfl ?_
          obtain ⟨c, hy8, hm⟩ := sp_bind hm
          refine G.yl (yl_ixS Tryd.underlying9 rfl rfl hy8) rfl rfl rfl ?_
          obtain ⟨r1_2, hy9, hm⟩ := sp_bind hm
          refine G.does (does_fn 0 rfl rfl rfl en43 h4 (fun U hU hp hr hs => M_signpostref09_letter_w (b := c) hp hy9)) rfl rfl rfl ?_
          rintro _ w10 ⟨U13, hb14, rfl, h12⟩
          have h11 : Sat W w10 [] := hb14 h12
          refine G.yl (yl_not rfl) rfl rfl rfl ?_
          refine G.yl (yl_move rfl) rfl rfl rfl ?_
          rcases sp_b hm with ⟨hc15, hm⟩ | ⟨hc15, hm⟩
          · refine G.offU rfl rfl (not_f hc15) rfl ?_
            refine G.offU rfl rfl (not_f hc15) rfl ?_
            refine G.offU rfl rfl (not_f hc15) rfl ?_
            refine G.offU rfl rfl (not_f hc15) rfl ?_
            refine G.offU rfl rfl (not_f hc15) rfl ?_
            refine G.offUU rfl rfl rfl ?_
            refine G.offUU rfl rfl rfl ?_
            refine G.offUU rfl rfl rfl ?_
            refine G.offUU rfl rfl rfl ?_
            refine G.offU rfl rfl (not_f hc15) rfl ?_
            refine G.offU rfl rfl (not_f hc15) rfl ?_
            refine G.yl (yl_pick_f rfl (not_f hc15) rfl) rfl rfl rfl ?_
            refine G.yl (yl_move rfl) rfl rfl rfl ?_
            refine G.offU rfl rfl rfl rfl ?_
            refine G.offU rfl rfl rfl rfl ?_
            refine G.offU rfl rfl rfl rfl ?_
            refine G.offU rfl rfl rfl rfl ?_
            refine G.yl (yl_pick_f rfl rfl rfl) rfl rfl rfl ?_
            refine G.yl (yl_move rfl) rfl rfl rfl ?_
            refine G.offU rfl rfl rfl rfl ?_
            refine G.offU rfl rfl rfl rfl ?_
            refine G.offU rfl rfl rfl rfl ?_
            refine G.offU rfl rfl rfl rfl ?_
            refine G.yl (yl_pick_f rfl rfl rfl) rfl rfl rfl ?_
            refine G.nil ?_
            exact QA.join false (Sub.of ⟨rfl, rfl, rfl, rfl, trivial⟩) ⟨hm, (Sat.pick [] h11)⟩
          · refine G.on rfl rfl (not_t hc15) ?_
            refine G.yl (yl_move rfl) rfl rfl rfl ?_
            refine G.on rfl rfl (not_t hc15) ?_
            refine G.yl (yl_move rfl) rfl rfl rfl ?_
            refine G.on rfl rfl (not_t hc15) ?_
            obtain ⟨c_2, hy16, hm⟩ := sp_bind hm
            refine G.yl (yl_ixS Tryd.underlying9 rfl rfl hy16) rfl rfl rfl ?_
            refine G.on rfl rfl (not_t hc15) ?_
            refine G.yl (yl_ge8 (b := 48) rfl rfl) rfl rfl rfl ?_
            refine G.on rfl rfl (not_t hc15) ?_
            refine G.yl (yl_move rfl) rfl rfl rfl ?_
            rcases sp_ite hm with ⟨hc17, hm⟩ | ⟨hc17, hm⟩
            · refine G.on rfl rfl (dec_t hc17) ?_
              refine G.yl (yl_move rfl) rfl rfl rfl ?_
              refine G.on rfl rfl (dec_t hc17) ?_
              refine G.yl (yl_move rfl) rfl rfl rfl ?_
              refine G.on rfl rfl (dec_t hc17) ?_
              obtain ⟨c_3, hy18, hm⟩ := sp_bind hm
              refine G.yl (yl_ixS Tryd.underlying9 rfl rfl hy18) rfl rfl rfl ?_
              refine G.on rfl rfl (dec_t hc17) ?_
              refine G.yl (yl_le8 (b := 57) rfl rfl) rfl rfl rfl ?_
              refine G.on rfl rfl (not_t hc15) ?_
              refine G.yl (yl_pick_t rfl (dec_t hc17) rfl) rfl rfl rfl ?_
              refine G.on rfl rfl (not_t hc15) ?_
              refine G.yl (yl_not rfl) rfl rfl rfl ?_
              refine G.yl (yl_pick_t rfl (not_t hc15) rfl) rfl rfl rfl ?_
              refine G.yl (yl_move rfl) rfl rfl rfl ?_
              rcases sp_ite hm with ⟨hc19, hm⟩ | ⟨hc19, hm⟩
              · refine G.offU rfl rfl (not_f (dec_t hc19)) rfl ?_
                refine G.offU rfl rfl (not_f (dec_t hc19)) rfl ?_
                refine G.offU rfl rfl (not_f (dec_t hc19)) rfl ?_
                refine G.offU rfl rfl (not_f (dec_t hc19)) rfl ?_
                refine G.yl (yl_pick_f rfl (not_f (dec_t hc19)) rfl) rfl rfl rfl ?_
                refine G.yl (yl_move rfl) rfl rfl rfl ?_
                refine G.offU rfl rfl rfl rfl ?_
                refine G.offU rfl rfl rfl rfl ?_
                refine G.offU rfl rfl rfl rfl ?_
                refine G.offU rfl rfl rfl rfl ?_
                refine G.yl (yl_pick_f rfl rfl rfl) rfl rfl rfl ?_
                refine G.nil ?_
                exact QA.join false (Sub.of ⟨rfl, rfl, rfl, rfl, trivial⟩) ⟨hm, (Sat.pick [] h11)⟩
              · refine G.on rfl rfl (not_t (dec_f hc19)) ?_
                refine G.yl (yl_move rfl) rfl rfl rfl ?_
                refine G.on rfl rfl (not_t (dec_f hc19)) ?_
                refine G.yl (yl_move rfl) rfl rfl rfl ?_
                refine G.on rfl rfl (not_t (dec_f hc19)) ?_
                obtain ⟨c_4, hy20, hm⟩ := sp_bind hm
                refine G.yl (yl_ixS Tryd.underlying9 rfl rfl hy20) rfl rfl rfl ?_
                refine G.on rfl rfl (not_t (dec_f hc19)) ?_
                refine G.yl (yl_ne8 (b := 45) rfl rfl) rfl rfl rfl ?_
                refine G.yl (yl_pick_t rfl (not_t (dec_f hc19)) rfl) rfl rfl rfl ?_
                refine G.yl (yl_move rfl) rfl rfl rfl ?_
                rcases sp_ite hm with ⟨hc21, hm⟩ | ⟨hc21, hm⟩
                · refine G.offU rfl rfl (not_f (dec_t hc21)) rfl ?_
                  refine G.offU rfl rfl (not_f (dec_t hc21)) rfl ?_
                  refine G.offU rfl rfl (not_f (dec_t hc21)) rfl ?_
                  refine G.offU rfl rfl (not_f (dec_t hc21)) rfl ?_
                  refine G.yl (yl_pick_f rfl (not_f (dec_t hc21)) rfl) rfl rfl rfl ?_
                  refine G.nil ?_
                  exact QA.join false (Sub.of ⟨rfl, rfl, rfl, rfl, trivial⟩) ⟨hm, (Sat.pick [] h11)⟩
                · refine G.on rfl rfl (not_t (dec_f hc21)) ?_
                  refine G.yl (yl_move rfl) rfl rfl rfl ?_
                  refine G.on rfl rfl (not_t (dec_f hc21)) ?_
                  refine G.yl (yl_move rfl) rfl rfl rfl ?_
                  refine G.on rfl rfl (not_t (dec_f hc21)) ?_
                  obtain ⟨c_5, hy22, hm⟩ := sp_bind hm
                  refine G.yl (yl_ixS Tryd.underlying9 rfl rfl hy22) rfl rfl rfl ?_
                  refine G.on rfl rfl (not_t (dec_f hc21)) ?_
                  refine G.yl (yl_ne8 (b := 95) rfl rfl) rfl rfl rfl ?_
                  refine G.yl (yl_pick_t rfl (not_t (dec_f hc21)) rfl) rfl rfl rfl ?_
                  refine G.nil ?_
                  exact QA.join (!(decide (c_5 = 95))) (Sub.of ⟨rfl, rfl, rfl, rfl, trivial⟩) ⟨hm, (Sat.pick [] h11)⟩
            · refine G.offU rfl rfl (dec_f hc17) rfl ?_
              refine G.offU rfl rfl (dec_f hc17) rfl ?_
              refine G.offU rfl rfl (dec_f hc17) rfl ?_
              refine G.offU rfl rfl (dec_f hc17) rfl ?_
              refine G.on rfl rfl (not_t hc15) ?_
              refine G.yl (yl_pick_f rfl (dec_f hc17) rfl) rfl rfl rfl ?_
              refine G.on rfl rfl (not_t hc15) ?_
              refine G.yl (yl_not rfl) rfl rfl rfl ?_
              refine G.yl (yl_pick_t rfl (not_t hc15) rfl) rfl rfl rfl ?_
              refine G.yl (yl_move rfl) rfl rfl rfl ?_
              refine G.on rfl rfl (not_t rfl) ?_
              refine G.yl (yl_move rfl) rfl rfl rfl ?_
              refine G.on rfl rfl (not_t rfl) ?_
              refine G.yl (yl_move rfl) rfl rfl rfl ?_
              refine G.on rfl rfl (not_t rfl) ?_
              obtain ⟨c_6, hy23, hm⟩ := sp_bind hm
              refine G.yl (yl_ixS Tryd.underlying9 rfl rfl hy23) rfl rfl rfl ?_
              refine G.on rfl rfl (not_t rfl) ?_
              refine G.yl (yl_ne8 (b := 45) rfl rfl) rfl rfl rfl ?_
              refine G.yl (yl_pick_t rfl (not_t rfl) rfl) rfl rfl rfl ?_
              refine G.yl (yl_move rfl) rfl rfl rfl ?_
              rcases sp_ite hm with ⟨hc24, hm⟩ | ⟨hc24, hm⟩
              · refine G.offU rfl rfl (not_f (dec_t hc24)) rfl ?_
                refine G.offU rfl rfl (not_f (dec_t hc24)) rfl ?_
                refine G.offU rfl rfl (not_f (dec_t hc24)) rfl ?_
                refine G.offU rfl rfl (not_f (dec_t hc24)) rfl ?_
                refine G.yl (yl_pick_f rfl (not_f (dec_t hc24)) rfl) rfl rfl rfl ?_
                refine G.nil ?_
                exact QA.join false (Sub.of ⟨rfl, rfl, rfl, rfl, trivial⟩) ⟨hm, (Sat.pick [] h11)⟩
              · refine G.on rfl rfl (not_t (dec_f hc24)) ?_
                refine G.yl (yl_move rfl) rfl rfl rfl ?_
                refine G.on rfl rfl (not_t (dec_f hc24)) ?_
                refine G.yl (yl_move rfl) rfl rfl rfl ?_
                refine G.on rfl rfl (not_t (dec_f hc24)) ?_
                obtain ⟨c_7, hy25, hm⟩ := sp_bind hm
                refine G.yl (yl_ixS Tryd.underlying9 rfl rfl hy25) rfl rfl rfl ?_
                refine G.on rfl rfl (not_t (dec_f hc24)) ?_
                refine G.yl (yl_ne8 (b := 95) rfl rfl) rfl rfl rfl ?_
                refine G.yl (yl_pick_t rfl (not_t (dec_f hc24)) rfl) rfl rfl rfl ?_
                refine G.nil ?_
                exact QA.join (!(decide (c_7 = 95))) (Sub.of ⟨rfl, rfl, rfl, rfl, trivial⟩) ⟨hm, (Sat.pick [] h11)⟩
        · rintro t39 w26 ⟨hm, h27⟩
          show C _ _ _ [(0, (.string (str s))), (2, (.bool false)), (3, (vI i)), (39, (.bool t39))] _ _
          unfold M_signpostref09_Part_k3 at hm
          rcases sp_b hm with ⟨hc28, hm⟩ | ⟨hc28, hm⟩
          · refine C.cond_t rfl hc28 ?_
            refine C.seq ?_
            refine C.region ?_
            refine G.yl (yl_assign rfl) rfl rfl rfl ?_
            refine G.nil ?_
            refine QA.then_normal ?_
            refine C.ret ?_
            refine QA.block_ret ?_
            refine QA.then_ret ?_
            refine QA.then_ret ?_
            refine QA.past (by simp) ?_
            refine QA.block_ret ?_
            refine QA.then_ret ?_
            refine QA.ret1 rfl rfl ?_
            obtain rfl := sp_ret1 hm
            obtain rfl : .inr false = o := hg6
            have hm : some false = some r1 := hm2
            obtain rfl := sp_ret1 hm
            exact ⟨rfl, (Sat.pick [] h27)⟩
          · refine C.cond_f rfl hc28 ?_
            refine C.skip ?_
            refine QA.block_normal ?_
            exact QA.join () (Sub.of ⟨rfl, rfl, rfl, trivial⟩) ⟨hm, (Sat.pick [] h27)⟩
      · rintro _ w29 ⟨hm, h30⟩
        show C _ _ _ [(0, (.string (str s))), (2, (.bool false)), (3, (vI i))] _ _
        unfold M_signpostref09_Part_k2 at hm
        refine C.region ?_
        refine G.yl (yl_move rfl) rfl rfl rfl ?_
        obtain ⟨hc31, hm⟩ := sp_chk hm
        refine G.yl (yl_addI rfl rfl hc31) rfl rfl rfl ?_
        refine G.yl (yl_assign rfl) rfl rfl rfl ?_
        refine G.nil ?_
        obtain rfl := sp_ret1 hm
        exact QA.againO (i + 1) hg6 (Sub.of ⟨rfl, rfl, rfl, trivial⟩) (Sat.pick [] h30)
    · refine C.cond_f rfl (dec_f hc7) ?_
      refine C.exit ?_
      refine QA.then_exit ?_
      refine QA.then_exit ?_
      obtain rfl := sp_ret1 hm
      exact QA.left () (Sub.of ⟨rfl, rfl, trivial⟩) ⟨hg6, (Sat.pick [] h4)⟩
  · rintro _ w32 ⟨rfl, h33⟩
    have hm := hm2
    show QA _ _ [(0, (.string (str s))), (2, (.bool false))] _ _
    refine QA.block_here ?_
    refine QA.then_normal ?_
    refine C.seq ?_
    refine C.region ?_
    refine G.yl (yl_move rfl) rfl rfl rfl ?_
    refine G.yl (yl_slenE Tryd.underlying9 rfl) rfl rfl rfl ?_
    refine G.yl (yl_geI rfl rfl) rfl rfl rfl ?_
    refine G.yl (yl_move rfl) rfl rfl rfl ?_
    rcases sp_ite hm with ⟨hc34, hm⟩ | ⟨hc34, hm⟩
    · refine G.on rfl rfl (dec_t hc34) ?_
      refine G.yl (yl_move rfl) rfl rfl rfl ?_
      refine G.on rfl rfl (dec_t hc34) ?_
      refine G.yl (yl_slenE Tryd.underlying9 rfl) rfl rfl rfl ?_
      refine G.on rfl rfl (dec_t hc34) ?_
      refine G.yl (yl_leI rfl rfl) rfl rfl rfl ?_
      refine G.yl (yl_pick_t rfl (dec_t hc34) rfl) rfl rfl rfl ?_
      refine G.yl (yl_move rfl) rfl rfl rfl ?_
      rcases sp_ite hm with ⟨hc35, hm⟩ | ⟨hc35, hm⟩
      · refine G.on rfl rfl (dec_t hc35) ?_
        refine G.yl (yl_move rfl) rfl rfl rfl ?_
        refine G.on rfl rfl (dec_t hc35) ?_
        obtain ⟨c_8, hy36, hm⟩ := sp_bind hm
        refine G.yl (yl_ixS Tryd.underlying9 rfl rfl hy36) rfl rfl rfl ?_
        refine G.on rfl rfl (dec_t hc35) ?_
        refine G.yl (yl_ne8 (b := 45) rfl rfl) rfl rfl rfl ?_
        refine G.yl (yl_pick_t rfl (dec_t hc35) rfl) rfl rfl rfl ?_
        refine G.yl (yl_move rfl) rfl rfl rfl ?_
        rcases sp_ite hm with ⟨hc37, hm⟩ | ⟨hc37, hm⟩
        · refine G.offU rfl rfl (not_f (dec_t hc37)) rfl ?_
          refine G.offU rfl rfl (not_f (dec_t hc37)) rfl ?_
          refine G.offU rfl rfl (not_f (dec_t hc37)) rfl ?_
          refine G.offU rfl rfl (not_f (dec_t hc37)) rfl ?_
          refine G.offU rfl rfl (not_f (dec_t hc37)) rfl ?_
          refine G.offU rfl rfl (not_f (dec_t hc37)) rfl ?_
          refine G.yl (yl_pick_f rfl (not_f (dec_t hc37)) rfl) rfl rfl rfl ?_
          refine G.yl (yl_assign rfl) rfl rfl rfl ?_
          refine G.nil ?_
          refine QA.then_normal ?_
          refine C.ret ?_
          refine QA.ret1 rfl rfl ?_
          obtain rfl := sp_ret1 hm
          exact ⟨rfl, (Sat.pick [] h33)⟩
        · refine G.on rfl rfl (not_t (dec_f hc37)) ?_
          refine G.yl (yl_move rfl) rfl rfl rfl ?_
          refine G.on rfl rfl (not_t (dec_f hc37)) ?_
          refine G.yl (yl_move rfl) rfl rfl rfl ?_
          refine G.on rfl rfl (not_t (dec_f hc37)) ?_
          refine G.yl (yl_slenE Tryd.underlying9 rfl) rfl rfl rfl ?_
          refine G.on rfl rfl (not_t (dec_f hc37)) ?_
          obtain ⟨hc38, hm⟩ := sp_chk hm
          refine G.yl (yl_subI rfl rfl hc38) rfl rfl rfl ?_
          refine G.on rfl rfl (not_t (dec_f hc37)) ?_
          obtain ⟨c_9, hy39, hm⟩ := sp_bind hm
          refine G.yl (yl_ixS Tryd.underlying9 rfl rfl hy39) rfl rfl rfl ?_
          refine G.on rfl rfl (not_t (dec_f hc37)) ?_
          refine G.yl (yl_ne8 (b := 45) rfl rfl) rfl rfl rfl ?_
          refine G.yl (yl_pick_t rfl (not_t (dec_f hc37)) rfl) rfl rfl rfl ?_
          refine G.yl (yl_assign rfl) rfl rfl rfl ?_
          refine G.nil ?_
          refine QA.then_normal ?_
          refine C.ret ?_
          refine QA.ret1 rfl rfl ?_
          obtain rfl := sp_ret1 hm
          exact ⟨rfl, (Sat.pick [] h33)⟩
      · refine G.offU rfl rfl (dec_f hc35) rfl ?_
        refine G.offU rfl rfl (dec_f hc35) rfl ?_
        refine G.offU rfl rfl (dec_f hc35) rfl ?_
        refine G.yl (yl_pick_f rfl (dec_f hc35) rfl) rfl rfl rfl ?_
        refine G.yl (yl_move rfl) rfl rfl rfl ?_
        refine G.offU rfl rfl rfl rfl ?_
        refine G.offU rfl rfl rfl rfl ?_
        refine G.offU rfl rfl rfl rfl ?_
        refine G.offU rfl rfl rfl rfl ?_
        refine G.offU rfl rfl rfl rfl ?_
        refine G.offU rfl rfl rfl rfl ?_
        refine G.yl (yl_pick_f rfl rfl rfl) rfl rfl rfl ?_
        refine G.yl (yl_assign rfl) rfl rfl rfl ?_
        refine G.nil ?_
        refine QA.then_normal ?_
        refine C.ret ?_
        refine QA.ret1 rfl rfl ?_
        obtain rfl := sp_ret1 hm
        exact ⟨rfl, (Sat.pick [] h33)⟩
    · refine G.offU rfl rfl (dec_f hc34) rfl ?_
      refine G.offU rfl rfl (dec_f hc34) rfl ?_
      refine G.offU rfl rfl (dec_f hc34) rfl ?_
      refine G.yl (yl_pick_f rfl (dec_f hc34) rfl) rfl rfl rfl ?_
      refine G.yl (yl_move rfl) rfl rfl rfl ?_
      refine G.offU rfl rfl rfl rfl ?_
      refine G.offU rfl rfl rfl rfl ?_
      refine G.offU rfl rfl rfl rfl ?_
      refine G.yl (yl_pick_f rfl rfl rfl) rfl rfl rfl ?_
      refine G.yl (yl_move rfl) rfl rfl rfl ?_
      refine G.offU rfl rfl rfl rfl ?_
      refine G.offU rfl rfl rfl rfl ?_
      refine G.offU rfl rfl rfl rfl ?_
      refine G.offU rfl rfl rfl rfl ?_
      refine G.offU rfl rfl rfl rfl ?_
      refine G.offU rfl rfl rfl rfl ?_
      refine G.yl (yl_pick_f rfl rfl rfl) rfl rfl rfl ?_
      refine G.yl (yl_assign rfl) rfl rfl rfl ?_
      refine G.nil ?_
      refine QA.then_normal ?_
      refine C.ret ?_
      refine QA.ret1 rfl rfl ?_
      obtain rfl := sp_ret1 hm
      exact ⟨rfl, (Sat.pick [] h33)⟩
set_option maxRecDepth 20000 in
set_option maxHeartbeats 1000000 in
theorem M_signpostref09_Good_w {W : Base} {w : World} {s : List UInt8}  (h : Sat W w []) {r1 : Bool} (hm : M_signpostref09_Good s = some r1) :
    Calls Tryd.prog 26 #[(.string (str s))] w (Ret fun v w' => v = (.bool r1) ∧ Sat W w' []) := by
  unfold M_signpostref09_Good at hm
  refine C.enter (N := 23) Tryd.func26 rfl Tryd.ntmps26 rfl ?_
  show C _ _ _ [(0, (.string (str s)))] _ _
  refine C.seq ?_
  refine C.region ?_
  refine G.yl (yl_assign rfl) rfl rfl rfl ?_
  refine G.nil ?_
  refine QA.then_normal ?_
  refine C.seq ?_
  refine C.region ?_
  refine G.yl (yl_move rfl) rfl rfl rfl ?_
  obtain ⟨r3_2, hy1, hm⟩ := sp_bind hm
  refine G.does (does_fn 0 rfl rfl rfl en18 h (fun U hU hp hr hs => M_signpostref09_Parts_w (s := s) hp hy1)) rfl rfl rfl ?_
  rintro _ w4 ⟨U7, hb8, r12, r23, rfl, h6⟩
  have h5 : Sat W w4 [ow elStr r12 r23 9 r3_2] := hb8 h6
  refine G.yl (yl_assign rfl) rfl rfl rfl ?_
  refine G.nil ?_
  refine QA.then_normal ?_
  refine C.seq ?_
  refine C.seq ?_
  refine C.region ?_
  refine G.yl (yl_assign rfl) rfl rfl rfl ?_
  refine G.nil ?_
  refine QA.then_normal ?_
  refine C.block ?_
  obtain ⟨o, ho9, hm10⟩ := sp_bind hm
  refine C.left (γ := Unit) (.exit 0) (fun g => match g with | () => [(0, (.string (str s))), (2, (.bool false))]) (fun g ww => match g with | () => .inl () = o ∧ Sat W ww []) ?_ ?_
  · refine C.loopO (γ := Int) (fun g => match g with | i => [(0, (.string (str s))), (2, (.bool false)), (3, (.slice r12 r3_2.length r23)), (4, (vI i))]) (fun g ww => match g with | i => Sat W ww [ow elStr r12 r23 9 r3_2]) (fun g => match g with | i => i) 0 ho9 (Sub.of ⟨rfl, rfl, rfl, rfl, trivial⟩) (Sat.pick [0] h5) ?_
    rintro i k13 w11 y_ h12 hm hg14
    show C _ _ _ [(0, (.string (str s))), (2, (.bool false)), (3, (.slice r12 r3_2.length r23)), (4, (vI i))] _ _
    change M_signpostref09_Good_b1 r3_2 i = some y_ at hm
    unfold M_signpostref09_Good_b1 at hm
    refine C.seq ?_
    refine C.seq ?_
    refine C.region ?_
    refine G.yl (yl_move rfl) rfl rfl rfl ?_
    refine G.yl (yl_move rfl) rfl rfl rfl ?_
    refine G.yl (yl_lenE Tryd.underlying35 rfl) rfl rfl rfl ?_
    refine G.yl (yl_ltI rfl rfl) rfl rfl rfl ?_
    refine G.nil ?_
    refine QA.then_normal ?_
    rcases sp_ite hm with ⟨hc15, hm⟩ | ⟨hc15, hm⟩
    · refine C.cond_t rfl (dec_t hc15) ?_
      refine C.skip ?_
      refine QA.then_normal ?_
      refine C.seq ?_
      refine C.block ?_
      refine C.seq ?_
      refine C.region ?_
      refine G.yl (yl_move rfl) rfl rfl rfl ?_
      refine G.yl (yl_move rfl) rfl rfl rfl ?_
      obtain ⟨x, hy16, hm⟩ := sp_bind hm
      refine G.yl (yl_ixP (l := r3_2) sl35 rfl rfl (View.isA (E := elStr) (Sat.own_view h12) (by decide) (at?_lt hy16)) rfl (at?_lt hy16)) rfl rfl rfl ?_
      refine G.yl (yl_ld1 (E := elStr) (v := (.string (str x))) ag9 rfl (Sat.own_view h12) (at?_some hy16).2 rfl) rfl rfl rfl ?_
      obtain ⟨r1_2, hy17, hm⟩ := sp_bind hm
      refine G.does (does_fn 0 rfl rfl rfl en35 h12 (fun U hU hp hr hs => M_signpostref09_Part_w (s := x) hp hy17)) rfl rfl rfl ?_
      rintro _ w18 ⟨U21, hb22, rfl, h20⟩
      have h19 : Sat W w18 [ow elStr r12 r23 9 r3_2] := hb22 h20
      refine G.yl (yl_not rfl) rfl rfl rfl ?_
      refine G.nil ?_
      refine QA.then_normal ?_
      rcases sp_b hm with ⟨hc23, hm⟩ | ⟨hc23, hm⟩
      · refine C.cond_f rfl (not_f hc23) ?_
        refine C.skip ?_
        refine QA.block_normal ?_
        refine QA.then_normal ?_
        refine C.region ?_
        refine G.yl (yl_move rfl) rfl rfl rfl ?_
        obtain ⟨hc24, hm⟩ := sp_chk hm
        refine G.yl (yl_addI rfl rfl hc24) rfl rfl rfl ?_
        refine G.yl (yl_assign rfl) rfl rfl rfl ?_
        refine G.nil ?_
        obtain rfl := sp_ret1 hm
        exact QA.againO (i + 1) hg14 (Sub.of ⟨rfl, rfl, rfl, rfl, trivial⟩) (Sat.pick [0] h19)
      · refine C.cond_t rfl (not_t hc23) ?_
        refine C.seq ?_
        refine C.region ?_
        refine G.yl (yl_assign rfl) rfl rfl rfl ?_
        refine G.nil ?_
        refine QA.then_normal ?_
        refine C.ret ?_
        refine QA.block_ret ?_
        refine QA.then_ret ?_
        refine QA.then_ret ?_
        refine QA.past (by simp) ?_
        refine QA.block_ret ?_
        refine QA.then_ret ?_
        refine QA.ret1 rfl rfl ?_
        obtain rfl := sp_ret1 hm
        obtain rfl : .inr false = o := hg14
        have hm : some false = some r1 := hm10
        obtain rfl := sp_ret1 hm
        exact ⟨rfl, (Sat.pick [] h19)⟩
    · refine C.cond_f rfl (dec_f hc15) ?_
      refine C.exit ?_
      refine QA.then_exit ?_
      refine QA.then_exit ?_
      obtain rfl := sp_ret1 hm
      exact QA.left () (Sub.of ⟨rfl, rfl, trivial⟩) ⟨hg14, (Sat.pick [] h12)⟩
  · rintro _ w25 ⟨rfl, h26⟩
    have hm := hm10
    show QA _ _ [(0, (.string (str s))), (2, (.bool false))] _ _
    refine QA.block_here ?_
    refine QA.then_normal ?_
    refine C.seq ?_
    refine C.region ?_
    refine G.yl (yl_move rfl) rfl rfl rfl ?_
    refine G.yl (yl_slenE Tryd.underlying9 rfl) rfl rfl rfl ?_
    obtain ⟨hc27, hm⟩ := sp_chk hm
    refine G.yl (yl_addI rfl rfl hc27) rfl rfl rfl ?_
    refine G.yl (yl_leI rfl rfl) rfl rfl rfl ?_
    refine G.yl (yl_assign rfl) rfl rfl rfl ?_
    refine G.nil ?_
    refine QA.then_normal ?_
    refine C.ret ?_
    refine QA.ret1 rfl rfl ?_
    obtain rfl := sp_ret1 hm
    exact ⟨rfl, (Sat.pick [] h26)⟩
set_option maxRecDepth 20000 in
set_option maxHeartbeats 1000000 in
theorem M_signpostref10_Good_w {W : Base} {w : World} {s : List UInt8}  (h : Sat W w []) {r1 : Bool} (hm : M_signpostref10_Good s = some r1) :
    Calls Tryd.prog 17 #[(.string (str s))] w (Ret fun v w' => v = (.bool r1) ∧ Sat W w' []) := by
  unfold M_signpostref10_Good at hm
  refine C.enter (N := 40) Tryd.func17 rfl Tryd.ntmps17 rfl ?_
  show C _ _ _ [(0, (.string (str s)))] _ _
  refine C.seq ?_
  refine C.region ?_
  refine G.yl (yl_assign rfl) rfl rfl rfl ?_
  refine G.nil ?_
  refine QA.then_normal ?_
  refine C.seq ?_
  refine C.region ?_
  refine G.yl (yl_move rfl) rfl rfl rfl ?_
  obtain ⟨r1_2, hy1, hm⟩ := sp_bind hm
  refine G.does (does_fn 0 rfl rfl rfl en25 h (fun U hU hp hr hs => M_signpostref09_Fold_w (s := s) hp hy1)) rfl rfl rfl ?_
  rintro _ w2 ⟨U5, hb6, rfl, h4⟩
  have h3 : Sat W w2 [] := hb6 h4
  obtain ⟨r3_2, hy7, hm⟩ := sp_bind hm
  refine G.does (does_fn 0 rfl rfl rfl en18 h3 (fun U hU hp hr hs => M_signpostref09_Parts_w (s := r1_2) hp hy7)) rfl rfl rfl ?_
  rintro _ w10 ⟨U13, hb14, r18, r29, rfl, h12⟩
  have h11 : Sat W w10 [ow elStr r18 r29 9 r3_2] := hb14 h12
  refine G.yl (yl_assign rfl) rfl rfl rfl ?_
  refine G.nil ?_
  refine QA.then_normal ?_
  refine C.seq ?_
  refine C.region ?_
  refine G.yl (yl_move rfl) rfl rfl rfl ?_
  obtain ⟨r1_3, hy15, hm⟩ := sp_bind hm
  refine G.does (does_fn 0 rfl rfl rfl en26 h11 (fun U hU hp hr hs => M_signpostref09_Good_w (s := s) hp hy15)) rfl rfl rfl ?_
  rintro _ w16 ⟨U19, hb20, rfl, h18⟩
  have h17 : Sat W w16 [ow elStr r18 r29 9 r3_2] := hb20 h18
  refine G.yl (yl_move rfl) rfl rfl rfl ?_
  rcases sp_b hm with ⟨hc21, hm⟩ | ⟨hc21, hm⟩
  · refine G.on rfl rfl hc21 ?_
    refine G.yl (yl_move rfl) rfl rfl rfl ?_
    refine G.on rfl rfl hc21 ?_
    refine G.yl (yl_lenE Tryd.underlying35 rfl) rfl rfl rfl ?_
    refine G.on rfl rfl hc21 ?_
    refine G.yl (yl_geI rfl rfl) rfl rfl rfl ?_
    refine G.yl (yl_pick_t rfl hc21 rfl) rfl rfl rfl ?_
    refine G.yl (yl_move rfl) rfl rfl rfl ?_
    rcases sp_ite hm with ⟨hc22, hm⟩ | ⟨hc22, hm⟩
    · refine G.on rfl rfl (dec_t hc22) ?_
      refine G.yl (yl_move rfl) rfl rfl rfl ?_
      refine G.on rfl rfl (dec_t hc22) ?_
      obtain ⟨x, hy23, hm⟩ := sp_bind hm
      refine G.yl (yl_ixP (l := r3_2) sl35 rfl rfl (View.isA (E := elStr) (Sat.own_view h17) (by decide) (at?_lt hy23)) rfl (at?_lt hy23)) rfl rfl rfl ?_
      refine G.on rfl rfl (dec_t hc22) ?_
      refine G.yl (yl_ld1 (E := elStr) (v := (.string (str x))) ag9 rfl (Sat.own_view h17) (at?_some hy23).2 rfl) rfl rfl rfl ?_
      refine G.on rfl rfl (dec_t hc22) ?_
      refine G.yl (yl_slenE Tryd.underlying9 rfl) rfl rfl rfl ?_
      refine G.on rfl rfl (dec_t hc22) ?_
      refine G.yl (yl_geI rfl rfl) rfl rfl rfl ?_
      refine G.yl (yl_pick_t rfl (dec_t hc22) rfl) rfl rfl rfl ?_
      refine G.yl (yl_move rfl) rfl rfl rfl ?_
      rcases sp_ite hm with ⟨hc24, hm⟩ | ⟨hc24, hm⟩
      · refine G.on rfl rfl (dec_t hc24) ?_
        refine G.yl (yl_move rfl) rfl rfl rfl ?_
        refine G.on rfl rfl (dec_t hc24) ?_
        refine G.yl (yl_ixP (l := r3_2) sl35 rfl rfl (View.isA (E := elStr) (Sat.own_view h17) (by decide) (at?_lt hy23)) rfl (at?_lt hy23)) rfl rfl rfl ?_
        refine G.on rfl rfl (dec_t hc24) ?_
        refine G.yl (yl_ld1 (E := elStr) (v := (.string (str x))) ag9 rfl (Sat.own_view h17) (at?_some hy23).2 rfl) rfl rfl rfl ?_
        refine G.on rfl rfl (dec_t hc24) ?_
        obtain ⟨c, hy25, hm⟩ := sp_bind hm
        refine G.yl (yl_ixS Tryd.underlying9 rfl rfl hy25) rfl rfl rfl ?_
        refine G.on rfl rfl (dec_t hc24) ?_
        refine G.yl (yl_eq8 (b := 95) rfl rfl) rfl rfl rfl ?_
        refine G.yl (yl_pick_t rfl (dec_t hc24) rfl) rfl rfl rfl ?_
        refine G.yl (yl_move rfl) rfl rfl rfl ?_
        rcases sp_ite hm with ⟨hc26, hm⟩ | ⟨hc26, hm⟩
        · refine G.on rfl rfl (dec_t hc26) ?_
          refine G.yl (yl_move rfl) rfl rfl rfl ?_
          refine G.on rfl rfl (dec_t hc26) ?_
          obtain ⟨x_2, hy27, hm⟩ := sp_bind hm
          refine G.yl (yl_ixP (l := r3_2) sl35 rfl rfl (View.isA (E := elStr) (Sat.own_view h17) (by decide) (at?_lt hy27)) rfl (at?_lt hy27)) rfl rfl rfl ?_
          refine G.on rfl rfl (dec_t hc26) ?_
          refine G.yl (yl_ld1 (E := elStr) (v := (.string (str x_2))) ag9 rfl (Sat.own_view h17) (at?_some hy27).2 rfl) rfl rfl rfl ?_
          refine G.on rfl rfl (dec_t hc26) ?_
          refine G.yl (yl_eqS rfl rfl) rfl rfl rfl ?_
          refine G.on rfl rfl (dec_t hc26) ?_
          refine G.yl (yl_move rfl) rfl rfl rfl ?_
          rcases sp_ite hm with ⟨hc28, hm⟩ | ⟨hc28, hm⟩
          · refine G.offU rfl rfl (dec_t hc28) rfl ?_
            refine G.offU rfl rfl (dec_t hc28) rfl ?_
            refine G.offU rfl rfl (dec_t hc28) rfl ?_
            refine G.offU rfl rfl (dec_t hc28) rfl ?_
            refine G.on rfl rfl (dec_t hc26) ?_
            refine G.yl (yl_pick_t rfl (dec_t hc28) rfl) rfl rfl rfl ?_
            refine G.yl (yl_pick_t rfl (dec_t hc26) rfl) rfl rfl rfl ?_
            refine G.yl (yl_assign rfl) rfl rfl rfl ?_
            refine G.nil ?_
            refine QA.then_normal ?_
            refine C.ret ?_
            refine QA.ret1 rfl rfl ?_
            obtain rfl := sp_ret1 hm
            exact ⟨rfl, (Sat.pick [] h17)⟩
          · refine G.on rfl rfl (dec_f hc28) ?_
            refine G.yl (yl_move rfl) rfl rfl rfl ?_
            refine G.on rfl rfl (dec_f hc28) ?_
            refine G.yl (yl_ixP (l := r3_2) sl35 rfl rfl (View.isA (E := elStr) (Sat.own_view h17) (by decide) (at?_lt hy27)) rfl (at?_lt hy27)) rfl rfl rfl ?_
            refine G.on rfl rfl (dec_f hc28) ?_
            refine G.yl (yl_ld1 (E := elStr) (v := (.string (str x_2))) ag9 rfl (Sat.own_view h17) (at?_some hy27).2 rfl) rfl rfl rfl ?_
            refine G.on rfl rfl (dec_f hc28) ?_
            refine G.yl (yl_eqS rfl rfl) rfl rfl rfl ?_
            refine G.on rfl rfl (dec_t hc26) ?_
            refine G.yl (yl_pick_f rfl (dec_f hc28) rfl) rfl rfl rfl ?_
            refine G.yl (yl_pick_t rfl (dec_t hc26) rfl) rfl rfl rfl ?_
            refine G.yl (yl_assign rfl) rfl rfl rfl ?_
            refine G.nil ?_
            refine QA.then_normal ?_
            refine C.ret ?_
            refine QA.ret1 rfl rfl ?_
            obtain rfl := sp_ret1 hm
            exact ⟨rfl, (Sat.pick [] h17)⟩
        · refine G.offU rfl rfl (dec_f hc26) rfl ?_
          refine G.offU rfl rfl (dec_f hc26) rfl ?_
          refine G.offU rfl rfl (dec_f hc26) rfl ?_
          refine G.offU rfl rfl (dec_f hc26) rfl ?_
          refine G.offU rfl rfl (dec_f hc26) rfl ?_
          refine G.offUU rfl rfl rfl ?_
          refine G.offUU rfl rfl rfl ?_
          refine G.offUU rfl rfl rfl ?_
          refine G.offUU rfl rfl rfl ?_
          refine G.offU rfl rfl (dec_f hc26) rfl ?_
          refine G.yl (yl_pick_f rfl (dec_f hc26) rfl) rfl rfl rfl ?_
          refine G.yl (yl_assign rfl) rfl rfl rfl ?_
          refine G.nil ?_
          refine QA.then_normal ?_
          refine C.ret ?_
          refine QA.ret1 rfl rfl ?_
          obtain rfl := sp_ret1 hm
          exact ⟨rfl, (Sat.pick [] h17)⟩
      · refine G.offU rfl rfl (dec_f hc24) rfl ?_
        refine G.offU rfl rfl (dec_f hc24) rfl ?_
        refine G.offU rfl rfl (dec_f hc24) rfl ?_
        refine G.offU rfl rfl (dec_f hc24) rfl ?_
        refine G.offU rfl rfl (dec_f hc24) rfl ?_
        refine G.yl (yl_pick_f rfl (dec_f hc24) rfl) rfl rfl rfl ?_
        refine G.yl (yl_move rfl) rfl rfl rfl ?_
        refine G.offU rfl rfl rfl rfl ?_
        refine G.offU rfl rfl rfl rfl ?_
        refine G.offU rfl rfl rfl rfl ?_
        refine G.offU rfl rfl rfl rfl ?_
        refine G.offU rfl rfl rfl rfl ?_
        refine G.offUU rfl rfl rfl ?_
        refine G.offUU rfl rfl rfl ?_
        refine G.offUU rfl rfl rfl ?_
        refine G.offUU rfl rfl rfl ?_
        refine G.offU rfl rfl rfl rfl ?_
        refine G.yl (yl_pick_f rfl rfl rfl) rfl rfl rfl ?_
        refine G.yl (yl_assign rfl) rfl rfl rfl ?_
        refine G.nil ?_
        refine QA.then_normal ?_
        refine C.ret ?_
        refine QA.ret1 rfl rfl ?_
        obtain rfl := sp_ret1 hm
        exact ⟨rfl, (Sat.pick [] h17)⟩
    · refine G.offU rfl rfl (dec_f hc22) rfl ?_
      refine G.offU rfl rfl (dec_f hc22) rfl ?_
      refine G.offU rfl rfl (dec_f hc22) rfl ?_
      refine G.offU rfl rfl (dec_f hc22) rfl ?_
      refine G.offU rfl rfl (dec_f hc22) rfl ?_
      refine G.yl (yl_pick_f rfl (dec_f hc22) rfl) rfl rfl rfl ?_
      refine G.yl (yl_move rfl) rfl rfl rfl ?_
      refine G.offU rfl rfl rfl rfl ?_
      refine G.offU rfl rfl rfl rfl ?_
      refine G.offU rfl rfl rfl rfl ?_
      refine G.offU rfl rfl rfl rfl ?_
      refine G.offU rfl rfl rfl rfl ?_
      refine G.yl (yl_pick_f rfl rfl rfl) rfl rfl rfl ?_
      refine G.yl (yl_move rfl) rfl rfl rfl ?_
      refine G.offU rfl rfl rfl rfl ?_
      refine G.offU rfl rfl rfl rfl ?_
      refine G.offU rfl rfl rfl rfl ?_
      refine G.offU rfl rfl rfl rfl ?_
      refine G.offU rfl rfl rfl rfl ?_
      refine G.offUU rfl rfl rfl ?_
      refine G.offUU rfl rfl rfl ?_
      refine G.offUU rfl rfl rfl ?_
      refine G.offUU rfl rfl rfl ?_
      refine G.offU rfl rfl rfl rfl ?_
      refine G.yl (yl_pick_f rfl rfl rfl) rfl rfl rfl ?_
      refine G.yl (yl_assign rfl) rfl rfl rfl ?_
      refine G.nil ?_
      refine QA.then_normal ?_
      refine C.ret ?_
      refine QA.ret1 rfl rfl ?_
      obtain rfl := sp_ret1 hm
      exact ⟨rfl, (Sat.pick [] h17)⟩
  · refine G.offU rfl rfl hc21 rfl ?_
    refine G.offU rfl rfl hc21 rfl ?_
    refine G.offU rfl rfl hc21 rfl ?_
    refine G.yl (yl_pick_f rfl hc21 rfl) rfl rfl rfl ?_
    refine G.yl (yl_move rfl) rfl rfl rfl ?_
    refine G.offU rfl rfl rfl rfl ?_
    refine G.offU rfl rfl rfl rfl ?_
    refine G.offU rfl rfl rfl rfl ?_
    refine G.offU rfl rfl rfl rfl ?_
    refine G.offU rfl rfl rfl rfl ?_
    refine G.yl (yl_pick_f rfl rfl rfl) rfl rfl rfl ?_
    refine G.yl (yl_move rfl) rfl rfl rfl ?_
    refine G.offU rfl rfl rfl rfl ?_
    refine G.offU rfl rfl rfl rfl ?_
    refine G.offU rfl rfl rfl rfl ?_
    refine G.offU rfl rfl rfl rfl ?_
    refine G.offU rfl rfl rfl rfl ?_
    refine G.yl (yl_pick_f rfl rfl rfl) rfl rfl rfl ?_
    refine G.yl (yl_move rfl) rfl rfl rfl ?_
    refine G.offU rfl rfl rfl rfl ?_
    refine G.offU rfl rfl rfl rfl ?_
    refine G.offU rfl rfl rfl rfl ?_
    refine G.offU rfl rfl rfl rfl ?_
    refine G.offU rfl rfl rfl rfl ?_
    refine G.offUU rfl rfl rfl ?_
    refine G.offUU rfl rfl rfl ?_
    refine G.offUU rfl rfl rfl ?_
    refine G.offUU rfl rfl rfl ?_
    refine G.offU rfl rfl rfl rfl ?_
    refine G.yl (yl_pick_f rfl rfl rfl) rfl rfl rfl ?_
    refine G.yl (yl_assign rfl) rfl rfl rfl ?_
    refine G.nil ?_
    refine QA.then_normal ?_
    refine C.ret ?_
    refine QA.ret1 rfl rfl ?_
    obtain rfl := sp_ret1 hm
    exact ⟨rfl, (Sat.pick [] h17)⟩
set_option maxRecDepth 20000 in
set_option maxHeartbeats 1000000 in
theorem M_signpostref10_Split_w {W : Base} {w : World} {s : List UInt8}  (h : Sat W w []) {r1 : List UInt8} {r2 : List UInt8} {r3 : List UInt8} {r4 : Int} (hm : M_signpostref10_Split s = some (r1, r2, r3, r4)) :
    Calls Tryd.prog 10 #[(.string (str s))] w (Ret fun v w' => v = (.tuple #[(.string (str r1)), (.string (str r2)), (.string (str r3)), (vI r4)]) ∧ Sat W w' []) := by
  unfold M_signpostref10_Split at hm
  refine C.enter (N := 32) Tryd.func10 rfl Tryd.ntmps10 rfl ?_
  show C _ _ _ [(0, (.string (str s)))] _ _
  refine C.seq ?_
  refine C.region ?_
  refine G.yl (yl_assign rfl) rfl rfl rfl ?_
  refine G.yl (yl_assign rfl) rfl rfl rfl ?_
  refine G.yl (yl_assign rfl) rfl rfl rfl ?_
  refine G.yl (yl_assign rfl) rfl rfl rfl ?_
  refine G.nil ?_
  refine QA.then_normal ?_
  refine C.seq ?_
  refine C.seq ?_
  refine C.region ?_
  refine G.yl (yl_move rfl) rfl rfl rfl ?_
  obtain ⟨r1_2, hy1, hm⟩ := sp_bind hm
  refine G.does (does_fn 0 rfl rfl rfl en17 h (fun U hU hp hr hs => M_signpostref10_Good_w (s := s) hp hy1)) rfl rfl rfl ?_
  rintro _ w2 ⟨U5, hb6, rfl, h4⟩
  have h3 : Sat W w2 [] := hb6 h4
  refine G.yl (yl_not rfl) rfl rfl rfl ?_
  refine G.nil ?_
  refine QA.then_normal ?_
  rcases sp_b hm with ⟨hc7, hm⟩ | ⟨hc7, hm⟩
  · refine C.cond_f rfl (not_f hc7) ?_
    refine C.skip ?_
    refine QA.then_normal ?_
    refine C.seq ?_
    refine C.region ?_
    refine G.yl (yl_move rfl) rfl rfl rfl ?_
    obtain ⟨r3_2, hy8, hm⟩ := sp_bind hm
    refine G.does (does_fn 0 rfl rfl rfl en18 h3 (fun U hU hp hr hs => M_signpostref09_Parts_w (s := s) hp hy8)) rfl rfl rfl ?_
    rintro _ w11 ⟨U14, hb15, r19, r210, rfl, h13⟩
    have h12 : Sat W w11 [ow elStr r19 r210 9 r3_2] := hb15 h13
    refine G.yl (yl_assign rfl) rfl rfl rfl ?_
    refine G.nil ?_
    refine QA.then_normal ?_
    refine C.seq ?_
    refine C.draw (V := fun w' => View w' r19 (elStr.row r3_2)) (nd := [2, 6, 11, 15]) (sp := []) (n := 24) rfl h12 rfl rfl ?_
    intro w16 h17
    have hS18 : Cls (fun w' => View w' r19 (elStr.row r3_2)) [2, 6, 11, 15] [] #[nn, nn, nn, nn, nn, nn, nn, nn, nn, nn, nn, nn, nn, nn, nn, nn, nn, nn, nn, nn, nn, nn, nn, nn] w16 := Cls.keep ((Sat.own_view h17)) (by kernel_rfl)
    refine GH.yl (i := 0) (listed' := #[yy, nn, nn, nn, nn, nn, nn, nn, nn, nn, nn, nn, nn, nn, nn, nn, nn, nn, nn, nn, nn, nn, nn, nn]) rfl (by kernel_rfl) rfl (NP.next NP.body) rfl rfl rfl (fun w' => yl_move rfl) hS18 (fun hS19 => ?_)
    obtain ⟨x, hy20, hm⟩ := sp_bind hm
    refine GH.yl (i := 1) (listed' := #[yy, yy, nn, nn, nn, nn, nn, nn, nn, nn, nn, nn, nn, nn, nn, nn, nn, nn, nn, nn, nn, nn, nn, nn]) rfl (by kernel_rfl) rfl (NP.next NP.body) rfl rfl rfl (fun w' => yl_ixP (l := r3_2) sl35 rfl rfl (View.isA (E := elStr) (Sat.own_view h17) (by decide) (at?_lt hy20)) rfl (at?_lt hy20)) hS19 (fun hS21 => ?_)
    refine GH.yr (i := 2) (listed' := #[yy, yy, yy, nn, nn, nn, nn, nn, nn, nn, nn, nn, nn, nn, nn, nn, nn, nn, nn, nn, nn, nn, nn, nn]) rfl (by kernel_rfl) rfl rfl (NP.next NP.body) rfl rfl rfl (fun w' hw' => yl_ld1 (E := elStr) (v := (.string (str x))) ag9 rfl (hw') (at?_some hy20).2 rfl) hS21 (fun hS22 => ?_)
    obtain ⟨hc23, hm⟩ := sp_chk hm
    refine GH.yl (i := 3) (listed' := #[yy, yy, yy, yy, nn, nn, nn, nn, nn, nn, nn, nn, nn, nn, nn, nn, nn, nn, nn, nn, nn, nn, nn, nn]) rfl (by kernel_rfl) rfl (NP.next NP.body) rfl rfl rfl (fun w' => yl_slLS Tryd.underlying9 rfl rfl hc23) hS22 (fun hS24 => ?_)
    refine GH.yl (i := 4) (listed' := #[yy, yy, yy, yy, yy, nn, nn, nn, nn, nn, nn, nn, nn, nn, nn, nn, nn, nn, nn, nn, nn, nn, nn, nn]) rfl (by kernel_rfl) rfl (NP.next NP.body) rfl rfl rfl (fun w' => yl_move rfl) hS24 (fun hS25 => ?_)
    obtain ⟨x_2, hy26, hm⟩ := sp_bind hm
    refine GH.yl (i := 5) (listed' := #[yy, yy, yy, yy, yy, yy, nn, nn, nn, nn, nn, nn, nn, nn, nn, nn, nn, nn, nn, nn, nn, nn, nn, nn]) rfl (by kernel_rfl) rfl (NP.next NP.body) rfl rfl rfl (fun w' => yl_ixP (l := r3_2) sl35 rfl rfl (View.isA (E := elStr) (Sat.own_view h17) (by decide) (at?_lt hy26)) rfl (at?_lt hy26)) hS25 (fun hS27 => ?_)
    refine GH.yr (i := 6) (listed' := #[yy, yy, yy, yy, yy, yy, yy, nn, nn, nn, nn, nn, nn, nn, nn, nn, nn, nn, nn, nn, nn, nn, nn, nn]) rfl (by kernel_rfl) rfl rfl (NP.next NP.body) rfl rfl rfl (fun w' hw' => yl_ld1 (E := elStr) (v := (.string (str x_2))) ag9 rfl (hw') (at?_some hy26).2 rfl) hS27 (fun hS28 => ?_)
    obtain ⟨hc29, hm⟩ := sp_chk hm
    refine GH.yl (i := 7) (listed' := #[yy, yy, yy, yy, yy, yy, yy, yy, nn, nn, nn, nn, nn, nn, nn, nn, nn, nn, nn, nn, nn, nn, nn, nn]) rfl (by kernel_rfl) rfl (NP.next NP.body) rfl rfl rfl (fun w' => yl_slLS Tryd.underlying9 rfl rfl hc29) hS28 (fun hS30 => ?_)
    refine GH.yl (i := 8) (listed' := #[yy, yy, yy, yy, yy, yy, yy, yy, yy, nn, nn, nn, nn, nn, nn, nn, nn, nn, nn, nn, nn, nn, nn, nn]) rfl (by kernel_rfl) rfl (NP.next NP.body) rfl rfl rfl (fun w' => yl_move rfl) hS30 (fun hS31 => ?_)
    refine GH.yl (i := 9) (listed' := #[yy, yy, yy, yy, yy, yy, yy, yy, yy, yy, nn, nn, nn, nn, nn, nn, nn, nn, nn, nn, nn, nn, nn, nn]) rfl (by kernel_rfl) rfl (NP.next NP.body) rfl rfl rfl (fun w' => yl_move rfl) hS31 (fun hS32 => ?_)
    refine GH.yl (i := 10) (listed' := #[yy, yy, yy, yy, yy, yy, yy, yy, yy, yy, yy, nn, nn, nn, nn, nn, nn, nn, nn, nn, nn, nn, nn, nn]) rfl (by kernel_rfl) rfl (NP.next NP.body) rfl rfl rfl (fun w' => yl_ixP (l := r3_2) sl35 rfl rfl (View.isA (E := elStr) (Sat.own_view h17) (by decide) (at?_lt hy20)) rfl (at?_lt hy20)) hS32 (fun hS33 => ?_)
    refine GH.yr (i := 11) (listed' := #[yy, yy, yy, yy, yy, yy, yy, yy, yy, yy, yy, yy, nn, nn, nn, nn, nn, nn, nn, nn, nn, nn, nn, nn]) rfl (by kernel_rfl) rfl rfl (NP.next NP.body) rfl rfl rfl (fun w' hw' => yl_ld1 (E := elStr) (v := (.string (str x))) ag9 rfl (hw') (at?_some hy20).2 rfl) hS33 (fun hS34 => ?_)
    refine GH.yl (i := 12) (listed' := #[yy, yy, yy, yy, yy, yy, yy, yy, yy, yy, yy, yy, yy, nn, nn, nn, nn, nn, nn, nn, nn, nn, nn, nn]) rfl (by kernel_rfl) rfl (NP.next NP.body) rfl rfl rfl (fun w' => yl_slenE Tryd.underlying9 rfl) hS34 (fun hS35 => ?_)
    refine GH.yl (i := 13) (listed' := #[yy, yy, yy, yy, yy, yy, yy, yy, yy, yy, yy, yy, yy, yy, nn, nn, nn, nn, nn, nn, nn, nn, nn, nn]) rfl (by kernel_rfl) rfl (NP.next NP.body) rfl rfl rfl (fun w' => yl_move rfl) hS35 (fun hS36 => ?_)
    refine GH.yl (i := 14) (listed' := #[yy, yy, yy, yy, yy, yy, yy, yy, yy, yy, yy, yy, yy, yy, yy, nn, nn, nn, nn, nn, nn, nn, nn, nn]) rfl (by kernel_rfl) rfl (NP.next NP.body) rfl rfl rfl (fun w' => yl_ixP (l := r3_2) sl35 rfl rfl (View.isA (E := elStr) (Sat.own_view h17) (by decide) (at?_lt hy26)) rfl (at?_lt hy26)) hS36 (fun hS37 => ?_)
    refine GH.yr (i := 15) (listed' := #[yy, yy, yy, yy, yy, yy, yy, yy, yy, yy, yy, yy, yy, yy, yy, yy, nn, nn, nn, nn, nn, nn, nn, nn]) rfl (by kernel_rfl) rfl rfl (NP.next NP.body) rfl rfl rfl (fun w' hw' => yl_ld1 (E := elStr) (v := (.string (str x_2))) ag9 rfl (hw') (at?_some hy26).2 rfl) hS37 (fun hS38 => ?_)
    refine GH.yl (i := 16) (listed' := #[yy, yy, yy, yy, yy, yy, yy, yy, yy, yy, yy, yy, yy, yy, yy, yy, yy, nn, nn, nn, nn, nn, nn, nn]) rfl (by kernel_rfl) rfl (NP.next NP.body) rfl rfl rfl (fun w' => yl_slenE Tryd.underlying9 rfl) hS38 (fun hS39 => ?_)
    obtain ⟨hc40, hm⟩ := sp_chk hm
    refine GH.yl (i := 17) (listed' := #[yy, yy, yy, yy, yy, yy, yy, yy, yy, yy, yy, yy, yy, yy, yy, yy, yy, yy, nn, nn, nn, nn, nn, nn]) rfl (by kernel_rfl) rfl (NP.next NP.body) rfl rfl rfl (fun w' => yl_addI rfl rfl hc40) hS39 (fun hS41 => ?_)
    obtain ⟨hc42, hm⟩ := sp_chk hm
    refine GH.yl (i := 18) (listed' := #[yy, yy, yy, yy, yy, yy, yy, yy, yy, yy, yy, yy, yy, yy, yy, yy, yy, yy, yy, nn, nn, nn, nn, nn]) rfl (by kernel_rfl) rfl (NP.next NP.body) rfl rfl rfl (fun w' => yl_addI rfl rfl hc42) hS41 (fun hS43 => ?_)
    obtain ⟨hc44, hm⟩ := sp_chk hm
    refine GH.yl (i := 19) (listed' := #[yy, yy, yy, yy, yy, yy, yy, yy, yy, yy, yy, yy, yy, yy, yy, yy, yy, yy, yy, yy, nn, nn, nn, nn]) rfl (by kernel_rfl) rfl (NP.next NP.body) rfl rfl rfl (fun w' => yl_slLS Tryd.underlying9 rfl rfl hc44) hS43 (fun hS45 => ?_)
    refine GH.yl (i := 20) (listed' := #[yy, yy, yy, yy, yy, yy, yy, yy, yy, yy, yy, yy, yy, yy, yy, yy, yy, yy, yy, yy, yy, nn, nn, nn]) rfl (by kernel_rfl) rfl (NP.next NP.body) rfl rfl rfl (fun w' => yl_assign rfl) hS45 (fun hS46 => ?_)
    refine GH.yl (i := 21) (listed' := #[yy, yy, yy, yy, yy, yy, yy, yy, yy, yy, yy, yy, yy, yy, yy, yy, yy, yy, yy, yy, yy, yy, nn, nn]) rfl (by kernel_rfl) rfl (NP.next NP.body) rfl rfl rfl (fun w' => yl_assign rfl) hS46 (fun hS47 => ?_)
    refine GH.yl (i := 22) (listed' := #[yy, yy, yy, yy, yy, yy, yy, yy, yy, yy, yy, yy, yy, yy, yy, yy, yy, yy, yy, yy, yy, yy, yy, nn]) rfl (by kernel_rfl) rfl (NP.next NP.body) rfl rfl rfl (fun w' => yl_assign rfl) hS47 (fun hS48 => ?_)
    refine GH.yl (i := 23) (listed' := #[yy, yy, yy, yy, yy, yy, yy, yy, yy, yy, yy, yy, yy, yy, yy, yy, yy, yy, yy, yy, yy, yy, yy, yy]) rfl (by kernel_rfl) rfl (NP.next NP.body) rfl rfl rfl (fun w' => yl_assign rfl) hS48 (fun hS49 => ?_)
    refine GH.done (by kernel_rfl) ?_
    refine QA.then_normal ?_
    refine C.ret ?_
    refine QA.ret_tttt rfl rfl rfl rfl rfl ?_
    obtain ⟨rfl, rfl, rfl, rfl⟩ := sp_ret4 hm
    exact ⟨rfl, (Sat.pick [] h17)⟩
  · refine C.cond_t rfl (not_t hc7) ?_
    refine C.seq ?_
    refine C.region ?_
    refine G.yl (yl_assign rfl) rfl rfl rfl ?_
    refine G.yl (yl_assign rfl) rfl rfl rfl ?_
    refine G.yl (yl_assign rfl) rfl rfl rfl ?_
    refine G.yl (yl_assign rfl) rfl rfl rfl ?_
    refine G.nil ?_
    refine QA.then_normal ?_
    refine C.ret ?_
    refine QA.then_ret ?_
    refine QA.ret_tttt rfl rfl rfl rfl rfl ?_
    obtain ⟨rfl, rfl, rfl, rfl⟩ := sp_ret4 hm
    exact ⟨rfl, (Sat.pick [] h3)⟩
set_option maxRecDepth 20000 in
set_option maxHeartbeats 1000000 in
theorem M_signpostref10_Join_w {W : Base} {w : World} {service : List UInt8} {proto : List UInt8} {domain : List UInt8}  (h : Sat W w []) {r1 : List UInt8} {r2 : Int} (hm : M_signpostref10_Join service proto domain = some (r1, r2)) :
    Calls Tryd.prog 6 #[(.string (str service)), (.string (str proto)), (.string (str domain))] w (Ret fun v w' => v = (.tuple #[(.string (str r1)), (vI r2)]) ∧ Sat W w' []) := by
  unfold M_signpostref10_Join at hm
  refine C.enter (N := 46) Tryd.func6 rfl Tryd.ntmps6 rfl ?_
  show C _ _ _ [(0, (.string (str service))), (1, (.string (str proto))), (2, (.string (str domain)))] _ _
  refine C.seq ?_
  refine C.region ?_
  refine G.yl (yl_assign rfl) rfl rfl rfl ?_
  refine G.yl (yl_assign rfl) rfl rfl rfl ?_
  refine G.nil ?_
  refine QA.then_normal ?_
  refine C.seq ?_
  refine C.region ?_
  refine G.yl (yl_move rfl) rfl rfl rfl ?_
  obtain ⟨hc1, hm⟩ := sp_chk hm
  refine G.yl (yl_catS rfl rfl hc1) rfl rfl rfl ?_
  obtain ⟨hc2, hm⟩ := sp_chk hm
  refine G.yl (yl_catS rfl rfl hc2) rfl rfl rfl ?_
  refine G.yl (yl_move rfl) rfl rfl rfl ?_
  obtain ⟨hc3, hm⟩ := sp_chk hm
  refine G.yl (yl_catS rfl rfl hc3) rfl rfl rfl ?_
  obtain ⟨hc4, hm⟩ := sp_chk hm
  refine G.yl (yl_catS rfl rfl hc4) rfl rfl rfl ?_
  refine G.yl (yl_move rfl) rfl rfl rfl ?_
  obtain ⟨hc5, hm⟩ := sp_chk hm
  refine G.yl (yl_catS rfl rfl hc5) rfl rfl rfl ?_
  refine G.yl (yl_assign rfl) rfl rfl rfl ?_
  refine G.nil ?_
  refine QA.then_normal ?_
  refine C.seq ?_
  refine C.region ?_
  refine G.yl (yl_move rfl) rfl rfl rfl ?_
  obtain ⟨⟨r1_2, r2_2, r3_2, r4_2⟩, hy6, hm⟩ := sp_bind hm
  refine G.does (does_fn 0 rfl rfl rfl en10 h (fun U hU hp hr hs => M_signpostref10_Split_w hp hy6)) rfl rfl rfl ?_
  rintro _ w7 ⟨U10, hb11, rfl, h9⟩
  have h8 : Sat W w7 [] := hb11 h9
  refine G.yl (yl_move rfl) rfl rfl rfl ?_
  refine G.yl (yl_extract rfl rfl) rfl rfl rfl ?_
  refine G.yl (yl_extract rfl rfl) rfl rfl rfl ?_
  refine G.yl (yl_extract rfl rfl) rfl rfl rfl ?_
  refine G.yl (yl_extract rfl rfl) rfl rfl rfl ?_
  refine G.yl (yl_assign rfl) rfl rfl rfl ?_
  refine G.yl (yl_assign rfl) rfl rfl rfl ?_
  refine G.yl (yl_assign rfl) rfl rfl rfl ?_
  refine G.yl (yl_assign rfl) rfl rfl rfl ?_
  refine G.nil ?_
  refine QA.then_normal ?_
  refine C.seq ?_
  refine C.seq ?_
  refine C.region ?_
  refine G.yl (yl_move rfl) rfl rfl rfl ?_
  refine G.yl (yl_neI rfl rfl) rfl rfl rfl ?_
  refine G.yl (yl_move rfl) rfl rfl rfl ?_
  rcases sp_ite hm with ⟨hc12, hm⟩ | ⟨hc12, hm⟩
  · refine G.on rfl rfl (not_f (dec_t hc12)) ?_
    refine G.yl (yl_move rfl) rfl rfl rfl ?_
    refine G.on rfl rfl (not_f (dec_t hc12)) ?_
    refine G.yl (yl_move rfl) rfl rfl rfl ?_
    refine G.on rfl rfl (not_f (dec_t hc12)) ?_
    refine G.yl (yl_neS rfl rfl) rfl rfl rfl ?_
    refine G.yl (yl_pick_f rfl (not_f (dec_t hc12)) rfl) rfl rfl rfl ?_
    refine G.yl (yl_move rfl) rfl rfl rfl ?_
    rcases sp_ite hm with ⟨hc13, hm⟩ | ⟨hc13, hm⟩
    · refine G.on rfl rfl (not_f (dec_t hc13)) ?_
      refine G.yl (yl_move rfl) rfl rfl rfl ?_
      refine G.on rfl rfl (not_f (dec_t hc13)) ?_
      refine G.yl (yl_move rfl) rfl rfl rfl ?_
      refine G.on rfl rfl (not_f (dec_t hc13)) ?_
      refine G.yl (yl_neS rfl rfl) rfl rfl rfl ?_
      refine G.yl (yl_pick_f rfl (not_f (dec_t hc13)) rfl) rfl rfl rfl ?_
      refine G.yl (yl_move rfl) rfl rfl rfl ?_
      rcases sp_ite hm with ⟨hc14, hm⟩ | ⟨hc14, hm⟩
      · refine G.on rfl rfl (not_f (dec_t hc14)) ?_
        refine G.yl (yl_move rfl) rfl rfl rfl ?_
        refine G.on rfl rfl (not_f (dec_t hc14)) ?_
        refine G.yl (yl_move rfl) rfl rfl rfl ?_
        refine G.on rfl rfl (not_f (dec_t hc14)) ?_
        refine G.yl (yl_neS rfl rfl) rfl rfl rfl ?_
        refine G.yl (yl_pick_f rfl (not_f (dec_t hc14)) rfl) rfl rfl rfl ?_
        refine G.nil ?_
        refine QA.then_normal ?_
        rcases sp_ite hm with ⟨hc15, hm⟩ | ⟨hc15, hm⟩
        · refine C.cond_f rfl (not_f (dec_t hc15)) ?_
          refine C.skip ?_
          refine QA.then_normal ?_
          refine C.seq ?_
          refine C.region ?_
          refine G.yl (yl_move rfl) rfl rfl rfl ?_
          refine G.yl (yl_assign rfl) rfl rfl rfl ?_
          refine G.yl (yl_assign rfl) rfl rfl rfl ?_
          refine G.nil ?_
          refine QA.then_normal ?_
          refine C.ret ?_
          refine QA.ret2 rfl rfl rfl ?_
          obtain ⟨rfl, rfl⟩ := sp_ret2 hm
          exact ⟨rfl, (Sat.pick [] h8)⟩
        · refine C.cond_t rfl (not_t (dec_f hc15)) ?_
          refine C.seq ?_
          refine C.region ?_
          refine G.yl (yl_assign rfl) rfl rfl rfl ?_
          refine G.yl (yl_assign rfl) rfl rfl rfl ?_
          refine G.nil ?_
          refine QA.then_normal ?_
          refine C.ret ?_
          refine QA.then_ret ?_
          refine QA.ret2 rfl rfl rfl ?_
          obtain ⟨rfl, rfl⟩ := sp_ret2 hm
          exact ⟨rfl, (Sat.pick [] h8)⟩
      · refine G.offU rfl rfl (not_t (dec_f hc14)) rfl ?_
        refine G.offU rfl rfl (not_t (dec_f hc14)) rfl ?_
        refine G.offU rfl rfl (not_t (dec_f hc14)) rfl ?_
        refine G.yl (yl_pick_t rfl (not_t (dec_f hc14)) rfl) rfl rfl rfl ?_
        refine G.nil ?_
        refine QA.then_normal ?_
        refine C.cond_t rfl rfl ?_
        refine C.seq ?_
        refine C.region ?_
        refine G.yl (yl_assign rfl) rfl rfl rfl ?_
        refine G.yl (yl_assign rfl) rfl rfl rfl ?_
        refine G.nil ?_
        refine QA.then_normal ?_
        refine C.ret ?_
        refine QA.then_ret ?_
        refine QA.ret2 rfl rfl rfl ?_
        obtain ⟨rfl, rfl⟩ := sp_ret2 hm
        exact ⟨rfl, (Sat.pick [] h8)⟩
    · refine G.offU rfl rfl (not_t (dec_f hc13)) rfl ?_
      refine G.offU rfl rfl (not_t (dec_f hc13)) rfl ?_
      refine G.offU rfl rfl (not_t (dec_f hc13)) rfl ?_
      refine G.yl (yl_pick_t rfl (not_t (dec_f hc13)) rfl) rfl rfl rfl ?_
      refine G.yl (yl_move rfl) rfl rfl rfl ?_
      refine G.offU rfl rfl rfl rfl ?_
      refine G.offU rfl rfl rfl rfl ?_
      refine G.offU rfl rfl rfl rfl ?_
      refine G.yl (yl_pick_t rfl rfl rfl) rfl rfl rfl ?_
      refine G.nil ?_
      refine QA.then_normal ?_
      refine C.cond_t rfl rfl ?_
      refine C.seq ?_
      refine C.region ?_
      refine G.yl (yl_assign rfl) rfl rfl rfl ?_
      refine G.yl (yl_assign rfl) rfl rfl rfl ?_
      refine G.nil ?_
      refine QA.then_normal ?_
      refine C.ret ?_
      refine QA.then_ret ?_
      refine QA.ret2 rfl rfl rfl ?_
      obtain ⟨rfl, rfl⟩ := sp_ret2 hm
      exact ⟨rfl, (Sat.pick [] h8)⟩
  · refine G.offU rfl rfl (not_t (dec_f hc12)) rfl ?_
    refine G.offU rfl rfl (not_t (dec_f hc12)) rfl ?_
    refine G.offU rfl rfl (not_t (dec_f hc12)) rfl ?_
    refine G.yl (yl_pick_t rfl (not_t (dec_f hc12)) rfl) rfl rfl rfl ?_
    refine G.yl (yl_move rfl) rfl rfl rfl ?_
    refine G.offU rfl rfl rfl rfl ?_
    refine G.offU rfl rfl rfl rfl ?_
    refine G.offU rfl rfl rfl rfl ?_
    refine G.yl (yl_pick_t rfl rfl rfl) rfl rfl rfl ?_
    refine G.yl (yl_move rfl) rfl rfl rfl ?_
    refine G.offU rfl rfl rfl rfl ?_
    refine G.offU rfl rfl rfl rfl ?_
    refine G.offU rfl rfl rfl rfl ?_
    refine G.yl (yl_pick_t rfl rfl rfl) rfl rfl rfl ?_
    refine G.nil ?_
    refine QA.then_normal ?_
    refine C.cond_t rfl rfl ?_
    refine C.seq ?_
    refine C.region ?_
    refine G.yl (yl_assign rfl) rfl rfl rfl ?_
    refine G.yl (yl_assign rfl) rfl rfl rfl ?_
    refine G.nil ?_
    refine QA.then_normal ?_
    refine C.ret ?_
    refine QA.then_ret ?_
    refine QA.ret2 rfl rfl rfl ?_
    obtain ⟨rfl, rfl⟩ := sp_ret2 hm
    exact ⟨rfl, (Sat.pick [] h8)⟩
set_option maxRecDepth 20000 in
set_option maxHeartbeats 1000000 in
theorem M_signpostlaw10_ServiceJoins_w {W : Base} {w : World} {a : List UInt8} {b : List UInt8} {c : List UInt8} {s : List UInt8}  (h : Sat W w []) {r1 : Bool} (hm : M_signpostlaw10_ServiceJoins a b c s = some r1) :
    Calls Tryd.prog 3 #[(.string (str a)), (.string (str b)), (.string (str c)), (.string (str s))] w (Ret fun v w' => v = (.bool r1) ∧ Sat W w' []) := by
  unfold M_signpostlaw10_ServiceJoins at hm
  refine C.enter (N := 113) Tryd.func3 rfl Tryd.ntmps3 rfl ?_
  show C _ _ _ [(0, (.string (str a))), (1, (.string (str b))), (2, (.string (str c))), (3, (.string (str s)))] _ _
  refine C.seq ?_
  refine C.region ?_
  refine G.yl (yl_assign rfl) rfl rfl rfl ?_
  refine G.nil ?_
  refine QA.then_normal ?_
  refine C.seq ?_
  refine C.seq ?_
  refine C.region ?_
  refine G.yl (yl_move rfl) rfl rfl rfl ?_
  refine G.yl (yl_slenE Tryd.underlying9 rfl) rfl rfl rfl ?_
  refine G.yl (yl_move rfl) rfl rfl rfl ?_
  refine G.yl (yl_slenE Tryd.underlying9 rfl) rfl rfl rfl ?_
  obtain ⟨hc1, hm⟩ := sp_chk hm
  refine G.yl (yl_addI rfl rfl hc1) rfl rfl rfl ?_
  refine G.yl (yl_move rfl) rfl rfl rfl ?_
  refine G.yl (yl_slenE Tryd.underlying9 rfl) rfl rfl rfl ?_
  obtain ⟨hc2, hm⟩ := sp_chk hm
  refine G.yl (yl_addI rfl rfl hc2) rfl rfl rfl ?_
  refine G.yl (yl_move rfl) rfl rfl rfl ?_
  refine G.yl (yl_slenE Tryd.underlying9 rfl) rfl rfl rfl ?_
  obtain ⟨hc3, hm⟩ := sp_chk hm
  refine G.yl (yl_addI rfl rfl hc3) rfl rfl rfl ?_
  refine G.yl (yl_gtI rfl rfl) rfl rfl rfl ?_
  refine G.nil ?_
  refine QA.then_normal ?_
  rcases sp_ite hm with ⟨hc4, hm⟩ | ⟨hc4, hm⟩
  · refine C.cond_t rfl (dec_t hc4) ?_
    refine C.seq ?_
    refine C.region ?_
    obtain ⟨r1_2, hy5, hm⟩ := sp_bind hm
    refine G.does (does_fn 0 rfl rfl rfl en4 h (fun U hU hp hr hs => M_signpostlaw10_lives_w hp hy5)) rfl rfl rfl ?_
    rintro _ w6 ⟨U9, hb10, rfl, h8⟩
    have h7 : Sat W w6 [] := hb10 h8
    refine G.yl (yl_assign rfl) rfl rfl rfl ?_
    refine G.nil ?_
    refine QA.then_normal ?_
    refine C.ret ?_
    refine QA.then_ret ?_
    refine QA.ret1 rfl rfl ?_
    obtain rfl := sp_ret1 hm
    exact ⟨rfl, (Sat.pick [] h7)⟩
  · refine C.cond_f rfl (dec_f hc4) ?_
    refine C.skip ?_
    refine QA.then_normal ?_
    refine C.seq ?_
    refine C.region ?_
    refine G.yl (yl_move rfl) rfl rfl rfl ?_
    refine G.yl (yl_move rfl) rfl rfl rfl ?_
    refine G.yl (yl_move rfl) rfl rfl rfl ?_
    obtain ⟨⟨r1_3, r2_2⟩, hy11, hm⟩ := sp_bind hm
    refine G.does (does_fn 0 rfl rfl rfl en5 h (fun U hU hp hr hs => M_service_Join_w (service := a) (proto := b) (domain := c) hp hy11)) rfl rfl rfl ?_
    rintro _ w12 ⟨U15, hb16, rfl, h14⟩
    have h13 : Sat W w12 [] := hb16 h14
    refine G.yl (yl_move rfl) rfl rfl rfl ?_
    refine G.yl (yl_extract rfl rfl) rfl rfl rfl ?_
    refine G.yl (yl_extract rfl rfl) rfl rfl rfl ?_
    refine G.yl (yl_assign rfl) rfl rfl rfl ?_
    refine G.yl (yl_assign rfl) rfl rfl rfl ?_
    refine G.nil ?_
    refine QA.then_normal ?_
    refine C.seq ?_
    refine C.region ?_
    refine G.yl (yl_move rfl) rfl rfl rfl ?_
    refine G.yl (yl_move rfl) rfl rfl rfl ?_
    refine G.yl (yl_move rfl) rfl rfl rfl ?_
    obtain ⟨⟨r1_4, r2_3⟩, hy17, hm⟩ := sp_bind hm
    refine G.does (does_fn 0 rfl rfl rfl en6 h13 (fun U hU hp hr hs => M_signpostref10_Join_w (service := a) (proto := b) (domain := c) hp hy17)) rfl rfl rfl ?_
    rintro _ w18 ⟨U21, hb22, rfl, h20⟩
    have h19 : Sat W w18 [] := hb22 h20
    refine G.yl (yl_move rfl) rfl rfl rfl ?_
    refine G.yl (yl_extract rfl rfl) rfl rfl rfl ?_
    refine G.yl (yl_extract rfl rfl) rfl rfl rfl ?_
    refine G.yl (yl_assign rfl) rfl rfl rfl ?_
    refine G.yl (yl_assign rfl) rfl rfl rfl ?_
    refine G.nil ?_
    refine QA.then_normal ?_
    refine C.seq ?_
    refine C.join (γ := Bool) (fun g => match g with | t57 => [(0, (.string (str a))), (1, (.string (str b))), (2, (.string (str c))), (3, (.string (str s))), (8, (.bool false)), (9, (.string (str r1_3))), (10, (vI r2_2)), (57, (.bool t57))]) (fun g ww => match g with | t57 => (M_signpostlaw10_ServiceJoins_k1 a b c r1_3 r2_2 s t57 = some r1) ∧ Sat W ww []) ?_ ?_
    · refine C.region ?_
      refine G.yl (yl_move rfl) rfl rfl rfl ?_
      refine G.yl (yl_move rfl) rfl rfl rfl ?_
      refine G.yl (yl_neS rfl rfl) rfl rfl rfl ?_
      refine G.yl (yl_move rfl) rfl rfl rfl ?_
      rcases sp_ite hm with ⟨hc23, hm⟩ | ⟨hc23, hm⟩
      · refine G.on rfl rfl (not_f (dec_t hc23)) ?_
        refine G.yl (yl_move rfl) rfl rfl rfl ?_
        refine G.on rfl rfl (not_f (dec_t hc23)) ?_
        refine G.yl (yl_move rfl) rfl rfl rfl ?_
        refine G.on rfl rfl (not_f (dec_t hc23)) ?_
        refine G.yl (yl_neI rfl rfl) rfl rfl rfl ?_
        refine G.yl (yl_pick_f rfl (not_f (dec_t hc23)) rfl) rfl rfl rfl ?_
        refine G.nil ?_
        exact QA.join (!(decide (r2_2 = r2_3))) (Sub.of ⟨rfl, rfl, rfl, rfl, rfl, rfl, rfl, rfl, trivial⟩) ⟨hm, (Sat.pick [] h19)⟩
      · refine G.offU rfl rfl (not_t (dec_f hc23)) rfl ?_
        refine G.offU rfl rfl (not_t (dec_f hc23)) rfl ?_
        refine G.offU rfl rfl (not_t (dec_f hc23)) rfl ?_
        refine G.yl (yl_pick_t rfl (not_t (dec_f hc23)) rfl) rfl rfl rfl ?_
        refine G.nil ?_
        exact QA.join true (Sub.of ⟨rfl, rfl, rfl, rfl, rfl, rfl, rfl, rfl, trivial⟩) ⟨hm, (Sat.pick [] h19)⟩
    · rintro t57 w24 ⟨hm, h25⟩
      show C _ _ _ [(0, (.string (str a))), (1, (.string (str b))), (2, (.string (str c))), (3, (.string (str s))), (8, (.bool false)), (9, (.string (str r1_3))), (10, (vI r2_2)), (57, (.bool t57))] _ _
      unfold M_signpostlaw10_ServiceJoins_k1 at hm
      rcases sp_b hm with ⟨hc26, hm⟩ | ⟨hc26, hm⟩
      · refine C.cond_t rfl hc26 ?_
        refine C.seq ?_
        refine C.region ?_
        refine G.yl (yl_assign rfl) rfl rfl rfl ?_
        refine G.nil ?_
        refine QA.then_normal ?_
        refine C.ret ?_
        refine QA.then_ret ?_
        refine QA.ret1 rfl rfl ?_
        obtain rfl := sp_ret1 hm
        exact ⟨rfl, (Sat.pick [] h25)⟩
      · refine C.cond_f rfl hc26 ?_
        refine C.skip ?_
        refine QA.then_normal ?_
        refine C.join (γ := Unit) (fun g => match g with | () => [(3, (.string (str s))), (8, (.bool false))]) (fun g ww => match g with | () => (M_signpostlaw10_ServiceJoins_k2 s = some r1) ∧ Sat W ww []) ?_ ?_
        · refine C.seq ?_
          refine C.region ?_
          refine G.yl (yl_move rfl) rfl rfl rfl ?_
          obtain ⟨⟨r1_5, r2_4, r3_2, r4_2⟩, hy27, hm⟩ := sp_bind hm
          refine G.does (does_fn 0 rfl rfl rfl en7 h25 (fun U hU hp hr hs => M_service_Split_w (s := r1_3) hp hy27)) rfl rfl rfl ?_
          rintro _ w28 ⟨U31, hb32, rfl, h30⟩
          have h29 : Sat W w28 [] := hb32 h30
          refine G.yl (yl_move rfl) rfl rfl rfl ?_
          refine G.yl (yl_extract rfl rfl) rfl rfl rfl ?_
          refine G.yl (yl_extract rfl rfl) rfl rfl rfl ?_
          refine G.yl (yl_extract rfl rfl) rfl rfl rfl ?_
          refine G.yl (yl_extract rfl rfl) rfl rfl rfl ?_
          refine G.yl (yl_assign rfl) rfl rfl rfl ?_
          refine G.yl (yl_assign rfl) rfl rfl rfl ?_
          refine G.yl (yl_assign rfl) rfl rfl rfl ?_
          refine G.yl (yl_assign rfl) rfl rfl rfl ?_
          refine G.nil ?_
          refine QA.then_normal ?_
          refine C.seq ?_
          refine C.region ?_
          refine G.yl (yl_move rfl) rfl rfl rfl ?_
          refine G.yl (yl_eqI rfl rfl) rfl rfl rfl ?_
          refine G.yl (yl_move rfl) rfl rfl rfl ?_
          rcases sp_ite hm with ⟨hc33, hm⟩ | ⟨hc33, hm⟩
          · refine G.on rfl rfl (dec_t hc33) ?_
            refine G.yl (yl_move rfl) rfl rfl rfl ?_
            refine G.on rfl rfl (dec_t hc33) ?_
            refine G.yl (yl_move rfl) rfl rfl rfl ?_
            refine G.on rfl rfl (dec_t hc33) ?_
            refine G.yl (yl_neS rfl rfl) rfl rfl rfl ?_
            refine G.on rfl rfl (dec_t hc33) ?_
            refine G.yl (yl_move rfl) rfl rfl rfl ?_
            rcases sp_ite hm with ⟨hc34, hm⟩ | ⟨hc34, hm⟩
            · refine G.on rfl rfl (not_f (dec_t hc34)) ?_
              refine G.yl (yl_move rfl) rfl rfl rfl ?_
              refine G.on rfl rfl (not_f (dec_t hc34)) ?_
              refine G.yl (yl_move rfl) rfl rfl rfl ?_
              refine G.on rfl rfl (not_f (dec_t hc34)) ?_
              refine G.yl (yl_neS rfl rfl) rfl rfl rfl ?_
              refine G.on rfl rfl (dec_t hc33) ?_
              refine G.yl (yl_pick_f rfl (not_f (dec_t hc34)) rfl) rfl rfl rfl ?_
              refine G.on rfl rfl (dec_t hc33) ?_
              refine G.yl (yl_move rfl) rfl rfl rfl ?_
              rcases sp_ite hm with ⟨hc35, hm⟩ | ⟨hc35, hm⟩
              · refine G.on rfl rfl (not_f (dec_t hc35)) ?_
                refine G.yl (yl_move rfl) rfl rfl rfl ?_
                refine G.on rfl rfl (not_f (dec_t hc35)) ?_
                refine G.yl (yl_move rfl) rfl rfl rfl ?_
                refine G.on rfl rfl (not_f (dec_t hc35)) ?_
                refine G.yl (yl_neS rfl rfl) rfl rfl rfl ?_
                refine G.on rfl rfl (dec_t hc33) ?_
                refine G.yl (yl_pick_f rfl (not_f (dec_t hc35)) rfl) rfl rfl rfl ?_
                refine G.on rfl rfl (dec_t hc33) ?_
                refine G.yl (yl_move rfl) rfl rfl rfl ?_
                rcases sp_ite hm with ⟨hc36, hm⟩ | ⟨hc36, hm⟩
                · refine G.on rfl rfl (not_f (dec_t hc36)) ?_
                  refine G.yl (yl_move rfl) rfl rfl rfl ?_
                  refine G.on rfl rfl (not_f (dec_t hc36)) ?_
                  refine G.yl (yl_neI rfl rfl) rfl rfl rfl ?_
                  refine G.on rfl rfl (dec_t hc33) ?_
                  refine G.yl (yl_pick_f rfl (not_f (dec_t hc36)) rfl) rfl rfl rfl ?_
                  refine G.yl (yl_pick_t rfl (dec_t hc33) rfl) rfl rfl rfl ?_
                  refine G.nil ?_
                  refine QA.then_normal ?_
                  rcases sp_ite hm with ⟨hc37, hm⟩ | ⟨hc37, hm⟩
                  · refine C.cond_f rfl (not_f (dec_t hc37)) ?_
                    refine C.skip ?_
                    exact QA.join () (Sub.of ⟨rfl, rfl, trivial⟩) ⟨hm, (Sat.pick [] h29)⟩
                  · refine C.cond_t rfl (not_t (dec_f hc37)) ?_
                    refine C.seq ?_
                    refine C.region ?_
                    refine G.yl (yl_assign rfl) rfl rfl rfl ?_
                    refine G.nil ?_
                    refine QA.then_normal ?_
                    refine C.ret ?_
                    refine QA.then_ret ?_
                    refine QA.ret1 rfl rfl ?_
                    obtain rfl := sp_ret1 hm
                    exact ⟨rfl, (Sat.pick [] h29)⟩
                · refine G.offU rfl rfl (not_t (dec_f hc36)) rfl ?_
                  refine G.offU rfl rfl (not_t (dec_f hc36)) rfl ?_
                  refine G.on rfl rfl (dec_t hc33) ?_
                  refine G.yl (yl_pick_t rfl (not_t (dec_f hc36)) rfl) rfl rfl rfl ?_
                  refine G.yl (yl_pick_t rfl (dec_t hc33) rfl) rfl rfl rfl ?_
                  refine G.nil ?_
                  refine QA.then_normal ?_
                  refine C.cond_t rfl rfl ?_
                  refine C.seq ?_
                  refine C.region ?_
                  refine G.yl (yl_assign rfl) rfl rfl rfl ?_
                  refine G.nil ?_
                  refine QA.then_normal ?_
                  refine C.ret ?_
                  refine QA.then_ret ?_
                  refine QA.ret1 rfl rfl ?_
                  obtain rfl := sp_ret1 hm
                  exact ⟨rfl, (Sat.pick [] h29)⟩
              · refine G.offU rfl rfl (not_t (dec_f hc35)) rfl ?_
                refine G.offU rfl rfl (not_t (dec_f hc35)) rfl ?_
                refine G.offU rfl rfl (not_t (dec_f hc35)) rfl ?_
                refine G.on rfl rfl (dec_t hc33) ?_
                refine G.yl (yl_pick_t rfl (not_t (dec_f hc35)) rfl) rfl rfl rfl ?_
                refine G.on rfl rfl (dec_t hc33) ?_
                refine G.yl (yl_move rfl) rfl rfl rfl ?_
                refine G.offU rfl rfl rfl rfl ?_
                refine G.offU rfl rfl rfl rfl ?_
                refine G.on rfl rfl (dec_t hc33) ?_
                refine G.yl (yl_pick_t rfl rfl rfl) rfl rfl rfl ?_
                refine G.yl (yl_pick_t rfl (dec_t hc33) rfl) rfl rfl rfl ?_
                refine G.nil ?_
                refine QA.then_normal ?_
                refine C.cond_t rfl rfl ?_
                refine C.seq ?_
                refine C.region ?_
                refine G.yl (yl_assign rfl) rfl rfl rfl ?_
                refine G.nil ?_
                refine QA.then_normal ?_
                refine C.ret ?_
                refine QA.then_ret ?_
                refine QA.ret1 rfl rfl ?_
                obtain rfl := sp_ret1 hm
                exact ⟨rfl, (Sat.pick [] h29)⟩
            · refine G.offU rfl rfl (not_t (dec_f hc34)) rfl ?_
              refine G.offU rfl rfl (not_t (dec_f hc34)) rfl ?_
              refine G.offU rfl rfl (not_t (dec_f hc34)) rfl ?_
              refine G.on rfl rfl (dec_t hc33) ?_
              refine G.yl (yl_pick_t rfl (not_t (dec_f hc34)) rfl) rfl rfl rfl ?_
              refine G.on rfl rfl (dec_t hc33) ?_
              refine G.yl (yl_move rfl) rfl rfl rfl ?_
              refine G.offU rfl rfl rfl rfl ?_
              refine G.offU rfl rfl rfl rfl ?_
              refine G.offU rfl rfl rfl rfl ?_
              refine G.on rfl rfl (dec_t hc33) ?_
              refine G.yl (yl_pick_t rfl rfl rfl) rfl rfl rfl ?_
              refine G.on rfl rfl (dec_t hc33) ?_
              refine G.yl (yl_move rfl) rfl rfl rfl ?_
              refine G.offU rfl rfl rfl rfl ?_
              refine G.offU rfl rfl rfl rfl ?_
              refine G.on rfl rfl (dec_t hc33) ?_
              refine G.yl (yl_pick_t rfl rfl rfl) rfl rfl rfl ?_
              refine G.yl (yl_pick_t rfl (dec_t hc33) rfl) rfl rfl rfl ?_
              refine G.nil ?_
              refine QA.then_normal ?_
              refine C.cond_t rfl rfl ?_
              refine C.seq ?_
              refine C.region ?_
              refine G.yl (yl_assign rfl) rfl rfl rfl ?_
              refine G.nil ?_
              refine QA.then_normal ?_
              refine C.ret ?_
              refine QA.then_ret ?_
              refine QA.ret1 rfl rfl ?_
              obtain rfl := sp_ret1 hm
              exact ⟨rfl, (Sat.pick [] h29)⟩
          · refine G.offU rfl rfl (dec_f hc33) rfl ?_
            refine G.offU rfl rfl (dec_f hc33) rfl ?_
            refine G.offU rfl rfl (dec_f hc33) rfl ?_
            refine G.offU rfl rfl (dec_f hc33) rfl ?_
            refine G.offUU rfl rfl rfl ?_
            refine G.offUU rfl rfl rfl ?_
            refine G.offUU rfl rfl rfl ?_
            refine G.offU rfl rfl (dec_f hc33) rfl ?_
            refine G.offU rfl rfl (dec_f hc33) rfl ?_
            refine G.offUU rfl rfl rfl ?_
            refine G.offUU rfl rfl rfl ?_
            refine G.offUU rfl rfl rfl ?_
            refine G.offU rfl rfl (dec_f hc33) rfl ?_
            refine G.offU rfl rfl (dec_f hc33) rfl ?_
            refine G.offUU rfl rfl rfl ?_
            refine G.offUU rfl rfl rfl ?_
            refine G.offU rfl rfl (dec_f hc33) rfl ?_
            refine G.yl (yl_pick_f rfl (dec_f hc33) rfl) rfl rfl rfl ?_
            refine G.nil ?_
            refine QA.then_normal ?_
            refine C.cond_f rfl rfl ?_
            refine C.skip ?_
            exact QA.join () (Sub.of ⟨rfl, rfl, trivial⟩) ⟨hm, (Sat.pick [] h29)⟩
        · rintro _ w38 ⟨hm, h39⟩
          show C _ _ _ [(3, (.string (str s))), (8, (.bool false))] _ _
          unfold M_signpostlaw10_ServiceJoins_k2 at hm
          refine C.seq ?_
          refine C.seq ?_
          refine C.region ?_
          refine G.yl (yl_move rfl) rfl rfl rfl ?_
          obtain ⟨⟨r1_6, r2_5, r3_3, r4_3⟩, hy40, hm⟩ := sp_bind hm
          refine G.does (does_fn 0 rfl rfl rfl en7 h39 (fun U hU hp hr hs => M_service_Split_w (s := s) hp hy40)) rfl rfl rfl ?_
          rintro _ w41 ⟨U44, hb45, rfl, h43⟩
          have h42 : Sat W w41 [] := hb45 h43
          refine G.yl (yl_move rfl) rfl rfl rfl ?_
          refine G.yl (yl_extract rfl rfl) rfl rfl rfl ?_
          refine G.yl (yl_extract rfl rfl) rfl rfl rfl ?_
          refine G.yl (yl_extract rfl rfl) rfl rfl rfl ?_
          refine G.yl (yl_extract rfl rfl) rfl rfl rfl ?_
          refine G.yl (yl_assign rfl) rfl rfl rfl ?_
          refine G.yl (yl_assign rfl) rfl rfl rfl ?_
          refine G.yl (yl_assign rfl) rfl rfl rfl ?_
          refine G.yl (yl_assign rfl) rfl rfl rfl ?_
          refine G.nil ?_
          refine QA.then_normal ?_
          refine C.seq ?_
          refine C.region ?_
          refine G.yl (yl_move rfl) rfl rfl rfl ?_
          refine G.yl (yl_eqI rfl rfl) rfl rfl rfl ?_
          refine G.nil ?_
          refine QA.then_normal ?_
          rcases sp_ite hm with ⟨hc46, hm⟩ | ⟨hc46, hm⟩
          · refine C.cond_t rfl (dec_t hc46) ?_
            refine C.seq ?_
            refine C.region ?_
            refine G.yl (yl_move rfl) rfl rfl rfl ?_
            refine G.yl (yl_move rfl) rfl rfl rfl ?_
            refine G.yl (yl_move rfl) rfl rfl rfl ?_
            obtain ⟨⟨r1_7, r2_6⟩, hy47, hm⟩ := sp_bind hm
            refine G.does (does_fn 0 rfl rfl rfl en5 h42 (fun U hU hp hr hs => M_service_Join_w (service := r1_6) (proto := r2_5) (domain := r3_3) hp hy47)) rfl rfl rfl ?_
            rintro _ w48 ⟨U51, hb52, rfl, h50⟩
            have h49 : Sat W w48 [] := hb52 h50
            refine G.yl (yl_move rfl) rfl rfl rfl ?_
            refine G.yl (yl_extract rfl rfl) rfl rfl rfl ?_
            refine G.yl (yl_extract rfl rfl) rfl rfl rfl ?_
            refine G.yl (yl_assign rfl) rfl rfl rfl ?_
            refine G.yl (yl_assign rfl) rfl rfl rfl ?_
            refine G.nil ?_
            refine QA.then_normal ?_
            refine C.seq ?_
            refine C.region ?_
            refine G.yl (yl_move rfl) rfl rfl rfl ?_
            refine G.yl (yl_move rfl) rfl rfl rfl ?_
            refine G.yl (yl_eqS rfl rfl) rfl rfl rfl ?_
            refine G.yl (yl_move rfl) rfl rfl rfl ?_
            rcases sp_ite hm with ⟨hc53, hm⟩ | ⟨hc53, hm⟩
            · refine G.on rfl rfl (dec_t hc53) ?_
              refine G.yl (yl_move rfl) rfl rfl rfl ?_
              refine G.on rfl rfl (dec_t hc53) ?_
              refine G.yl (yl_eqI rfl rfl) rfl rfl rfl ?_
              refine G.yl (yl_pick_t rfl (dec_t hc53) rfl) rfl rfl rfl ?_
              refine G.yl (yl_move rfl) rfl rfl rfl ?_
              rcases sp_ite hm with ⟨hc54, hm⟩ | ⟨hc54, hm⟩
              · refine G.on rfl rfl (dec_t hc54) ?_
                obtain ⟨r1_8, hy55, hm⟩ := sp_bind hm
                refine G.does (does_fn 0 rfl rfl rfl en4 h49 (fun U hU hp hr hs => M_signpostlaw10_lives_w hp hy55)) rfl rfl rfl ?_
                rintro _ w56 ⟨U59, hb60, rfl, h58⟩
                have h57 : Sat W w56 [] := hb60 h58
                refine G.yl (yl_pick_t rfl (dec_t hc54) rfl) rfl rfl rfl ?_
                refine G.yl (yl_assign rfl) rfl rfl rfl ?_
                refine G.nil ?_
                refine QA.then_normal ?_
                refine C.ret ?_
                refine QA.then_ret ?_
                refine QA.ret1 rfl rfl ?_
                obtain rfl := sp_ret1 hm
                exact ⟨rfl, (Sat.pick [] h57)⟩
              · refine G.offU rfl rfl (dec_f hc54) rfl ?_
                refine G.yl (yl_pick_f rfl (dec_f hc54) rfl) rfl rfl rfl ?_
                refine G.yl (yl_assign rfl) rfl rfl rfl ?_
                refine G.nil ?_
                refine QA.then_normal ?_
                refine C.ret ?_
                refine QA.then_ret ?_
                refine QA.ret1 rfl rfl ?_
                obtain rfl := sp_ret1 hm
                exact ⟨rfl, (Sat.pick [] h49)⟩
            · refine G.offU rfl rfl (dec_f hc53) rfl ?_
              refine G.offU rfl rfl (dec_f hc53) rfl ?_
              refine G.yl (yl_pick_f rfl (dec_f hc53) rfl) rfl rfl rfl ?_
              refine G.yl (yl_move rfl) rfl rfl rfl ?_
              refine G.offU rfl rfl rfl rfl ?_
              refine G.yl (yl_pick_f rfl rfl rfl) rfl rfl rfl ?_
              refine G.yl (yl_assign rfl) rfl rfl rfl ?_
              refine G.nil ?_
              refine QA.then_normal ?_
              refine C.ret ?_
              refine QA.then_ret ?_
              refine QA.ret1 rfl rfl ?_
              obtain rfl := sp_ret1 hm
              exact ⟨rfl, (Sat.pick [] h49)⟩
          · refine C.cond_f rfl (dec_f hc46) ?_
            refine C.skip ?_
            refine QA.then_normal ?_
            refine C.seq ?_
            refine C.region ?_
            obtain ⟨r1_9, hy61, hm⟩ := sp_bind hm
            refine G.does (does_fn 0 rfl rfl rfl en4 h42 (fun U hU hp hr hs => M_signpostlaw10_lives_w hp hy61)) rfl rfl rfl ?_
            rintro _ w62 ⟨U65, hb66, rfl, h64⟩
            have h63 : Sat W w62 [] := hb66 h64
            refine G.yl (yl_assign rfl) rfl rfl rfl ?_
            refine G.nil ?_
            refine QA.then_normal ?_
            refine C.ret ?_
            refine QA.ret1 rfl rfl ?_
            obtain rfl := sp_ret1 hm
            exact ⟨rfl, (Sat.pick [] h63)⟩
end Go.Proofs.YtlkilokdbkjbmaaDoor
