/-
  That the functions of the program compute what their Lean functions say, part 4. No condition.
-/
import Derived.Test.YtlkilokdbkjbmaaRosterReadsW3
namespace Go.Proofs.Ytlkilokdbkjbmaa
open Go Go.RowKit
set_option linter.unusedVariables false
set_option linter.unusedSimpArgs false
set_option linter.unnecessarySimpa false
set_option maxRecDepth 20000 in
set_option maxHeartbeats 1000000 in
theorem M_signpostref09_Parts_w {W : Base} {w : World} {s : List UInt8}  (h : Sat W w []) {r3 : List (List UInt8)} (hm : M_signpostref09_Parts s = some r3) :
    Calls Try.prog 157 #[(.string (str s))] w (Ret fun v w' => ∃ r1 : Option Addr, ∃ r2 : Nat, v = (.slice r1 r3.length r2) ∧ Sat W w' [ow elStr r1 r2 9 r3]) := by
  unfold M_signpostref09_Parts at hm
  refine C.enter (N := 32) Try.func157 rfl Try.ntmps157 rfl ?_
  show C _ _ _ [(0, (.string (str s)))] _ _
  refine C.seq ?_
  refine C.region ?_
  refine G.yl (yl_assign rfl) rfl rfl rfl ?_
  refine G.nil ?_
  refine QA.then_normal ?_
  refine C.seq ?_
  refine C.region ?_
  refine G.yl (yl_assign rfl) rfl rfl rfl ?_
  refine G.nil ?_
  refine QA.then_normal ?_
  refine C.seq ?_
  refine C.region ?_
  refine G.yl (yl_assign rfl) rfl rfl rfl ?_
  refine G.nil ?_
  refine QA.then_normal ?_
  refine C.seq ?_
  refine C.seq ?_
  refine C.region ?_
  refine G.yl (yl_assign rfl) rfl rfl rfl ?_
  refine G.nil ?_
  refine QA.then_normal ?_
  refine C.block ?_
  obtain ⟨o, ho1, hm2⟩ := sp_bind hm
  refine C.left (γ := Option Addr × Nat × List (List UInt8)) (.exit 0) (fun g => match g with | (a_2, c_2, out_2) => [(2, (.slice none 0 0)), (3, (.slice a_2 out_2.length c_2))]) (fun g ww => match g with | (a_2, c_2, out_2) => out_2 = o ∧ Sat W ww [ow elStr a_2 c_2 9 out_2]) ?_ ?_
  · refine C.loopO (γ := Option Addr × Nat × List (List UInt8) × Int × Int) (fun g => match g with | (a, c, out, from_, i) => [(0, (.string (str s))), (2, (.slice none 0 0)), (3, (.slice a out.length c)), (4, (vI from_)), (5, (vI i))]) (fun g ww => match g with | (a, c, out, from_, i) => Sat W ww [ow elStr a c 9 out]) (fun g => match g with | (a, c, out, from_, i) => (out, from_, i)) (none, 0, ([] : List (List UInt8)), 0, 0) ho1 (Sub.of ⟨rfl, rfl, rfl, rfl, rfl, trivial⟩) (Sat.pick [0] (Sat.own_zero h elStr none 9)) ?_
    rintro ⟨a, c, out, from_, i⟩ k5 w3 y_ h4 hm hg6
    show C _ _ _ [(0, (.string (str s))), (2, (.slice none 0 0)), (3, (.slice a out.length c)), (4, (vI from_)), (5, (vI i))] _ _
    change M_signpostref09_Parts_b1 s out from_ i = some y_ at hm
    unfold M_signpostref09_Parts_b1 at hm
    refine C.seq ?_
    refine C.seq ?_
    refine C.region ?_
    refine G.yl (yl_move rfl) rfl rfl rfl ?_
    refine G.yl (yl_move rfl) rfl rfl rfl ?_
    refine G.yl (yl_slenE Try.underlying9 rfl) rfl rfl rfl ?_
    refine G.yl (yl_leI rfl rfl) rfl rfl rfl ?_
    refine G.nil ?_
    refine QA.then_normal ?_
    rcases sp_ite hm with ⟨hc7, hm⟩ | ⟨hc7, hm⟩
    · refine C.cond_t rfl (dec_t hc7) ?_
      refine C.skip ?_
      refine QA.then_normal ?_
      refine C.seq ?_
      refine C.block ?_
      refine C.join (γ := Bool) (fun g => match g with | t21 => [(0, (.string (str s))), (2, (.slice none 0 0)), (3, (.slice a out.length c)), (4, (vI from_)), (5, (vI i)), (21, (.bool t21))]) (fun g ww => match g with | t21 => (M_signpostref09_Parts_k2 from_ i out s t21 = some y_) ∧ Sat W ww [ow elStr a c 9 out]) ?_ ?_
      · refine C.region ?_
        refine G.yl (yl_move rfl) rfl rfl rfl ?_
        refine G.yl (yl_move rfl) rfl rfl rfl ?_
        refine G.yl (yl_slenE Try.underlying9 rfl) rfl rfl rfl ?_
        refine G.yl (yl_eqI rfl rfl) rfl rfl rfl ?_
        refine G.yl (yl_move rfl) rfl rfl rfl ?_
        rcases sp_ite hm with ⟨hc8, hm⟩ | ⟨hc8, hm⟩
        · refine G.offU rfl rfl (dec_t hc8) rfl ?_
          refine G.offU rfl rfl (dec_t hc8) rfl ?_
          refine G.offU rfl rfl (dec_t hc8) rfl ?_
          refine G.offU rfl rfl (dec_t hc8) rfl ?_
          refine G.yl (yl_pick_t rfl (dec_t hc8) rfl) rfl rfl rfl ?_
          refine G.nil ?_
          exact QA.join true (Sub.of ⟨rfl, rfl, rfl, rfl, rfl, rfl, trivial⟩) ⟨hm, (Sat.pick [0] h4)⟩
        · refine G.on rfl rfl (dec_f hc8) ?_
          refine G.yl (yl_move rfl) rfl rfl rfl ?_
          refine G.on rfl rfl (dec_f hc8) ?_
          refine G.yl (yl_move rfl) rfl rfl rfl ?_
          refine G.on rfl rfl (dec_f hc8) ?_
          obtain ⟨c_3, hy9, hm⟩ := sp_bind hm
          refine G.yl (yl_ixS Try.underlying9 rfl rfl hy9) rfl rfl rfl ?_
          refine G.on rfl rfl (dec_f hc8) ?_
          refine G.yl (yl_eq8 (b := 46) rfl rfl) rfl rfl rfl ?_
          refine G.yl (yl_pick_f rfl (dec_f hc8) rfl) rfl rfl rfl ?_
          refine G.nil ?_
          exact QA.join (decide (c_3 = 46)) (Sub.of ⟨rfl, rfl, rfl, rfl, rfl, rfl, trivial⟩) ⟨hm, (Sat.pick [0] h4)⟩
      · rintro t21 w10 ⟨hm, h11⟩
        show C _ _ _ [(0, (.string (str s))), (2, (.slice none 0 0)), (3, (.slice a out.length c)), (4, (vI from_)), (5, (vI i)), (21, (.bool t21))] _ _
        unfold M_signpostref09_Parts_k2 at hm
        rcases sp_b hm with ⟨hc12, hm⟩ | ⟨hc12, hm⟩
        · refine C.cond_t rfl hc12 ?_
          refine C.seq ?_
          refine C.region ?_
          refine G.yl (yl_move rfl) rfl rfl rfl ?_
          refine G.yl (yl_move rfl) rfl rfl rfl ?_
          refine G.yl (yl_move rfl) rfl rfl rfl ?_
          refine G.yl (yl_move rfl) rfl rfl rfl ?_
          obtain ⟨hc13, hm⟩ := sp_chk hm
          refine G.yl (yl_slLHS Try.underlying9 rfl rfl rfl hc13) rfl rfl rfl ?_
          refine G.does (does_lit (E := elStr) (l := [(s.take i.toNat).drop from_.toNat]) (vs := [(.string (str ((s.take i.toNat).drop from_.toNat)))]) (cs := [(.string (str ((s.take i.toNat).drop from_.toNat)))]) (e := 9) h11 rfl (by kernel_rfl) rfl rfl (by decide)) rfl rfl rfl ?_
          rintro _ w15 ⟨a14, rfl, h16⟩
          obtain ⟨hc17, hm⟩ := sp_chk hm
          refine G.does (does_app (E := elStr) (l := out) (l2 := [(s.take i.toNat).drop from_.toNat]) Try.underlying81 el9 (Sat.pick [1, 0] h16) rfl rfl rfl rfl (by decide) (Sat.own_view h16) hc17 (by decide)) rfl rfl rfl ?_
          rintro _ w20 ⟨a18, c19, rfl, h21⟩
          refine G.yl (yl_assign rfl) rfl rfl rfl ?_
          refine G.nil ?_
          refine QA.then_normal ?_
          refine C.region ?_
          refine G.yl (yl_move rfl) rfl rfl rfl ?_
          obtain ⟨hc22, hm⟩ := sp_chk hm
          refine G.yl (yl_addI rfl rfl hc22) rfl rfl rfl ?_
          refine G.yl (yl_assign rfl) rfl rfl rfl ?_
          refine G.nil ?_
          refine QA.block_normal ?_
          refine QA.then_normal ?_
          refine C.region ?_
          refine G.yl (yl_move rfl) rfl rfl rfl ?_
          obtain ⟨hc23, hm⟩ := sp_chk hm
          refine G.yl (yl_addI rfl rfl hc23) rfl rfl rfl ?_
          refine G.yl (yl_assign rfl) rfl rfl rfl ?_
          refine G.nil ?_
          obtain rfl := sp_ret1 hm
          exact QA.againO (a18, c19, out ++ [(s.take i.toNat).drop from_.toNat], i + 1, i + 1) hg6 (Sub.of ⟨rfl, rfl, rfl, rfl, rfl, trivial⟩) (Sat.pick [0] h21)
        · refine C.cond_f rfl hc12 ?_
          refine C.skip ?_
          refine QA.block_normal ?_
          refine QA.then_normal ?_
          refine C.region ?_
          refine G.yl (yl_move rfl) rfl rfl rfl ?_
          obtain ⟨hc24, hm⟩ := sp_chk hm
          refine G.yl (yl_addI rfl rfl hc24) rfl rfl rfl ?_
          refine G.yl (yl_assign rfl) rfl rfl rfl ?_
          refine G.nil ?_
          obtain rfl := sp_ret1 hm
          exact QA.againO (a, c, out, from_, i + 1) hg6 (Sub.of ⟨rfl, rfl, rfl, rfl, rfl, trivial⟩) (Sat.pick [0] h11)
    · refine C.cond_f rfl (dec_f hc7) ?_
      refine C.exit ?_
      refine QA.then_exit ?_
      refine QA.then_exit ?_
      obtain rfl := sp_ret1 hm
      exact QA.left (a, c, out) (Sub.of ⟨rfl, rfl, trivial⟩) ⟨hg6, (Sat.pick [0] h4)⟩
  · rintro ⟨a_2, c_2, out_2⟩ w25 ⟨rfl, h26⟩
    have hm := hm2
    show QA _ _ [(2, (.slice none 0 0)), (3, (.slice a_2 out_2.length c_2))] _ _
    refine QA.block_here ?_
    refine QA.then_normal ?_
    refine C.seq ?_
    refine C.region ?_
    refine G.yl (yl_move rfl) rfl rfl rfl ?_
    refine G.yl (yl_assign rfl) rfl rfl rfl ?_
    refine G.nil ?_
    refine QA.then_normal ?_
    refine C.ret ?_
    refine QA.ret1 rfl rfl ?_
    obtain rfl := sp_ret1 hm
    exact ⟨a_2, c_2, rfl, (Sat.pick [0] h26)⟩
set_option maxRecDepth 20000 in
set_option maxHeartbeats 1000000 in
theorem M_signpostref09_letter_w {W : Base} {w : World} {b : UInt8}  (h : Sat W w []) {r1 : Bool} (hm : M_signpostref09_letter b = some r1) :
    Calls Try.prog 97 #[(v8 b)] w (Ret fun v w' => v = (.bool r1) ∧ Sat W w' []) := by
  unfold M_signpostref09_letter at hm
  refine C.enter (N := 17) Try.func97 rfl Try.ntmps97 rfl ?_
  show C _ _ _ [(0, (v8 b))] _ _
  refine C.seq ?_
  refine C.region ?_
  refine G.yl (yl_assign rfl) rfl rfl rfl ?_
  refine G.nil ?_
  refine QA.then_normal ?_
  refine C.seq ?_
  refine C.region ?_
  refine G.yl (yl_move rfl) rfl rfl rfl ?_
  refine G.yl (yl_ge8 (b := 97) rfl rfl) rfl rfl rfl ?_
  refine G.yl (yl_move rfl) rfl rfl rfl ?_
  rcases sp_ite hm with ⟨hc1, hm⟩ | ⟨hc1, hm⟩
  · refine G.on rfl rfl (dec_t hc1) ?_
    refine G.yl (yl_move rfl) rfl rfl rfl ?_
    refine G.on rfl rfl (dec_t hc1) ?_
    refine G.yl (yl_le8 (b := 122) rfl rfl) rfl rfl rfl ?_
    refine G.yl (yl_pick_t rfl (dec_t hc1) rfl) rfl rfl rfl ?_
    refine G.yl (yl_move rfl) rfl rfl rfl ?_
    rcases sp_ite hm with ⟨hc2, hm⟩ | ⟨hc2, hm⟩
    · refine G.offU rfl rfl (dec_t hc2) rfl ?_
      refine G.offU rfl rfl (dec_t hc2) rfl ?_
      refine G.offU rfl rfl (dec_t hc2) rfl ?_
      refine G.offUU rfl rfl rfl ?_
      refine G.offUU rfl rfl rfl ?_
      refine G.offU rfl rfl (dec_t hc2) rfl ?_
      refine G.yl (yl_pick_t rfl (dec_t hc2) rfl) rfl rfl rfl ?_
      refine G.yl (yl_assign rfl) rfl rfl rfl ?_
      refine G.nil ?_
      refine QA.then_normal ?_
      refine C.ret ?_
      refine QA.ret1 rfl rfl ?_
      obtain rfl := sp_ret1 hm
      exact ⟨rfl, (Sat.pick [] h)⟩
    · refine G.on rfl rfl (dec_f hc2) ?_
      refine G.yl (yl_move rfl) rfl rfl rfl ?_
      refine G.on rfl rfl (dec_f hc2) ?_
      refine G.yl (yl_ge8 (b := 65) rfl rfl) rfl rfl rfl ?_
      refine G.on rfl rfl (dec_f hc2) ?_
      refine G.yl (yl_move rfl) rfl rfl rfl ?_
      rcases sp_ite hm with ⟨hc3, hm⟩ | ⟨hc3, hm⟩
      · refine G.on rfl rfl (dec_t hc3) ?_
        refine G.yl (yl_move rfl) rfl rfl rfl ?_
        refine G.on rfl rfl (dec_t hc3) ?_
        refine G.yl (yl_le8 (b := 90) rfl rfl) rfl rfl rfl ?_
        refine G.on rfl rfl (dec_f hc2) ?_
        refine G.yl (yl_pick_t rfl (dec_t hc3) rfl) rfl rfl rfl ?_
        refine G.yl (yl_pick_f rfl (dec_f hc2) rfl) rfl rfl rfl ?_
        refine G.yl (yl_assign rfl) rfl rfl rfl ?_
        refine G.nil ?_
        refine QA.then_normal ?_
        refine C.ret ?_
        refine QA.ret1 rfl rfl ?_
        obtain rfl := sp_ret1 hm
        exact ⟨rfl, (Sat.pick [] h)⟩
      · refine G.offU rfl rfl (dec_f hc3) rfl ?_
        refine G.offU rfl rfl (dec_f hc3) rfl ?_
        refine G.on rfl rfl (dec_f hc2) ?_
        refine G.yl (yl_pick_f rfl (dec_f hc3) rfl) rfl rfl rfl ?_
        refine G.yl (yl_pick_f rfl (dec_f hc2) rfl) rfl rfl rfl ?_
        refine G.yl (yl_assign rfl) rfl rfl rfl ?_
        refine G.nil ?_
        refine QA.then_normal ?_
        refine C.ret ?_
        refine QA.ret1 rfl rfl ?_
        obtain rfl := sp_ret1 hm
        exact ⟨rfl, (Sat.pick [] h)⟩
  · refine G.offU rfl rfl (dec_f hc1) rfl ?_
    refine G.offU rfl rfl (dec_f hc1) rfl ?_
    refine G.yl (yl_pick_f rfl (dec_f hc1) rfl) rfl rfl rfl ?_
    refine G.yl (yl_move rfl) rfl rfl rfl ?_
    refine G.on rfl rfl rfl ?_
    refine G.yl (yl_move rfl) rfl rfl rfl ?_
    refine G.on rfl rfl rfl ?_
    refine G.yl (yl_ge8 (b := 65) rfl rfl) rfl rfl rfl ?_
    refine G.on rfl rfl rfl ?_
    refine G.yl (yl_move rfl) rfl rfl rfl ?_
    rcases sp_ite hm with ⟨hc4, hm⟩ | ⟨hc4, hm⟩
    · refine G.on rfl rfl (dec_t hc4) ?_
      refine G.yl (yl_move rfl) rfl rfl rfl ?_
      refine G.on rfl rfl (dec_t hc4) ?_
      refine G.yl (yl_le8 (b := 90) rfl rfl) rfl rfl rfl ?_
      refine G.on rfl rfl rfl ?_
      refine G.yl (yl_pick_t rfl (dec_t hc4) rfl) rfl rfl rfl ?_
      refine G.yl (yl_pick_f rfl rfl rfl) rfl rfl rfl ?_
      refine G.yl (yl_assign rfl) rfl rfl rfl ?_
      refine G.nil ?_
      refine QA.then_normal ?_
      refine C.ret ?_
      refine QA.ret1 rfl rfl ?_
      obtain rfl := sp_ret1 hm
      exact ⟨rfl, (Sat.pick [] h)⟩
    · refine G.offU rfl rfl (dec_f hc4) rfl ?_
      refine G.offU rfl rfl (dec_f hc4) rfl ?_
      refine G.on rfl rfl rfl ?_
      refine G.yl (yl_pick_f rfl (dec_f hc4) rfl) rfl rfl rfl ?_
      refine G.yl (yl_pick_f rfl rfl rfl) rfl rfl rfl ?_
      refine G.yl (yl_assign rfl) rfl rfl rfl ?_
      refine G.nil ?_
      refine QA.then_normal ?_
      refine C.ret ?_
      refine QA.ret1 rfl rfl ?_
      obtain rfl := sp_ret1 hm
      exact ⟨rfl, (Sat.pick [] h)⟩
set_option maxRecDepth 20000 in
set_option maxHeartbeats 1000000 in
theorem M_signpostref09_Part_w {W : Base} {w : World} {s : List UInt8}  (h : Sat W w []) {r1 : Bool} (hm : M_signpostref09_Part s = some r1) :
    Calls Try.prog 48 #[(.string (str s))] w (Ret fun v w' => v = (.bool r1) ∧ Sat W w' []) := by
  unfold M_signpostref09_Part at hm
  refine C.enter (N := 61) Try.func48 rfl Try.ntmps48 rfl ?_
  show C _ _ _ [(0, (.string (str s)))] _ _
  refine C.seq ?_
  refine C.region ?_
  refine G.yl (yl_assign rfl) rfl rfl rfl ?_
  refine G.nil ?_
  refine QA.then_normal ?_
  refine C.seq ?_
  refine C.seq ?_
  refine C.region ?_
  refine G.yl (yl_assign rfl) rfl rfl rfl ?_
  refine G.nil ?_
  refine QA.then_normal ?_
  refine C.block ?_
  obtain ⟨o, ho1, hm2⟩ := sp_bind hm
  refine C.left (γ := Unit) (.exit 0) (fun g => match g with | () => [(0, (.string (str s))), (2, (.bool false))]) (fun g ww => match g with | () => .inl () = o ∧ Sat W ww []) ?_ ?_
  · refine C.loopO (γ := Int) (fun g => match g with | i => [(0, (.string (str s))), (2, (.bool false)), (3, (vI i))]) (fun g ww => match g with | i => Sat W ww []) (fun g => match g with | i => i) 0 ho1 (Sub.of ⟨rfl, rfl, rfl, trivial⟩) (Sat.pick [] h) ?_
    rintro i k5 w3 y_ h4 hm hg6
    show C _ _ _ [(0, (.string (str s))), (2, (.bool false)), (3, (vI i))] _ _
    change M_signpostref09_Part_b1 s i = some y_ at hm
    unfold M_signpostref09_Part_b1 at hm
    refine C.seq ?_
    refine C.seq ?_
    refine C.region ?_
    refine G.yl (yl_move rfl) rfl rfl rfl ?_
    refine G.yl (yl_move rfl) rfl rfl rfl ?_
    refine G.yl (yl_slenE Try.underlying9 rfl) rfl rfl rfl ?_
    refine G.yl (yl_ltI rfl rfl) rfl rfl rfl ?_
    refine G.nil ?_
    refine QA.then_normal ?_
    rcases sp_ite hm with ⟨hc7, hm⟩ | ⟨hc7, hm⟩
    · refine C.cond_t rfl (dec_t hc7) ?_
      refine C.skip ?_
      refine QA.then_normal ?_
      refine C.join (γ := Unit) (fun g => match g with | () => [(0, (.string (str s))), (2, (.bool false)), (3, (vI i))]) (fun g ww => match g with | () => (M_signpostref09_Part_k2 i = some y_) ∧ Sat W ww []) ?_ ?_
      · refine C.block ?_
        refine C.join (γ := Bool) (fun g => match g with | t39 => [(0, (.string (str s))), (2, (.bool false)), (3, (vI i)), (39, (.bool t39))]) (fun g ww => match g with | t39 => (M_signpostref09_Part_k3 i t39 = some y_) ∧ Sat W ww []) ?_ ?_
        · refine C.region ?_
          refine G.yl (yl_move rfl) rfl rfl rfl ?_
          refine G.yl (yl_move rfl) rfl rfl rfl ?_
          obtain ⟨c, hy8, hm⟩ := sp_bind hm
          refine G.yl (yl_ixS Try.underlying9 rfl rfl hy8) rfl rfl rfl ?_
          obtain ⟨r1_2, hy9, hm⟩ := sp_bind hm
          refine G.does (does_fn 0 rfl rfl rfl en97 h4 (fun U hU hp hr hs => M_signpostref09_letter_w (b := c) hp hy9)) rfl rfl rfl ?_
          rintro _ w10 ⟨U13, hb14, rfl, h12⟩
          have h11 : Sat W w10 [] := hb14 h12
          refine G.yl (yl_not rfl) rfl rfl rfl ?_
          refine G.yl (yl_move rfl) rfl rfl rfl ?_
          rcases sp_b hm with ⟨hc15, hm⟩ | ⟨hc15, hm⟩
          · refine G.offU rfl rfl (not_f hc15) rfl ?_
            refine G.offU rfl rfl (not_f hc15) rfl ?_
            refine G.offU rfl rfl (not_f hc15) rfl ?_
            refine G.offU rfl rfl (not_f hc15) rfl ?_
            refine G.offU rfl rfl (not_f hc15) rfl ?_
            refine G.offUU rfl rfl rfl ?_
            refine G.offUU rfl rfl rfl ?_
            refine G.offUU rfl rfl rfl ?_
            refine G.offUU rfl rfl rfl ?_
            refine G.offU rfl rfl (not_f hc15) rfl ?_
            refine G.offU rfl rfl (not_f hc15) rfl ?_
            refine G.yl (yl_pick_f rfl (not_f hc15) rfl) rfl rfl rfl ?_
            refine G.yl (yl_move rfl) rfl rfl rfl ?_
            refine G.offU rfl rfl rfl rfl ?_
            refine G.offU rfl rfl rfl rfl ?_
            refine G.offU rfl rfl rfl rfl ?_
            refine G.offU rfl rfl rfl rfl ?_
            refine G.yl (yl_pick_f rfl rfl rfl) rfl rfl rfl ?_
            refine G.yl (yl_move rfl) rfl rfl rfl ?_
            refine G.offU rfl rfl rfl rfl ?_
            refine G.offU rfl rfl rfl rfl ?_
            refine G.offU rfl rfl rfl rfl ?_
            refine G.offU rfl rfl rfl rfl ?_
            refine G.yl (yl_pick_f rfl rfl rfl) rfl rfl rfl ?_
            refine G.nil ?_
            exact QA.join false (Sub.of ⟨rfl, rfl, rfl, rfl, trivial⟩) ⟨hm, (Sat.pick [] h11)⟩
          · refine G.on rfl rfl (not_t hc15) ?_
            refine G.yl (yl_move rfl) rfl rfl rfl ?_
            refine G.on rfl rfl (not_t hc15) ?_
            refine G.yl (yl_move rfl) rfl rfl rfl ?_
            refine G.on rfl rfl (not_t hc15) ?_
            obtain ⟨c_2, hy16, hm⟩ := sp_bind hm
            refine G.yl (yl_ixS Try.underlying9 rfl rfl hy16) rfl rfl rfl ?_
            refine G.on rfl rfl (not_t hc15) ?_
            refine G.yl (yl_ge8 (b := 48) rfl rfl) rfl rfl rfl ?_
            refine G.on rfl rfl (not_t hc15) ?_
            refine G.yl (yl_move rfl) rfl rfl rfl ?_
            rcases sp_ite hm with ⟨hc17, hm⟩ | ⟨hc17, hm⟩
            · refine G.on rfl rfl (dec_t hc17) ?_
              refine G.yl (yl_move rfl) rfl rfl rfl ?_
              refine G.on rfl rfl (dec_t hc17) ?_
              refine G.yl (yl_move rfl) rfl rfl rfl ?_
              refine G.on rfl rfl (dec_t hc17) ?_
              obtain ⟨c_3, hy18, hm⟩ := sp_bind hm
              refine G.yl (yl_ixS Try.underlying9 rfl rfl hy18) rfl rfl rfl ?_
              refine G.on rfl rfl (dec_t hc17) ?_
              refine G.yl (yl_le8 (b := 57) rfl rfl) rfl rfl rfl ?_
              refine G.on rfl rfl (not_t hc15) ?_
              refine G.yl (yl_pick_t rfl (dec_t hc17) rfl) rfl rfl rfl ?_
              refine G.on rfl rfl (not_t hc15) ?_
              refine G.yl (yl_not rfl) rfl rfl rfl ?_
              refine G.yl (yl_pick_t rfl (not_t hc15) rfl) rfl rfl rfl ?_
              refine G.yl (yl_move rfl) rfl rfl rfl ?_
              rcases sp_ite hm with ⟨hc19, hm⟩ | ⟨hc19, hm⟩
              · refine G.offU rfl rfl (not_f (dec_t hc19)) rfl ?_
                refine G.offU rfl rfl (not_f (dec_t hc19)) rfl ?_
                refine G.offU rfl rfl (not_f (dec_t hc19)) rfl ?_
                refine G.offU rfl rfl (not_f (dec_t hc19)) rfl ?_
                refine G.yl (yl_pick_f rfl (not_f (dec_t hc19)) rfl) rfl rfl rfl ?_
                refine G.yl (yl_move rfl) rfl rfl rfl ?_
                refine G.offU rfl rfl rfl rfl ?_
                refine G.offU rfl rfl rfl rfl ?_
                refine G.offU rfl rfl rfl rfl ?_
                refine G.offU rfl rfl rfl rfl ?_
                refine G.yl (yl_pick_f rfl rfl rfl) rfl rfl rfl ?_
                refine G.nil ?_
                exact QA.join false (Sub.of ⟨rfl, rfl, rfl, rfl, trivial⟩) ⟨hm, (Sat.pick [] h11)⟩
              · refine G.on rfl rfl (not_t (dec_f hc19)) ?_
                refine G.yl (yl_move rfl) rfl rfl rfl ?_
                refine G.on rfl rfl (not_t (dec_f hc19)) ?_
                refine G.yl (yl_move rfl) rfl rfl rfl ?_
                refine G.on rfl rfl (not_t (dec_f hc19)) ?_
                obtain ⟨c_4, hy20, hm⟩ := sp_bind hm
                refine G.yl (yl_ixS Try.underlying9 rfl rfl hy20) rfl rfl rfl ?_
                refine G.on rfl rfl (not_t (dec_f hc19)) ?_
                refine G.yl (yl_ne8 (b := 45) rfl rfl) rfl rfl rfl ?_
                refine G.yl (yl_pick_t rfl (not_t (dec_f hc19)) rfl) rfl rfl rfl ?_
                refine G.yl (yl_move rfl) rfl rfl rfl ?_
                rcases sp_ite hm with ⟨hc21, hm⟩ | ⟨hc21, hm⟩
                · refine G.offU rfl rfl (not_f (dec_t hc21)) rfl ?_
                  refine G.offU rfl rfl (not_f (dec_t hc21)) rfl ?_
                  refine G.offU rfl rfl (not_f (dec_t hc21)) rfl ?_
                  refine G.offU rfl rfl (not_f (dec_t hc21)) rfl ?_
                  refine G.yl (yl_pick_f rfl (not_f (dec_t hc21)) rfl) rfl rfl rfl ?_
                  refine G.nil ?_
                  exact QA.join false (Sub.of ⟨rfl, rfl, rfl, rfl, trivial⟩) ⟨hm, (Sat.pick [] h11)⟩
                · refine G.on rfl rfl (not_t (dec_f hc21)) ?_
                  refine G.yl (yl_move rfl) rfl rfl rfl ?_
                  refine G.on rfl rfl (not_t (dec_f hc21)) ?_
                  refine G.yl (yl_move rfl) rfl rfl rfl ?_
                  refine G.on rfl rfl (not_t (dec_f hc21)) ?_
                  obtain ⟨c_5, hy22, hm⟩ := sp_bind hm
                  refine G.yl (yl_ixS Try.underlying9 rfl rfl hy22) rfl rfl rfl ?_
                  refine G.on rfl rfl (not_t (dec_f hc21)) ?_
                  refine G.yl (yl_ne8 (b := 95) rfl rfl) rfl rfl rfl ?_
                  refine G.yl (yl_pick_t rfl (not_t (dec_f hc21)) rfl) rfl rfl rfl ?_
                  refine G.nil ?_
                  exact QA.join (!(decide (c_5 = 95))) (Sub.of ⟨rfl, rfl, rfl, rfl, trivial⟩) ⟨hm, (Sat.pick [] h11)⟩
            · refine G.offU rfl rfl (dec_f hc17) rfl ?_
              refine G.offU rfl rfl (dec_f hc17) rfl ?_
              refine G.offU rfl rfl (dec_f hc17) rfl ?_
              refine G.offU rfl rfl (dec_f hc17) rfl ?_
              refine G.on rfl rfl (not_t hc15) ?_
              refine G.yl (yl_pick_f rfl (dec_f hc17) rfl) rfl rfl rfl ?_
              refine G.on rfl rfl (not_t hc15) ?_
              refine G.yl (yl_not rfl) rfl rfl rfl ?_
              refine G.yl (yl_pick_t rfl (not_t hc15) rfl) rfl rfl rfl ?_
              refine G.yl (yl_move rfl) rfl rfl rfl ?_
              refine G.on rfl rfl (not_t rfl) ?_
              refine G.yl (yl_move rfl) rfl rfl rfl ?_
              refine G.on rfl rfl (not_t rfl) ?_
              refine G.yl (yl_move rfl) rfl rfl rfl ?_
              refine G.on rfl rfl (not_t rfl) ?_
              obtain ⟨c_6, hy23, hm⟩ := sp_bind hm
              refine G.yl (yl_ixS Try.underlying9 rfl rfl hy23) rfl rfl rfl ?_
              refine G.on rfl rfl (not_t rfl) ?_
              refine G.yl (yl_ne8 (b := 45) rfl rfl) rfl rfl rfl ?_
              refine G.yl (yl_pick_t rfl (not_t rfl) rfl) rfl rfl rfl ?_
              refine G.yl (yl_move rfl) rfl rfl rfl ?_
              rcases sp_ite hm with ⟨hc24, hm⟩ | ⟨hc24, hm⟩
              · refine G.offU rfl rfl (not_f (dec_t hc24)) rfl ?_
                refine G.offU rfl rfl (not_f (dec_t hc24)) rfl ?_
                refine G.offU rfl rfl (not_f (dec_t hc24)) rfl ?_
                refine G.offU rfl rfl (not_f (dec_t hc24)) rfl ?_
                refine G.yl (yl_pick_f rfl (not_f (dec_t hc24)) rfl) rfl rfl rfl ?_
                refine G.nil ?_
                exact QA.join false (Sub.of ⟨rfl, rfl, rfl, rfl, trivial⟩) ⟨hm, (Sat.pick [] h11)⟩
              · refine G.on rfl rfl (not_t (dec_f hc24)) ?_
                refine G.yl (yl_move rfl) rfl rfl rfl ?_
                refine G.on rfl rfl (not_t (dec_f hc24)) ?_
                refine G.yl (yl_move rfl) rfl rfl rfl ?_
                refine G.on rfl rfl (not_t (dec_f hc24)) ?_
                obtain ⟨c_7, hy25, hm⟩ := sp_bind hm
                refine G.yl (yl_ixS Try.underlying9 rfl rfl hy25) rfl rfl rfl ?_
                refine G.on rfl rfl (not_t (dec_f hc24)) ?_
                refine G.yl (yl_ne8 (b := 95) rfl rfl) rfl rfl rfl ?_
                refine G.yl (yl_pick_t rfl (not_t (dec_f hc24)) rfl) rfl rfl rfl ?_
                refine G.nil ?_
                exact QA.join (!(decide (c_7 = 95))) (Sub.of ⟨rfl, rfl, rfl, rfl, trivial⟩) ⟨hm, (Sat.pick [] h11)⟩
        · rintro t39 w26 ⟨hm, h27⟩
          show C _ _ _ [(0, (.string (str s))), (2, (.bool false)), (3, (vI i)), (39, (.bool t39))] _ _
          unfold M_signpostref09_Part_k3 at hm
          rcases sp_b hm with ⟨hc28, hm⟩ | ⟨hc28, hm⟩
          · refine C.cond_t rfl hc28 ?_
            refine C.seq ?_
            refine C.region ?_
            refine G.yl (yl_assign rfl) rfl rfl rfl ?_
            refine G.nil ?_
            refine QA.then_normal ?_
            refine C.ret ?_
            refine QA.block_ret ?_
            refine QA.then_ret ?_
            refine QA.then_ret ?_
            refine QA.past (by simp) ?_
            refine QA.block_ret ?_
            refine QA.then_ret ?_
            refine QA.ret1 rfl rfl ?_
            obtain rfl := sp_ret1 hm
            obtain rfl : .inr false = o := hg6
            have hm : some false = some r1 := hm2
            obtain rfl := sp_ret1 hm
            exact ⟨rfl, (Sat.pick [] h27)⟩
          · refine C.cond_f rfl hc28 ?_
            refine C.skip ?_
            refine QA.block_normal ?_
            exact QA.join () (Sub.of ⟨rfl, rfl, rfl, trivial⟩) ⟨hm, (Sat.pick [] h27)⟩
      · rintro _ w29 ⟨hm, h30⟩
        show C _ _ _ [(0, (.string (str s))), (2, (.bool false)), (3, (vI i))] _ _
        unfold M_signpostref09_Part_k2 at hm
        refine C.region ?_
        refine G.yl (yl_move rfl) rfl rfl rfl ?_
        obtain ⟨hc31, hm⟩ := sp_chk hm
        refine G.yl (yl_addI rfl rfl hc31) rfl rfl rfl ?_
        refine G.yl (yl_assign rfl) rfl rfl rfl ?_
        refine G.nil ?_
        obtain rfl := sp_ret1 hm
        exact QA.againO (i + 1) hg6 (Sub.of ⟨rfl, rfl, rfl, trivial⟩) (Sat.pick [] h30)
    · refine C.cond_f rfl (dec_f hc7) ?_
      refine C.exit ?_
      refine QA.then_exit ?_
      refine QA.then_exit ?_
      obtain rfl := sp_ret1 hm
      exact QA.left () (Sub.of ⟨rfl, rfl, trivial⟩) ⟨hg6, (Sat.pick [] h4)⟩
  · rintro _ w32 ⟨rfl, h33⟩
    have hm := hm2
    show QA _ _ [(0, (.string (str s))), (2, (.bool false))] _ _
    refine QA.block_here ?_
    refine QA.then_normal ?_
    refine C.seq ?_
    refine C.region ?_
    refine G.yl (yl_move rfl) rfl rfl rfl ?_
    refine G.yl (yl_slenE Try.underlying9 rfl) rfl rfl rfl ?_
    refine G.yl (yl_geI rfl rfl) rfl rfl rfl ?_
    refine G.yl (yl_move rfl) rfl rfl rfl ?_
    rcases sp_ite hm with ⟨hc34, hm⟩ | ⟨hc34, hm⟩
    · refine G.on rfl rfl (dec_t hc34) ?_
      refine G.yl (yl_move rfl) rfl rfl rfl ?_
      refine G.on rfl rfl (dec_t hc34) ?_
      refine G.yl (yl_slenE Try.underlying9 rfl) rfl rfl rfl ?_
      refine G.on rfl rfl (dec_t hc34) ?_
      refine G.yl (yl_leI rfl rfl) rfl rfl rfl ?_
      refine G.yl (yl_pick_t rfl (dec_t hc34) rfl) rfl rfl rfl ?_
      refine G.yl (yl_move rfl) rfl rfl rfl ?_
      rcases sp_ite hm with ⟨hc35, hm⟩ | ⟨hc35, hm⟩
      · refine G.on rfl rfl (dec_t hc35) ?_
        refine G.yl (yl_move rfl) rfl rfl rfl ?_
        refine G.on rfl rfl (dec_t hc35) ?_
        obtain ⟨c_8, hy36, hm⟩ := sp_bind hm
        refine G.yl (yl_ixS Try.underlying9 rfl rfl hy36) rfl rfl rfl ?_
        refine G.on rfl rfl (dec_t hc35) ?_
        refine G.yl (yl_ne8 (b := 45) rfl rfl) rfl rfl rfl ?_
        refine G.yl (yl_pick_t rfl (dec_t hc35) rfl) rfl rfl rfl ?_
        refine G.yl (yl_move rfl) rfl rfl rfl ?_
        rcases sp_ite hm with ⟨hc37, hm⟩ | ⟨hc37, hm⟩
        · refine G.offU rfl rfl (not_f (dec_t hc37)) rfl ?_
          refine G.offU rfl rfl (not_f (dec_t hc37)) rfl ?_
          refine G.offU rfl rfl (not_f (dec_t hc37)) rfl ?_
          refine G.offU rfl rfl (not_f (dec_t hc37)) rfl ?_
          refine G.offU rfl rfl (not_f (dec_t hc37)) rfl ?_
          refine G.offU rfl rfl (not_f (dec_t hc37)) rfl ?_
          refine G.yl (yl_pick_f rfl (not_f (dec_t hc37)) rfl) rfl rfl rfl ?_
          refine G.yl (yl_assign rfl) rfl rfl rfl ?_
          refine G.nil ?_
          refine QA.then_normal ?_
          refine C.ret ?_
          refine QA.ret1 rfl rfl ?_
          obtain rfl := sp_ret1 hm
          exact ⟨rfl, (Sat.pick [] h33)⟩
        · refine G.on rfl rfl (not_t (dec_f hc37)) ?_
          refine G.yl (yl_move rfl) rfl rfl rfl ?_
          refine G.on rfl rfl (not_t (dec_f hc37)) ?_
          refine G.yl (yl_move rfl) rfl rfl rfl ?_
          refine G.on rfl rfl (not_t (dec_f hc37)) ?_
          refine G.yl (yl_slenE Try.underlying9 rfl) rfl rfl rfl ?_
          refine G.on rfl rfl (not_t (dec_f hc37)) ?_
          obtain ⟨hc38, hm⟩ := sp_chk hm
          refine G.yl (yl_subI rfl rfl hc38) rfl rfl rfl ?_
          refine G.on rfl rfl (not_t (dec_f hc37)) ?_
          obtain ⟨c_9, hy39, hm⟩ := sp_bind hm
          refine G.yl (yl_ixS Try.underlying9 rfl rfl hy39) rfl rfl rfl ?_
          refine G.on rfl rfl (not_t (dec_f hc37)) ?_
          refine G.yl (yl_ne8 (b := 45) rfl rfl) rfl rfl rfl ?_
          refine G.yl (yl_pick_t rfl (not_t (dec_f hc37)) rfl) rfl rfl rfl ?_
          refine G.yl (yl_assign rfl) rfl rfl rfl ?_
          refine G.nil ?_
          refine QA.then_normal ?_
          refine C.ret ?_
          refine QA.ret1 rfl rfl ?_
          obtain rfl := sp_ret1 hm
          exact ⟨rfl, (Sat.pick [] h33)⟩
      · refine G.offU rfl rfl (dec_f hc35) rfl ?_
        refine G.offU rfl rfl (dec_f hc35) rfl ?_
        refine G.offU rfl rfl (dec_f hc35) rfl ?_
        refine G.yl (yl_pick_f rfl (dec_f hc35) rfl) rfl rfl rfl ?_
        refine G.yl (yl_move rfl) rfl rfl rfl ?_
        refine G.offU rfl rfl rfl rfl ?_
        refine G.offU rfl rfl rfl rfl ?_
        refine G.offU rfl rfl rfl rfl ?_
        refine G.offU rfl rfl rfl rfl ?_
        refine G.offU rfl rfl rfl rfl ?_
        refine G.offU rfl rfl rfl rfl ?_
        refine G.yl (yl_pick_f rfl rfl rfl) rfl rfl rfl ?_
        refine G.yl (yl_assign rfl) rfl rfl rfl ?_
        refine G.nil ?_
        refine QA.then_normal ?_
        refine C.ret ?_
        refine QA.ret1 rfl rfl ?_
        obtain rfl := sp_ret1 hm
        exact ⟨rfl, (Sat.pick [] h33)⟩
    · refine G.offU rfl rfl (dec_f hc34) rfl ?_
      refine G.offU rfl rfl (dec_f hc34) rfl ?_
      refine G.offU rfl rfl (dec_f hc34) rfl ?_
      refine G.yl (yl_pick_f rfl (dec_f hc34) rfl) rfl rfl rfl ?_
      refine G.yl (yl_move rfl) rfl rfl rfl ?_
      refine G.offU rfl rfl rfl rfl ?_
      refine G.offU rfl rfl rfl rfl ?_
      refine G.offU rfl rfl rfl rfl ?_
      refine G.yl (yl_pick_f rfl rfl rfl) rfl rfl rfl ?_
      refine G.yl (yl_move rfl) rfl rfl rfl ?_
      refine G.offU rfl rfl rfl rfl ?_
      refine G.offU rfl rfl rfl rfl ?_
      refine G.offU rfl rfl rfl rfl ?_
      refine G.offU rfl rfl rfl rfl ?_
      refine G.offU rfl rfl rfl rfl ?_
      refine G.offU rfl rfl rfl rfl ?_
      refine G.yl (yl_pick_f rfl rfl rfl) rfl rfl rfl ?_
      refine G.yl (yl_assign rfl) rfl rfl rfl ?_
      refine G.nil ?_
      refine QA.then_normal ?_
      refine C.ret ?_
      refine QA.ret1 rfl rfl ?_
      obtain rfl := sp_ret1 hm
      exact ⟨rfl, (Sat.pick [] h33)⟩
set_option maxRecDepth 20000 in
set_option maxHeartbeats 1000000 in
theorem M_signpostref09_Good_w {W : Base} {w : World} {s : List UInt8}  (h : Sat W w []) {r1 : Bool} (hm : M_signpostref09_Good s = some r1) :
    Calls Try.prog 136 #[(.string (str s))] w (Ret fun v w' => v = (.bool r1) ∧ Sat W w' []) := by
  unfold M_signpostref09_Good at hm
  refine C.enter (N := 23) Try.func136 rfl Try.ntmps136 rfl ?_
  show C _ _ _ [(0, (.string (str s)))] _ _
  refine C.seq ?_
  refine C.region ?_
  refine G.yl (yl_assign rfl) rfl rfl rfl ?_
  refine G.nil ?_
  refine QA.then_normal ?_
  refine C.seq ?_
  refine C.region ?_
  refine G.yl (yl_move rfl) rfl rfl rfl ?_
  obtain ⟨r3_2, hy1, hm⟩ := sp_bind hm
  refine G.does (does_fn 0 rfl rfl rfl en157 h (fun U hU hp hr hs => M_signpostref09_Parts_w (s := s) hp hy1)) rfl rfl rfl ?_
  rintro _ w4 ⟨U7, hb8, r12, r23, rfl, h6⟩
  have h5 : Sat W w4 [ow elStr r12 r23 9 r3_2] := hb8 h6
  refine G.yl (yl_assign rfl) rfl rfl rfl ?_
  refine G.nil ?_
  refine QA.then_normal ?_
  refine C.seq ?_
  refine C.seq ?_
  refine C.region ?_
  refine G.yl (yl_assign rfl) rfl rfl rfl ?_
  refine G.nil ?_
  refine QA.then_normal ?_
  refine C.block ?_
  obtain ⟨o, ho9, hm10⟩ := sp_bind hm
  refine C.left (γ := Unit) (.exit 0) (fun g => match g with | () => [(0, (.string (str s))), (2, (.bool false))]) (fun g ww => match g with | () => .inl () = o ∧ Sat W ww []) ?_ ?_
  · refine C.loopO (γ := Int) (fun g => match g with | i => [(0, (.string (str s))), (2, (.bool false)), (3, (.slice r12 r3_2.length r23)), (4, (vI i))]) (fun g ww => match g with | i => Sat W ww [ow elStr r12 r23 9 r3_2]) (fun g => match g with | i => i) 0 ho9 (Sub.of ⟨rfl, rfl, rfl, rfl, trivial⟩) (Sat.pick [0] h5) ?_
    rintro i k13 w11 y_ h12 hm hg14
    show C _ _ _ [(0, (.string (str s))), (2, (.bool false)), (3, (.slice r12 r3_2.length r23)), (4, (vI i))] _ _
    change M_signpostref09_Good_b1 r3_2 i = some y_ at hm
    unfold M_signpostref09_Good_b1 at hm
    refine C.seq ?_
    refine C.seq ?_
    refine C.region ?_
    refine G.yl (yl_move rfl) rfl rfl rfl ?_
    refine G.yl (yl_move rfl) rfl rfl rfl ?_
    refine G.yl (yl_lenE Try.underlying81 rfl) rfl rfl rfl ?_
    refine G.yl (yl_ltI rfl rfl) rfl rfl rfl ?_
    refine G.nil ?_
    refine QA.then_normal ?_
    rcases sp_ite hm with ⟨hc15, hm⟩ | ⟨hc15, hm⟩
    · refine C.cond_t rfl (dec_t hc15) ?_
      refine C.skip ?_
      refine QA.then_normal ?_
      refine C.seq ?_
      refine C.block ?_
      refine C.seq ?_
      refine C.region ?_
      refine G.yl (yl_move rfl) rfl rfl rfl ?_
      refine G.yl (yl_move rfl) rfl rfl rfl ?_
      obtain ⟨x, hy16, hm⟩ := sp_bind hm
      refine G.yl (yl_ixP (l := r3_2) sl81 rfl rfl (View.isA (E := elStr) (Sat.own_view h12) (by decide) (at?_lt hy16)) rfl (at?_lt hy16)) rfl rfl rfl ?_
      refine G.yl (yl_ld1 (E := elStr) (v := (.string (str x))) ag9 rfl (Sat.own_view h12) (at?_some hy16).2 rfl) rfl rfl rfl ?_
      obtain ⟨r1_2, hy17, hm⟩ := sp_bind hm
      refine G.does (does_fn 0 rfl rfl rfl en48 h12 (fun U hU hp hr hs => M_signpostref09_Part_w (s := x) hp hy17)) rfl rfl rfl ?_
      rintro _ w18 ⟨U21, hb22, rfl, h20⟩
      have h19 : Sat W w18 [ow elStr r12 r23 9 r3_2] := hb22 h20
      refine G.yl (yl_not rfl) rfl rfl rfl ?_
      refine G.nil ?_
      refine QA.then_normal ?_
      rcases sp_b hm with ⟨hc23, hm⟩ | ⟨hc23, hm⟩
      · refine C.cond_f rfl (not_f hc23) ?_
        refine C.skip ?_
        refine QA.block_normal ?_
        refine QA.then_normal ?_
        refine C.region ?_
        refine G.yl (yl_move rfl) rfl rfl rfl ?_
        obtain ⟨hc24, hm⟩ := sp_chk hm
        refine G.yl (yl_addI rfl rfl hc24) rfl rfl rfl ?_
        refine G.yl (yl_assign rfl) rfl rfl rfl ?_
        refine G.nil ?_
        obtain rfl := sp_ret1 hm
        exact QA.againO (i + 1) hg14 (Sub.of ⟨rfl, rfl, rfl, rfl, trivial⟩) (Sat.pick [0] h19)
      · refine C.cond_t rfl (not_t hc23) ?_
        refine C.seq ?_
        refine C.region ?_
        refine G.yl (yl_assign rfl) rfl rfl rfl ?_
        refine G.nil ?_
        refine QA.then_normal ?_
        refine C.ret ?_
        refine QA.block_ret ?_
        refine QA.then_ret ?_
        refine QA.then_ret ?_
        refine QA.past (by simp) ?_
        refine QA.block_ret ?_
        refine QA.then_ret ?_
        refine QA.ret1 rfl rfl ?_
        obtain rfl := sp_ret1 hm
        obtain rfl : .inr false = o := hg14
        have hm : some false = some r1 := hm10
        obtain rfl := sp_ret1 hm
        exact ⟨rfl, (Sat.pick [] h19)⟩
    · refine C.cond_f rfl (dec_f hc15) ?_
      refine C.exit ?_
      refine QA.then_exit ?_
      refine QA.then_exit ?_
      obtain rfl := sp_ret1 hm
      exact QA.left () (Sub.of ⟨rfl, rfl, trivial⟩) ⟨hg14, (Sat.pick [] h12)⟩
  · rintro _ w25 ⟨rfl, h26⟩
    have hm := hm10
    show QA _ _ [(0, (.string (str s))), (2, (.bool false))] _ _
    refine QA.block_here ?_
    refine QA.then_normal ?_
    refine C.seq ?_
    refine C.region ?_
    refine G.yl (yl_move rfl) rfl rfl rfl ?_
    refine G.yl (yl_slenE Try.underlying9 rfl) rfl rfl rfl ?_
    obtain ⟨hc27, hm⟩ := sp_chk hm
    refine G.yl (yl_addI rfl rfl hc27) rfl rfl rfl ?_
    refine G.yl (yl_leI rfl rfl) rfl rfl rfl ?_
    refine G.yl (yl_assign rfl) rfl rfl rfl ?_
    refine G.nil ?_
    refine QA.then_normal ?_
    refine C.ret ?_
    refine QA.ret1 rfl rfl ?_
    obtain rfl := sp_ret1 hm
    exact ⟨rfl, (Sat.pick [] h26)⟩
set_option maxRecDepth 20000 in
set_option maxHeartbeats 1000000 in
theorem M_signpostref09_Fold_w {W : Base} {w : World} {s : List UInt8}  (h : Sat W w []) {r1 : List UInt8} (hm : M_signpostref09_Fold s = some r1) :
    Calls Try.prog 137 #[(.string (str s))] w (Ret fun v w' => v = (.string (str r1)) ∧ Sat W w' []) := by
  unfold M_signpostref09_Fold at hm
  refine C.enter (N := 36) Try.func137 rfl Try.ntmps137 rfl ?_
  show C _ _ _ [(0, (.string (str s)))] _ _
  refine C.seq ?_
  refine C.region ?_
  refine G.yl (yl_assign rfl) rfl rfl rfl ?_
  refine G.nil ?_
  refine QA.then_normal ?_
  refine C.seq ?_
  refine C.region ?_
  refine G.yl (yl_move rfl) rfl rfl rfl ?_
  obtain ⟨hc1, hm⟩ := sp_chk hm
  refine G.does (does_bytes h Try.underlying9 Try.underlying22 Try.underlying5 el5 rfl hc1) rfl rfl rfl ?_
  rintro _ w4 ⟨a2, c3, rfl, h5⟩
  refine G.yl (yl_assign rfl) rfl rfl rfl ?_
  refine G.nil ?_
  refine QA.then_normal ?_
  refine C.seq ?_
  refine C.seq ?_
  refine C.region ?_
  refine G.yl (yl_assign rfl) rfl rfl rfl ?_
  refine G.nil ?_
  refine QA.then_normal ?_
  refine C.block ?_
  obtain ⟨o, ho8, hm9⟩ := sp_bind hm
  refine C.left (γ := List UInt8) (.exit 0) (fun g => match g with | b_2 => [(2, (.string (str ([] : List UInt8)))), (3, (.slice a2 s.length c3))]) (fun g ww => match g with | b_2 => b_2 = o ∧ (b_2.length = s.length) ∧ Sat W ww [ow elU8 a2 c3 5 b_2]) ?_ ?_
  · refine C.loopO (γ := List UInt8 × Int) (fun g => match g with | (b, i) => [(2, (.string (str ([] : List UInt8)))), (3, (.slice a2 s.length c3)), (4, (vI i))]) (fun g ww => match g with | (b, i) => (b.length = s.length) ∧ Sat W ww [ow elU8 a2 c3 5 b]) (fun g => match g with | (b, i) => (b, i)) (s, 0) ho8 (Sub.of ⟨rfl, rfl, rfl, trivial⟩) ⟨(by simp [copyL_length]), (Sat.pick [0] h5)⟩ ?_
    rintro ⟨b, i⟩ k12 w10 y_ ⟨hl6, h11⟩ hm hg13
    show C _ _ _ [(2, (.string (str ([] : List UInt8)))), (3, (.slice a2 s.length c3)), (4, (vI i))] _ _
    change M_signpostref09_Fold_b1 s b i = some y_ at hm
    unfold M_signpostref09_Fold_b1 at hm
    refine C.seq ?_
    refine C.seq ?_
    refine C.region ?_
    refine G.yl (yl_move rfl) rfl rfl rfl ?_
    refine G.yl (yl_move rfl) rfl rfl rfl ?_
    refine G.yl (yl_lenE Try.underlying22 rfl) rfl rfl rfl ?_
    refine G.yl (yl_ltI rfl rfl) rfl rfl rfl ?_
    refine G.nil ?_
    refine QA.then_normal ?_
    rcases sp_ite hm with ⟨hc14, hm⟩ | ⟨hc14, hm⟩
    · refine C.cond_t rfl (dec_t hc14) ?_
      refine C.skip ?_
      refine QA.then_normal ?_
      refine C.seq ?_
      refine C.block ?_
      refine C.join (γ := Bool) (fun g => match g with | t24 => [(2, (.string (str ([] : List UInt8)))), (3, (.slice a2 s.length c3)), (4, (vI i)), (24, (.bool t24))]) (fun g ww => match g with | t24 => (M_signpostref09_Fold_k2 b i t24 = some y_) ∧ Sat W ww [ow elU8 a2 c3 5 b]) ?_ ?_
      · refine C.region ?_
        refine G.yl (yl_move rfl) rfl rfl rfl ?_
        refine G.yl (yl_move rfl) rfl rfl rfl ?_
        obtain ⟨x, hy15, hm⟩ := sp_bind hm
        refine G.yl (yl_ixP (l := b) sl22 rfl rfl (View.isA (E := elU8) (Sat.own_view h11) (by decide) (at?_lt hy15)) (by simp [copyL_length, hl6]) (at?_lt hy15)) rfl rfl rfl ?_
        refine G.yl (yl_ld1 (E := elU8) (v := (v8 x)) ag5 rfl (Sat.own_view h11) (at?_some hy15).2 rfl) rfl rfl rfl ?_
        refine G.yl (yl_ge8 (b := 65) rfl rfl) rfl rfl rfl ?_
        refine G.yl (yl_move rfl) rfl rfl rfl ?_
        rcases sp_ite hm with ⟨hc16, hm⟩ | ⟨hc16, hm⟩
        · refine G.on rfl rfl (dec_t hc16) ?_
          refine G.yl (yl_move rfl) rfl rfl rfl ?_
          refine G.on rfl rfl (dec_t hc16) ?_
          refine G.yl (yl_move rfl) rfl rfl rfl ?_
          refine G.on rfl rfl (dec_t hc16) ?_
          refine G.yl (yl_ixP (l := b) sl22 rfl rfl (View.isA (E := elU8) (Sat.own_view h11) (by decide) (at?_lt hy15)) (by simp [copyL_length, hl6]) (at?_lt hy15)) rfl rfl rfl ?_
          refine G.on rfl rfl (dec_t hc16) ?_
          refine G.yl (yl_ld1 (E := elU8) (v := (v8 x)) ag5 rfl (Sat.own_view h11) (at?_some hy15).2 rfl) rfl rfl rfl ?_
          refine G.on rfl rfl (dec_t hc16) ?_
          refine G.yl (yl_le8 (b := 90) rfl rfl) rfl rfl rfl ?_
          refine G.yl (yl_pick_t rfl (dec_t hc16) rfl) rfl rfl rfl ?_
          refine G.nil ?_
          exact QA.join (decide (x ≤ 90)) (Sub.of ⟨rfl, rfl, rfl, rfl, trivial⟩) ⟨hm, (Sat.pick [0] h11)⟩
        · refine G.offU rfl rfl (dec_f hc16) rfl ?_
          refine G.offU rfl rfl (dec_f hc16) rfl ?_
          refine G.offU rfl rfl (dec_f hc16) rfl ?_
          refine G.offU rfl rfl (dec_f hc16) rfl ?_
          refine G.offU rfl rfl (dec_f hc16) rfl ?_
          refine G.yl (yl_pick_f rfl (dec_f hc16) rfl) rfl rfl rfl ?_
          refine G.nil ?_
          exact QA.join false (Sub.of ⟨rfl, rfl, rfl, rfl, trivial⟩) ⟨hm, (Sat.pick [0] h11)⟩
      · rintro t24 w17 ⟨hm, h18⟩
        show C _ _ _ [(2, (.string (str ([] : List UInt8)))), (3, (.slice a2 s.length c3)), (4, (vI i)), (24, (.bool t24))] _ _
        unfold M_signpostref09_Fold_k2 at hm
        rcases sp_b hm with ⟨hc19, hm⟩ | ⟨hc19, hm⟩
        · refine C.cond_t rfl hc19 ?_
          refine C.region ?_
          refine G.yl (yl_move rfl) rfl rfl rfl ?_
          refine G.yl (yl_move rfl) rfl rfl rfl ?_
          refine G.yl (yl_move rfl) rfl rfl rfl ?_
          refine G.yl (yl_move rfl) rfl rfl rfl ?_
          obtain ⟨x_2, hy20, hm⟩ := sp_bind hm
          refine G.yl (yl_ixP (l := b) sl22 rfl rfl (View.isA (E := elU8) (Sat.own_view h18) (by decide) (at?_lt hy20)) (by simp [copyL_length, hl6]) (at?_lt hy20)) rfl rfl rfl ?_
          refine G.yl (yl_ld1 (E := elU8) (v := (v8 x_2)) ag5 rfl (Sat.own_view h18) (at?_some hy20).2 rfl) rfl rfl rfl ?_
          refine G.yl (yl_add8 (b := 97) rfl rfl) rfl rfl rfl ?_
          refine G.yl (yl_sub8 (b := 65) rfl rfl) rfl rfl rfl ?_
          refine G.yl (yl_ixP (l := b) sl22 rfl rfl (View.isA (E := elU8) (Sat.own_view h18) (by decide) (at?_lt hy20)) (by simp [copyL_length, hl6]) (at?_lt hy20)) rfl rfl rfl ?_
          refine G.unit (does_stE (E := elU8) (r := (x_2 + 97) - 65) h18 sz5 rfl rfl (by decide) rfl (List.getElem?_eq_some_iff.1 (at?_some hy20).2).1) rfl rfl ?_
          rintro _ w21 h22
          refine G.nil ?_
          refine QA.block_normal ?_
          refine QA.then_normal ?_
          refine C.region ?_
          refine G.yl (yl_move rfl) rfl rfl rfl ?_
          obtain ⟨hc23, hm⟩ := sp_chk hm
          refine G.yl (yl_addI rfl rfl hc23) rfl rfl rfl ?_
          refine G.yl (yl_assign rfl) rfl rfl rfl ?_
          refine G.nil ?_
          obtain rfl := sp_ret1 hm
          exact QA.againO (b.set i.toNat ((x_2 + 97) - 65), i + 1) hg13 (Sub.of ⟨rfl, (look_eq rfl (by simp [copyL_length, hl6])), rfl, trivial⟩) ⟨(by simp [copyL_length, hl6]), (Sat.pick [0] h22)⟩
        · refine C.cond_f rfl hc19 ?_
          refine C.skip ?_
          refine QA.block_normal ?_
          refine QA.then_normal ?_
          refine C.region ?_
          refine G.yl (yl_move rfl) rfl rfl rfl ?_
          obtain ⟨hc24, hm⟩ := sp_chk hm
          refine G.yl (yl_addI rfl rfl hc24) rfl rfl rfl ?_
          refine G.yl (yl_assign rfl) rfl rfl rfl ?_
          refine G.nil ?_
          obtain rfl := sp_ret1 hm
          exact QA.againO (b, i + 1) hg13 (Sub.of ⟨rfl, (look_eq rfl (by simp [copyL_length, hl6])), rfl, trivial⟩) ⟨(by simp [copyL_length, hl6]), (Sat.pick [0] h18)⟩
    · refine C.cond_f rfl (dec_f hc14) ?_
      refine C.exit ?_
      refine QA.then_exit ?_
      refine QA.then_exit ?_
      obtain rfl := sp_ret1 hm
      exact QA.left b (Sub.of ⟨rfl, (look_eq rfl (by simp [copyL_length, hl6])), trivial⟩) ⟨hg13, (by simp [copyL_length, hl6]), (Sat.pick [0] h11)⟩
  · rintro b_2 w25 ⟨rfl, hl7, h26⟩
    have hm := hm9
    show QA _ _ [(2, (.string (str ([] : List UInt8)))), (3, (.slice a2 s.length c3))] _ _
    refine QA.block_here ?_
    refine QA.then_normal ?_
    refine C.seq ?_
    refine C.region ?_
    refine G.yl (yl_move rfl) rfl rfl rfl ?_
    refine G.yl (yl_strE (l := b_2) Try.underlying22 Try.underlying5 Try.underlying9 rfl (by simp [copyL_length, hl7]) (Sat.own_view h26)) rfl rfl rfl ?_
    refine G.yl (yl_assign rfl) rfl rfl rfl ?_
    refine G.nil ?_
    refine QA.then_normal ?_
    refine C.ret ?_
    refine QA.ret1 rfl rfl ?_
    obtain rfl := sp_ret1 hm
    exact ⟨rfl, (Sat.pick [] h26)⟩
set_option maxRecDepth 20000 in
set_option maxHeartbeats 1000000 in
theorem M_signpostref11_Good_w {W : Base} {w : World} {i : G_api_Instance}  (h : Sat W w []) {r1 : Bool} (hm : M_signpostref11_Good i = some r1) :
    Calls Try.prog 112 #[(.agg (bytesV (List.ofFn (n := 20) i.Publisher) ++ ([(v64 i.Seq), (v64 i.Born), (v32 i.Life), (.bool i.Gone), (v16 i.Priority), (v16 i.Weight), (v16 i.Port), (.string (str i.Target))] : List Value)).toArray)] w (Ret fun v w' => v = (.bool r1) ∧ Sat W w' []) := by
  unfold M_signpostref11_Good at hm
  refine C.enter (N := 47) Try.func112 rfl Try.ntmps112 rfl ?_
  show C _ _ _ [(0, (.agg (bytesV (List.ofFn (n := 20) i.Publisher) ++ ([(v64 i.Seq), (v64 i.Born), (v32 i.Life), (.bool i.Gone), (v16 i.Priority), (v16 i.Weight), (v16 i.Port), (.string (str i.Target))] : List Value)).toArray))] _ _
  refine C.seq ?_
  refine C.region ?_
  refine G.does (does_box (cs := (bytesV (List.ofFn (n := 20) i.Publisher) ++ ([(v64 i.Seq), (v64 i.Born), (v32 i.Life), (.bool i.Gone), (v16 i.Priority), (v16 i.Weight), (v16 i.Port), (.string (str i.Target))] : List Value))) h rfl rfl) rfl rfl rfl ?_
  rintro _ w2 ⟨b1, rfl, h3⟩
  refine G.yl (yl_assign rfl) rfl rfl rfl ?_
  refine G.nil ?_
  refine QA.then_normal ?_
  refine C.seq ?_
  refine C.join (γ := Bool) (fun g => match g with | t10 => [(1, (.pointer (some ⟨b1, 0, none⟩))), (2, (.bool false)), (10, (.bool t10))]) (fun g ww => match g with | t10 => (M_signpostref11_Good_k1 i t10 = some r1) ∧ Sat W ww [blk b1 (bytesV (List.ofFn (n := 20) i.Publisher) ++ ([(v64 i.Seq), (v64 i.Born), (v32 i.Life), (.bool i.Gone), (v16 i.Priority), (v16 i.Weight), (v16 i.Port), (.string (str i.Target))] : List Value)) 104]) ?_ ?_
  · refine C.region ?_
    refine G.yl (yl_fieldAddr fo104_3 rfl) rfl rfl rfl ?_
    refine G.yl (yl_load (v := (v32 i.Life)) ag39 rfl (View.at_ (j := 2) (View.span_tail h3.isBlk.view0) rfl)) rfl rfl rfl ?_
    refine G.yl (yl_lt32 (b := 1) rfl rfl) rfl rfl rfl ?_
    refine G.yl (yl_move rfl) rfl rfl rfl ?_
    rcases sp_ite hm with ⟨hc4, hm⟩ | ⟨hc4, hm⟩
    · refine G.offU rfl rfl (dec_t hc4) rfl ?_
      refine G.offU rfl rfl (dec_t hc4) rfl ?_
      refine G.offU rfl rfl (dec_t hc4) rfl ?_
      refine G.yl (yl_pick_t rfl (dec_t hc4) rfl) rfl rfl rfl ?_
      refine G.nil ?_
      exact QA.join true (Sub.of ⟨rfl, rfl, rfl, trivial⟩) ⟨hm, (Sat.pick [0] h3)⟩
    · refine G.on rfl rfl (dec_f hc4) ?_
      refine G.yl (yl_fieldAddr fo104_3 rfl) rfl rfl rfl ?_
      refine G.on rfl rfl (dec_f hc4) ?_
      refine G.yl (yl_load (v := (v32 i.Life)) ag39 rfl (View.at_ (j := 2) (View.span_tail h3.isBlk.view0) rfl)) rfl rfl rfl ?_
      refine G.on rfl rfl (dec_f hc4) ?_
      refine G.yl (yl_gt32 (b := 2147483647) rfl rfl) rfl rfl rfl ?_
      refine G.yl (yl_pick_f rfl (dec_f hc4) rfl) rfl rfl rfl ?_
      refine G.nil ?_
      exact QA.join (decide ((2147483647 : UInt32) < i.Life)) (Sub.of ⟨rfl, rfl, rfl, trivial⟩) ⟨hm, (Sat.pick [0] h3)⟩
  · rintro t10 w5 ⟨hm, h6⟩
    show C _ _ _ [(1, (.pointer (some ⟨b1, 0, none⟩))), (2, (.bool false)), (10, (.bool t10))] _ _
    unfold M_signpostref11_Good_k1 at hm
    rcases sp_b hm with ⟨hc7, hm⟩ | ⟨hc7, hm⟩
    · refine C.cond_t rfl hc7 ?_
      refine C.seq ?_
      refine C.region ?_
      refine G.yl (yl_assign rfl) rfl rfl rfl ?_
      refine G.nil ?_
      refine QA.then_normal ?_
      refine C.ret ?_
      refine QA.then_ret ?_
      refine QA.ret1 rfl rfl ?_
      obtain rfl := sp_ret1 hm
      exact ⟨rfl, (Sat.pick [] h6)⟩
    · refine C.cond_f rfl hc7 ?_
      refine C.skip ?_
      refine QA.then_normal ?_
      refine C.seq ?_
      refine C.seq ?_
      refine C.region ?_
      refine G.yl (yl_fieldAddr fo104_4 rfl) rfl rfl rfl ?_
      refine G.yl (yl_load (v := (.bool i.Gone)) ag4 rfl (View.at_ (j := 3) (View.span_tail h6.isBlk.view0) rfl)) rfl rfl rfl ?_
      refine G.nil ?_
      refine QA.then_normal ?_
      rcases sp_b hm with ⟨hc8, hm⟩ | ⟨hc8, hm⟩
      · refine C.cond_t rfl hc8 ?_
        refine C.join (γ := Bool) (fun g => match g with | t2 => [(2, (.bool t2))]) (fun g ww => match g with | t2 => (M_signpostref11_Good_k2 t2 = some r1) ∧ Sat W ww []) ?_ ?_
        · refine C.region ?_
          refine G.yl (yl_fieldAddr fo104_5 rfl) rfl rfl rfl ?_
          refine G.yl (yl_load (v := (v16 i.Priority)) ag31 rfl (View.at_ (j := 4) (View.span_tail h6.isBlk.view0) rfl)) rfl rfl rfl ?_
          refine G.yl (yl_eq16 (b := 0) rfl rfl) rfl rfl rfl ?_
          refine G.yl (yl_move rfl) rfl rfl rfl ?_
          rcases sp_ite hm with ⟨hc9, hm⟩ | ⟨hc9, hm⟩
          · refine G.on rfl rfl (dec_t hc9) ?_
            refine G.yl (yl_fieldAddr fo104_6 rfl) rfl rfl rfl ?_
            refine G.on rfl rfl (dec_t hc9) ?_
            refine G.yl (yl_load (v := (v16 i.Weight)) ag31 rfl (View.at_ (j := 5) (View.span_tail h6.isBlk.view0) rfl)) rfl rfl rfl ?_
            refine G.on rfl rfl (dec_t hc9) ?_
            refine G.yl (yl_eq16 (b := 0) rfl rfl) rfl rfl rfl ?_
            refine G.yl (yl_pick_t rfl (dec_t hc9) rfl) rfl rfl rfl ?_
            refine G.yl (yl_move rfl) rfl rfl rfl ?_
            rcases sp_ite hm with ⟨hc10, hm⟩ | ⟨hc10, hm⟩
            · refine G.on rfl rfl (dec_t hc10) ?_
              refine G.yl (yl_fieldAddr fo104_7 rfl) rfl rfl rfl ?_
              refine G.on rfl rfl (dec_t hc10) ?_
              refine G.yl (yl_load (v := (v16 i.Port)) ag31 rfl (View.at_ (j := 6) (View.span_tail h6.isBlk.view0) rfl)) rfl rfl rfl ?_
              refine G.on rfl rfl (dec_t hc10) ?_
              refine G.yl (yl_eq16 (b := 0) rfl rfl) rfl rfl rfl ?_
              refine G.yl (yl_pick_t rfl (dec_t hc10) rfl) rfl rfl rfl ?_
              refine G.yl (yl_move rfl) rfl rfl rfl ?_
              rcases sp_ite hm with ⟨hc11, hm⟩ | ⟨hc11, hm⟩
              · refine G.on rfl rfl (dec_t hc11) ?_
                refine G.yl (yl_fieldAddr fo104_8 rfl) rfl rfl rfl ?_
                refine G.on rfl rfl (dec_t hc11) ?_
                refine G.yl (yl_load (v := (.string (str i.Target))) ag9 rfl (View.at_ (j := 7) (View.span_tail h6.isBlk.view0) rfl)) rfl rfl rfl ?_
                refine G.on rfl rfl (dec_t hc11) ?_
                refine G.yl (yl_eqS rfl rfl) rfl rfl rfl ?_
                refine G.yl (yl_pick_t rfl (dec_t hc11) rfl) rfl rfl rfl ?_
                refine G.yl (yl_assign rfl) rfl rfl rfl ?_
                refine G.nil ?_
                exact QA.join (decide (i.Target = ([] : List UInt8))) (Sub.of ⟨rfl, trivial⟩) ⟨hm, (Sat.pick [] h6)⟩
              · refine G.offU rfl rfl (dec_f hc11) rfl ?_
                refine G.offU rfl rfl (dec_f hc11) rfl ?_
                refine G.offU rfl rfl (dec_f hc11) rfl ?_
                refine G.yl (yl_pick_f rfl (dec_f hc11) rfl) rfl rfl rfl ?_
                refine G.yl (yl_assign rfl) rfl rfl rfl ?_
                refine G.nil ?_
                exact QA.join false (Sub.of ⟨rfl, trivial⟩) ⟨hm, (Sat.pick [] h6)⟩
            · refine G.offU rfl rfl (dec_f hc10) rfl ?_
              refine G.offU rfl rfl (dec_f hc10) rfl ?_
              refine G.offU rfl rfl (dec_f hc10) rfl ?_
              refine G.yl (yl_pick_f rfl (dec_f hc10) rfl) rfl rfl rfl ?_
              refine G.yl (yl_move rfl) rfl rfl rfl ?_
              refine G.offU rfl rfl rfl rfl ?_
              refine G.offU rfl rfl rfl rfl ?_
              refine G.offU rfl rfl rfl rfl ?_
              refine G.yl (yl_pick_f rfl rfl rfl) rfl rfl rfl ?_
              refine G.yl (yl_assign rfl) rfl rfl rfl ?_
              refine G.nil ?_
              exact QA.join false (Sub.of ⟨rfl, trivial⟩) ⟨hm, (Sat.pick [] h6)⟩
          · refine G.offU rfl rfl (dec_f hc9) rfl ?_
            refine G.offU rfl rfl (dec_f hc9) rfl ?_
            refine G.offU rfl rfl (dec_f hc9) rfl ?_
            refine G.yl (yl_pick_f rfl (dec_f hc9) rfl) rfl rfl rfl ?_
            refine G.yl (yl_move rfl) rfl rfl rfl ?_
            refine G.offU rfl rfl rfl rfl ?_
            refine G.offU rfl rfl rfl rfl ?_
            refine G.offU rfl rfl rfl rfl ?_
            refine G.yl (yl_pick_f rfl rfl rfl) rfl rfl rfl ?_
            refine G.yl (yl_move rfl) rfl rfl rfl ?_
            refine G.offU rfl rfl rfl rfl ?_
            refine G.offU rfl rfl rfl rfl ?_
            refine G.offU rfl rfl rfl rfl ?_
            refine G.yl (yl_pick_f rfl rfl rfl) rfl rfl rfl ?_
            refine G.yl (yl_assign rfl) rfl rfl rfl ?_
            refine G.nil ?_
            exact QA.join false (Sub.of ⟨rfl, trivial⟩) ⟨hm, (Sat.pick [] h6)⟩
        · rintro t2 w12 ⟨hm, h13⟩
          show C _ _ _ [(2, (.bool t2))] _ _
          unfold M_signpostref11_Good_k2 at hm
          refine C.ret ?_
          refine QA.then_ret ?_
          refine QA.ret1 rfl rfl ?_
          obtain rfl := sp_ret1 hm
          exact ⟨rfl, (Sat.pick [] h13)⟩
      · refine C.cond_f rfl hc8 ?_
        refine C.skip ?_
        refine QA.then_normal ?_
        refine C.seq ?_
        refine C.draw (V := fun w' => View w' (some ⟨b1, 0, none⟩) (bytesV (List.ofFn (n := 20) i.Publisher) ++ ([(v64 i.Seq), (v64 i.Born), (v32 i.Life), (.bool i.Gone), (v16 i.Priority), (v16 i.Weight), (v16 i.Port), (.string (str i.Target))] : List Value))) (nd := [1, 4, 5, 9, 10, 12, 13, 14]) (sp := []) (n := 17) rfl h6 rfl rfl ?_
        intro w14 h15
        have hS16 : Cls (fun w' => View w' (some ⟨b1, 0, none⟩) (bytesV (List.ofFn (n := 20) i.Publisher) ++ ([(v64 i.Seq), (v64 i.Born), (v32 i.Life), (.bool i.Gone), (v16 i.Priority), (v16 i.Weight), (v16 i.Port), (.string (str i.Target))] : List Value))) [1, 4, 5, 9, 10, 12, 13, 14] [] #[nn, nn, nn, nn, nn, nn, nn, nn, nn, nn, nn, nn, nn, nn, nn, nn, nn] w14 := Cls.keep (h15.isBlk.view0) (by kernel_rfl)
        refine GH.yl (i := 0) (listed' := #[yy, nn, nn, nn, nn, nn, nn, nn, nn, nn, nn, nn, nn, nn, nn, nn, nn]) rfl (by kernel_rfl) rfl (NP.next NP.body) rfl rfl rfl (fun w' => yl_fieldAddr fo104_7 rfl) hS16 (fun hS17 => ?_)
        refine GH.yr (i := 1) (listed' := #[yy, yy, nn, nn, nn, nn, nn, nn, nn, nn, nn, nn, nn, nn, nn, nn, nn]) rfl (by kernel_rfl) rfl rfl (NP.next NP.body) rfl rfl rfl (fun w' hw' => yl_load (v := (v16 i.Port)) ag31 rfl (View.at_ (j := 6) (View.span_tail hw') rfl)) hS17 (fun hS18 => ?_)
        refine GH.yl (i := 2) (listed' := #[yy, yy, yy, nn, nn, nn, nn, nn, nn, nn, nn, nn, nn, nn, nn, nn, nn]) rfl (by kernel_rfl) rfl (NP.next NP.body) rfl rfl rfl (fun w' => yl_ne16 (b := 0) rfl rfl) hS18 (fun hS19 => ?_)
        refine GH.yl (i := 3) (listed' := #[yy, yy, yy, yy, nn, nn, nn, nn, nn, nn, nn, nn, nn, nn, nn, nn, nn]) rfl (by kernel_rfl) rfl (NP.next NP.body) rfl rfl rfl (fun w' => yl_move rfl) hS19 (fun hS20 => ?_)
        rcases sp_ite hm with ⟨hc21, hm⟩ | ⟨hc21, hm⟩
        · refine GH.off (i := 4) (listed' := #[yy, yy, yy, yy, yy, nn, nn, nn, nn, nn, nn, nn, nn, nn, nn, nn, nn]) rfl (by kernel_rfl) rfl (NP.next NP.body) rfl rfl rfl rfl (not_f (dec_t hc21)) hS20 (fun hS22 => ?_)
          refine GH.off (i := 5) (listed' := #[yy, yy, yy, yy, yy, yy, nn, nn, nn, nn, nn, nn, nn, nn, nn, nn, nn]) rfl (by kernel_rfl) rfl (NP.next NP.body) rfl rfl rfl rfl (not_f (dec_t hc21)) hS22 (fun hS23 => ?_)
          refine GH.off (i := 6) (listed' := #[yy, yy, yy, yy, yy, yy, yy, nn, nn, nn, nn, nn, nn, nn, nn, nn, nn]) rfl (by kernel_rfl) rfl (NP.next NP.body) rfl rfl rfl rfl (not_f (dec_t hc21)) hS23 (fun hS24 => ?_)
          refine GH.yl (i := 7) (listed' := #[yy, yy, yy, yy, yy, yy, yy, yy, nn, nn, nn, nn, nn, nn, nn, nn, nn]) rfl (by kernel_rfl) rfl (NP.next NP.body) rfl rfl rfl (fun w' => yl_pick_f rfl (not_f (dec_t hc21)) rfl) hS24 (fun hS25 => ?_)
          refine GH.yl (i := 8) (listed' := #[yy, yy, yy, yy, yy, yy, yy, yy, yy, nn, nn, nn, nn, nn, nn, nn, nn]) rfl (by kernel_rfl) rfl (NP.next NP.body) rfl rfl rfl (fun w' => yl_move rfl) hS25 (fun hS26 => ?_)
          refine GH.off (i := 9) (listed' := #[yy, yy, yy, yy, yy, yy, yy, yy, yy, yy, nn, nn, nn, nn, nn, nn, nn]) rfl (by kernel_rfl) rfl (NP.next NP.body) rfl rfl rfl rfl rfl hS26 (fun hS27 => ?_)
          refine GH.off (i := 10) (listed' := #[yy, yy, yy, yy, yy, yy, yy, yy, yy, yy, yy, nn, nn, nn, nn, nn, nn]) rfl (by kernel_rfl) rfl (NP.next NP.body) rfl rfl rfl rfl rfl hS27 (fun hS28 => ?_)
          refine GH.off (i := 11) (listed' := #[yy, yy, yy, yy, yy, yy, yy, yy, yy, yy, yy, yy, nn, nn, nn, nn, nn]) rfl (by kernel_rfl) rfl (NP.next NP.body) rfl rfl rfl rfl rfl hS28 (fun hS29 => ?_)
          refine GH.off (i := 12) (listed' := #[yy, yy, yy, yy, yy, yy, yy, yy, yy, yy, yy, yy, yy, nn, nn, nn, nn]) rfl (by kernel_rfl) rfl (NP.next NP.body) rfl rfl rfl rfl rfl hS29 (fun hS30 => ?_)
          refine GH.off (i := 13) (listed' := #[yy, yy, yy, yy, yy, yy, yy, yy, yy, yy, yy, yy, yy, yy, nn, nn, nn]) rfl (by kernel_rfl) rfl (NP.next NP.body) rfl rfl rfl rfl rfl hS30 (fun hS31 => ?_)
          refine GH.off (i := 14) (listed' := #[yy, yy, yy, yy, yy, yy, yy, yy, yy, yy, yy, yy, yy, yy, yy, nn, nn]) rfl (by kernel_rfl) rfl (NP.next NP.body) rfl rfl rfl rfl rfl hS31 (fun hS32 => ?_)
          refine GH.yl (i := 15) (listed' := #[yy, yy, yy, yy, yy, yy, yy, yy, yy, yy, yy, yy, yy, yy, yy, yy, nn]) rfl (by kernel_rfl) rfl (NP.next NP.body) rfl rfl rfl (fun w' => yl_pick_f rfl rfl rfl) hS32 (fun hS33 => ?_)
          refine GH.yl (i := 16) (listed' := #[yy, yy, yy, yy, yy, yy, yy, yy, yy, yy, yy, yy, yy, yy, yy, yy, yy]) rfl (by kernel_rfl) rfl (NP.next NP.body) rfl rfl rfl (fun w' => yl_assign rfl) hS33 (fun hS34 => ?_)
          refine GH.done (by kernel_rfl) ?_
          refine QA.then_normal ?_
          refine C.ret ?_
          refine QA.ret1 rfl rfl ?_
          obtain rfl := sp_ret1 hm
          exact ⟨rfl, (Sat.pick [] h15)⟩
        · refine GH.on (i := 4) (listed' := #[yy, yy, yy, yy, yy, nn, nn, nn, nn, nn, nn, nn, nn, nn, nn, nn, nn]) rfl (by kernel_rfl) rfl rfl (NP.next NP.body) rfl rfl rfl rfl (not_t (dec_f hc21)) (fun w' hw' => yl_fieldAddr fo104_8 rfl) hS20 (fun hS35 => ?_)
          refine GH.on (i := 5) (listed' := #[yy, yy, yy, yy, yy, yy, nn, nn, nn, nn, nn, nn, nn, nn, nn, nn, nn]) rfl (by kernel_rfl) rfl rfl (NP.next NP.body) rfl rfl rfl rfl (not_t (dec_f hc21)) (fun w' hw' => yl_load (v := (.string (str i.Target))) ag9 rfl (View.at_ (j := 7) (View.span_tail hw') rfl)) hS35 (fun hS36 => ?_)
          obtain ⟨r1_2, hy37, hm⟩ := sp_bind hm
          refine GH.doesOn (i := 6) (listed' := #[yy, yy, yy, yy, yy, yy, yy, nn, nn, nn, nn, nn, nn, nn, nn, nn, nn]) rfl (by kernel_rfl) rfl rfl rfl (not_t (dec_f hc21)) rfl rfl (does_fn 0 rfl rfl rfl en136 h15 (fun U hU hp hr hs => M_signpostref09_Good_w (s := i.Target) hp hy37)) ?_
          rintro _ w38 ⟨U41, hb42, rfl, h40⟩
          have h39 : Sat W w38 [blk b1 (bytesV (List.ofFn (n := 20) i.Publisher) ++ ([(v64 i.Seq), (v64 i.Born), (v32 i.Life), (.bool i.Gone), (v16 i.Priority), (v16 i.Weight), (v16 i.Port), (.string (str i.Target))] : List Value)) 104] := hb42 h40
          have hS43 : Cls (fun w' => View w' (some ⟨b1, 0, none⟩) (bytesV (List.ofFn (n := 20) i.Publisher) ++ ([(v64 i.Seq), (v64 i.Born), (v32 i.Life), (.bool i.Gone), (v16 i.Priority), (v16 i.Weight), (v16 i.Port), (.string (str i.Target))] : List Value))) [1, 4, 5, 9, 10, 12, 13, 14] [] #[yy, yy, yy, yy, yy, yy, yy, nn, nn, nn, nn, nn, nn, nn, nn, nn, nn] w38 := Cls.keep (h39.isBlk.view0) (by kernel_rfl)
          refine ⟨hS43, ?_⟩
          refine GH.yl (i := 7) (listed' := #[yy, yy, yy, yy, yy, yy, yy, yy, nn, nn, nn, nn, nn, nn, nn, nn, nn]) rfl (by kernel_rfl) rfl (NP.next NP.body) rfl rfl rfl (fun w' => yl_pick_t rfl (not_t (dec_f hc21)) rfl) hS43 (fun hS44 => ?_)
          refine GH.yl (i := 8) (listed' := #[yy, yy, yy, yy, yy, yy, yy, yy, yy, nn, nn, nn, nn, nn, nn, nn, nn]) rfl (by kernel_rfl) rfl (NP.next NP.body) rfl rfl rfl (fun w' => yl_move rfl) hS44 (fun hS45 => ?_)
          rcases sp_b hm with ⟨hc46, hm⟩ | ⟨hc46, hm⟩
          · refine GH.on (i := 9) (listed' := #[yy, yy, yy, yy, yy, yy, yy, yy, yy, yy, nn, nn, nn, nn, nn, nn, nn]) rfl (by kernel_rfl) rfl rfl (NP.next NP.body) rfl rfl rfl rfl hc46 (fun w' hw' => yl_fieldAddr fo104_8 rfl) hS45 (fun hS47 => ?_)
            refine GH.on (i := 10) (listed' := #[yy, yy, yy, yy, yy, yy, yy, yy, yy, yy, yy, nn, nn, nn, nn, nn, nn]) rfl (by kernel_rfl) rfl rfl (NP.next NP.body) rfl rfl rfl rfl hc46 (fun w' hw' => yl_load (v := (.string (str i.Target))) ag9 rfl (View.at_ (j := 7) (View.span_tail hw') rfl)) hS47 (fun hS48 => ?_)
            refine GH.on (i := 12) (listed' := #[yy, yy, yy, yy, yy, yy, yy, yy, yy, yy, yy, nn, yy, nn, nn, nn, nn]) rfl (by kernel_rfl) rfl rfl (NP.next NP.body) rfl rfl rfl rfl hc46 (fun w' hw' => yl_fieldAddr fo104_8 rfl) hS48 (fun hS49 => ?_)
            refine GH.on (i := 13) (listed' := #[yy, yy, yy, yy, yy, yy, yy, yy, yy, yy, yy, nn, yy, yy, nn, nn, nn]) rfl (by kernel_rfl) rfl rfl (NP.next NP.body) rfl rfl rfl rfl hc46 (fun w' hw' => yl_load (v := (.string (str i.Target))) ag9 rfl (View.at_ (j := 7) (View.span_tail hw') rfl)) hS49 (fun hS50 => ?_)
            obtain ⟨r1_3, hy51, hm⟩ := sp_bind hm
            refine GH.doesOn (i := 11) (listed' := #[yy, yy, yy, yy, yy, yy, yy, yy, yy, yy, yy, yy, yy, yy, nn, nn, nn]) rfl (by kernel_rfl) rfl rfl rfl hc46 rfl rfl (does_fn 0 rfl rfl rfl en137 h39 (fun U hU hp hr hs => M_signpostref09_Fold_w (s := i.Target) hp hy51)) ?_
            rintro _ w52 ⟨U55, hb56, rfl, h54⟩
            have h53 : Sat W w52 [blk b1 (bytesV (List.ofFn (n := 20) i.Publisher) ++ ([(v64 i.Seq), (v64 i.Born), (v32 i.Life), (.bool i.Gone), (v16 i.Priority), (v16 i.Weight), (v16 i.Port), (.string (str i.Target))] : List Value)) 104] := hb56 h54
            have hS57 : Cls (fun w' => View w' (some ⟨b1, 0, none⟩) (bytesV (List.ofFn (n := 20) i.Publisher) ++ ([(v64 i.Seq), (v64 i.Born), (v32 i.Life), (.bool i.Gone), (v16 i.Priority), (v16 i.Weight), (v16 i.Port), (.string (str i.Target))] : List Value))) [1, 4, 5, 9, 10, 12, 13, 14] [] #[yy, yy, yy, yy, yy, yy, yy, yy, yy, yy, yy, yy, yy, yy, nn, nn, nn] w52 := Cls.keep (h53.isBlk.view0) (by kernel_rfl)
            refine ⟨hS57, ?_⟩
            refine GH.on (i := 14) (listed' := #[yy, yy, yy, yy, yy, yy, yy, yy, yy, yy, yy, yy, yy, yy, yy, nn, nn]) rfl (by kernel_rfl) rfl rfl (NP.next NP.body) rfl rfl rfl rfl hc46 (fun w' hw' => yl_eqS rfl rfl) hS57 (fun hS58 => ?_)
            refine GH.yl (i := 15) (listed' := #[yy, yy, yy, yy, yy, yy, yy, yy, yy, yy, yy, yy, yy, yy, yy, yy, nn]) rfl (by kernel_rfl) rfl (NP.next NP.body) rfl rfl rfl (fun w' => yl_pick_t rfl hc46 rfl) hS58 (fun hS59 => ?_)
            refine GH.yl (i := 16) (listed' := #[yy, yy, yy, yy, yy, yy, yy, yy, yy, yy, yy, yy, yy, yy, yy, yy, yy]) rfl (by kernel_rfl) rfl (NP.next NP.body) rfl rfl rfl (fun w' => yl_assign rfl) hS59 (fun hS60 => ?_)
            refine GH.done (by kernel_rfl) ?_
            refine QA.then_normal ?_
            refine C.ret ?_
            refine QA.ret1 rfl rfl ?_
            obtain rfl := sp_ret1 hm
            exact ⟨rfl, (Sat.pick [] h53)⟩
          · refine GH.off (i := 9) (listed' := #[yy, yy, yy, yy, yy, yy, yy, yy, yy, yy, nn, nn, nn, nn, nn, nn, nn]) rfl (by kernel_rfl) rfl (NP.next NP.body) rfl rfl rfl rfl hc46 hS45 (fun hS61 => ?_)
            refine GH.off (i := 10) (listed' := #[yy, yy, yy, yy, yy, yy, yy, yy, yy, yy, yy, nn, nn, nn, nn, nn, nn]) rfl (by kernel_rfl) rfl (NP.next NP.body) rfl rfl rfl rfl hc46 hS61 (fun hS62 => ?_)
            refine GH.off (i := 11) (listed' := #[yy, yy, yy, yy, yy, yy, yy, yy, yy, yy, yy, yy, nn, nn, nn, nn, nn]) rfl (by kernel_rfl) rfl (NP.next NP.body) rfl rfl rfl rfl hc46 hS62 (fun hS63 => ?_)
            refine GH.off (i := 12) (listed' := #[yy, yy, yy, yy, yy, yy, yy, yy, yy, yy, yy, yy, yy, nn, nn, nn, nn]) rfl (by kernel_rfl) rfl (NP.next NP.body) rfl rfl rfl rfl hc46 hS63 (fun hS64 => ?_)
            refine GH.off (i := 13) (listed' := #[yy, yy, yy, yy, yy, yy, yy, yy, yy, yy, yy, yy, yy, yy, nn, nn, nn]) rfl (by kernel_rfl) rfl (NP.next NP.body) rfl rfl rfl rfl hc46 hS64 (fun hS65 => ?_)
            refine GH.off (i := 14) (listed' := #[yy, yy, yy, yy, yy, yy, yy, yy, yy, yy, yy, yy, yy, yy, yy, nn, nn]) rfl (by kernel_rfl) rfl (NP.next NP.body) rfl rfl rfl rfl hc46 hS65 (fun hS66 => ?_)
            refine GH.yl (i := 15) (listed' := #[yy, yy, yy, yy, yy, yy, yy, yy, yy, yy, yy, yy, yy, yy, yy, yy, nn]) rfl (by kernel_rfl) rfl (NP.next NP.body) rfl rfl rfl (fun w' => yl_pick_f rfl hc46 rfl) hS66 (fun hS67 => ?_)
            refine GH.yl (i := 16) (listed' := #[yy, yy, yy, yy, yy, yy, yy, yy, yy, yy, yy, yy, yy, yy, yy, yy, yy]) rfl (by kernel_rfl) rfl (NP.next NP.body) rfl rfl rfl (fun w' => yl_assign rfl) hS67 (fun hS68 => ?_)
            refine GH.done (by kernel_rfl) ?_
            refine QA.then_normal ?_
            refine C.ret ?_
            refine QA.ret1 rfl rfl ?_
            obtain rfl := sp_ret1 hm
            exact ⟨rfl, (Sat.pick [] h39)⟩
set_option maxRecDepth 20000 in
set_option maxHeartbeats 1000000 in
theorem M_signpostref11_Read_pv_w {W : Base} {w : World} {b : Nat} {a : Option Addr} {c : Nat} {B : List UInt8} {At : Int} {Bad : Bool} (hv14 : V W a (elU8.row B)) (hq15 : B.length ≤ c) (h : Sat W w [blk b [(.slice a B.length c), (vI At), (.bool Bad)] 55]) {r1 : G_api_Instance} {r2 : Bool} {r3 : Int} {r4 : Bool} (hm : M_signpostref11_Read_pv B At Bad = some (r1, r2, r3, r4)) :
    Calls Try.prog 63 #[(.pointer (some ⟨b, 0, none⟩))] w (Ret fun v w' => v = (.tuple #[(.agg (bytesV (List.ofFn (n := 20) r1.Publisher) ++ ([(v64 r1.Seq), (v64 r1.Born), (v32 r1.Life), (.bool r1.Gone), (v16 r1.Priority), (v16 r1.Weight), (v16 r1.Port), (.string (str r1.Target))] : List Value)).toArray), (.bool r2)]) ∧ Sat W w' [blk b [(.slice a B.length c), (vI r3), (.bool r4)] 55]) := by
  unfold M_signpostref11_Read_pv at hm
  refine C.enter (N := 60) Try.func63 rfl Try.ntmps63 rfl ?_
  show C _ _ _ [(0, (.pointer (some ⟨b, 0, none⟩)))] _ _
  refine C.seq ?_
  refine C.region ?_
  refine G.does (does_alloc (cs := (bytesV (List.ofFn (n := 20) (fun _ => 0)) ++ ([(.int .u64 0), (.int .u64 0), (.int .u32 0), (.bool false), (.int .u16 0), (.int .u16 0), (.int .u16 0), (.string (str ([] : List UInt8)))] : List Value))) h z104 rfl) rfl rfl rfl ?_
  rintro _ w2 ⟨b1, rfl, h3⟩
  refine G.yl (yl_assign rfl) rfl rfl rfl ?_
  refine G.nil ?_
  refine QA.then_normal ?_
  refine C.seq ?_
  refine C.region ?_
  refine G.does (does_alloc (cs := (bytesV (List.ofFn (n := 20) (fun _ => 0)) ++ ([(.int .u64 0), (.int .u64 0), (.int .u32 0), (.bool false), (.int .u16 0), (.int .u16 0), (.int .u16 0), (.string (str ([] : List UInt8)))] : List Value))) h3 z104 rfl) rfl rfl rfl ?_
  rintro _ w5 ⟨b4, rfl, h6⟩
  refine G.nil ?_
  refine QA.then_normal ?_
  refine C.seq ?_
  refine C.draw (V := fun w' => True) (nd := []) (sp := []) (n := 5) rfl h6 rfl rfl ?_
  intro w7 h8
  have hS9 : Cls (fun w' => True) [] [] #[false, false, false, false, false] w7 := Cls.keep (trivial) (by kernel_rfl)
  refine GH.yl (i := 0) (listed' := #[true, false, false, false, false]) rfl (by kernel_rfl) rfl (NP.next NP.body) rfl rfl rfl (fun w' => yl_fieldAddr fo104_0 rfl) hS9 (fun hS10 => ?_)
  refine GH.yl (i := 1) (listed' := #[true, true, false, false, false]) rfl (by kernel_rfl) rfl (NP.next NP.body) rfl rfl rfl (fun w' => yl_slice_arr (n := 20) (l := 0) (h := 20) (s := 1) (v := (.slice (some ⟨b4, 0, none⟩) 20 20)) Try.underlying63 (by kernel_rfl) (by kernel_rfl) rfl rfl rfl (by decide) (by decide) rfl) hS10 (fun hS11 => ?_)
  refine GH.yl (i := 2) (listed' := #[true, true, true, false, false]) rfl (by kernel_rfl) rfl (NP.next NP.body) rfl rfl rfl (fun w' => yl_move rfl) hS11 (fun hS12 => ?_)
  obtain ⟨⟨r3_2, r4_2, r5_2⟩, hy15, hm⟩ := sp_bind hm
  refine GH.does (i := 3) (listed' := #[true, true, true, true, false]) rfl (by kernel_rfl) rfl rfl rfl rfl (does_fn 1 rfl rfl rfl en65 (Sat.pick [2, 0, 0] h8) (fun U hU hp hr hs => M_signpostref01_Reader_Take_pv_w (B := B) (At := At) (Bad := Bad) (n := 20) (hs.v hv14) hq15 hp hy15)) ?_
  rintro _ w18 ⟨U21, hb22, r116, r217, rfl, h20⟩
  have h19 : Sat W w18 [ow elU8 r116 r217 5 r3_2, blk b [(.slice a B.length c), (vI r4_2), (.bool r5_2)] 55, blk b4 (bytesV (List.ofFn (n := 20) (fun _ => 0)) ++ ([(.int .u64 0), (.int .u64 0), (.int .u32 0), (.bool false), (.int .u16 0), (.int .u16 0), (.int .u16 0), (.string (str ([] : List UInt8)))] : List Value)) 104, blk b1 (bytesV (List.ofFn (n := 20) (fun _ => 0)) ++ ([(.int .u64 0), (.int .u64 0), (.int .u32 0), (.bool false), (.int .u16 0), (.int .u16 0), (.int .u16 0), (.string (str ([] : List UInt8)))] : List Value)) 104] := hb22 h20
  have hS23 : Cls (fun w' => True) [] [] #[true, true, true, true, false] w18 := Cls.keep (trivial) (by kernel_rfl)
  refine ⟨hS23, ?_⟩
  refine GH.does (i := 4) (listed' := #[true, true, true, true, true]) rfl (by kernel_rfl) rfl rfl rfl rfl (does_cpAH (l := r3_2) (Sat.pick [2, 0, 0, 0] h19) Try.underlying22 sz5 rfl rfl rfl (Sat.own_view h19) rfl) ?_
  rintro _ w24 ⟨rfl, h25⟩
  have hS26 : Cls (fun w' => True) [] [] #[true, true, true, true, true] w24 := Cls.keep (trivial) (by kernel_rfl)
  refine ⟨hS26, ?_⟩
  refine GH.done (by kernel_rfl) ?_
  refine QA.then_normal ?_
  refine C.seq ?_
  refine C.region ?_
  refine G.yl (yl_move rfl) rfl rfl rfl ?_
  obtain ⟨⟨r1_2, r2_2, r3_3⟩, hy29, hm⟩ := sp_bind hm
  refine G.does (does_fn 1 rfl rfl rfl en62 (Sat.pick [2, 0, 0, 0] h25) (fun U hU hp hr hs => M_signpostref01_Reader_Num_pv_w (B := B) (At := r4_2) (Bad := r5_2) (width := 8) (hs.v hv14) hq15 hp hy29)) rfl rfl rfl ?_
  rintro _ w30 ⟨U33, hb34, rfl, h32⟩
  have h31 : Sat W w30 [blk b [(.slice a B.length c), (vI r2_2), (.bool r3_3)] 55, blk b4 (bytesV (List.ofFn (n := 20) (copyA (fun _ => 0) r3_2)) ++ ([(.int .u64 0), (.int .u64 0), (.int .u32 0), (.bool false), (.int .u16 0), (.int .u16 0), (.int .u16 0), (.string (str ([] : List UInt8)))] : List Value)) 104, ow elU8 r116 r217 5 r3_2, blk b1 (bytesV (List.ofFn (n := 20) (fun _ => 0)) ++ ([(.int .u64 0), (.int .u64 0), (.int .u32 0), (.bool false), (.int .u16 0), (.int .u16 0), (.int .u16 0), (.string (str ([] : List UInt8)))] : List Value)) 104] := hb34 h32
  refine G.yl (yl_fieldAddr fo104_1 rfl) rfl rfl rfl ?_
  refine G.unit (does_store (vs := [(v64 r1_2)]) (Sat.pick [1, 0, 0, 0] h31) sz84 rfl rfl rfl (by simp [bytesV_length]) (List.forall_mem_cons.2 ⟨rfl, (fun _ hh => by cases hh)⟩) (by simp [bytesV_length])) rfl rfl ?_
  rintro _ w35 h37
  have h36 : Sat W w35 [blk b4 (bytesV (List.ofFn (n := 20) (copyA (fun _ => 0) r3_2)) ++ ([(v64 r1_2), (.int .u64 0), (.int .u32 0), (.bool false), (.int .u16 0), (.int .u16 0), (.int .u16 0), (.string (str ([] : List UInt8)))] : List Value)) 104, blk b [(.slice a B.length c), (vI r2_2), (.bool r3_3)] 55, ow elU8 r116 r217 5 r3_2, blk b1 (bytesV (List.ofFn (n := 20) (fun _ => 0)) ++ ([(.int .u64 0), (.int .u64 0), (.int .u32 0), (.bool false), (.int .u16 0), (.int .u16 0), (.int .u16 0), (.string (str ([] : List UInt8)))] : List Value)) 104] := sl_blk (by kernel_rfl) h37
  refine G.nil ?_
  refine QA.then_normal ?_
  refine C.seq ?_
  refine C.region ?_
  refine G.yl (yl_move rfl) rfl rfl rfl ?_
  obtain ⟨⟨r1_3, r2_3, r3_4⟩, hy40, hm⟩ := sp_bind hm
  refine G.does (does_fn 1 rfl rfl rfl en62 (Sat.pick [1, 0, 0, 0] h36) (fun U hU hp hr hs => M_signpostref01_Reader_Num_pv_w (B := B) (At := r2_2) (Bad := r3_3) (width := 8) (hs.v hv14) hq15 hp hy40)) rfl rfl rfl ?_
  rintro _ w41 ⟨U44, hb45, rfl, h43⟩
  have h42 : Sat W w41 [blk b [(.slice a B.length c), (vI r2_3), (.bool r3_4)] 55, blk b4 (bytesV (List.ofFn (n := 20) (copyA (fun _ => 0) r3_2)) ++ ([(v64 r1_2), (.int .u64 0), (.int .u32 0), (.bool false), (.int .u16 0), (.int .u16 0), (.int .u16 0), (.string (str ([] : List UInt8)))] : List Value)) 104, ow elU8 r116 r217 5 r3_2, blk b1 (bytesV (List.ofFn (n := 20) (fun _ => 0)) ++ ([(.int .u64 0), (.int .u64 0), (.int .u32 0), (.bool false), (.int .u16 0), (.int .u16 0), (.int .u16 0), (.string (str ([] : List UInt8)))] : List Value)) 104] := hb45 h43
  refine G.yl (yl_fieldAddr fo104_2 rfl) rfl rfl rfl ?_
  refine G.unit (does_store (vs := [(v64 r1_3)]) (Sat.pick [1, 0, 0, 0] h42) sz84 rfl rfl rfl (by simp [bytesV_length]) (List.forall_mem_cons.2 ⟨rfl, (fun _ hh => by cases hh)⟩) (by simp [bytesV_length])) rfl rfl ?_
  rintro _ w46 h48
  have h47 : Sat W w46 [blk b4 (bytesV (List.ofFn (n := 20) (copyA (fun _ => 0) r3_2)) ++ ([(v64 r1_2), (v64 r1_3), (.int .u32 0), (.bool false), (.int .u16 0), (.int .u16 0), (.int .u16 0), (.string (str ([] : List UInt8)))] : List Value)) 104, blk b [(.slice a B.length c), (vI r2_3), (.bool r3_4)] 55, ow elU8 r116 r217 5 r3_2, blk b1 (bytesV (List.ofFn (n := 20) (fun _ => 0)) ++ ([(.int .u64 0), (.int .u64 0), (.int .u32 0), (.bool false), (.int .u16 0), (.int .u16 0), (.int .u16 0), (.string (str ([] : List UInt8)))] : List Value)) 104] := sl_blk (by kernel_rfl) h48
  refine G.nil ?_
  refine QA.then_normal ?_
  refine C.seq ?_
  refine C.region ?_
  refine G.yl (yl_move rfl) rfl rfl rfl ?_
  obtain ⟨⟨r1_4, r2_4, r3_5⟩, hy51, hm⟩ := sp_bind hm
  refine G.does (does_fn 1 rfl rfl rfl en62 (Sat.pick [1, 0, 0, 0] h47) (fun U hU hp hr hs => M_signpostref01_Reader_Num_pv_w (B := B) (At := r2_3) (Bad := r3_4) (width := 4) (hs.v hv14) hq15 hp hy51)) rfl rfl rfl ?_
  rintro _ w52 ⟨U55, hb56, rfl, h54⟩
  have h53 : Sat W w52 [blk b [(.slice a B.length c), (vI r2_4), (.bool r3_5)] 55, blk b4 (bytesV (List.ofFn (n := 20) (copyA (fun _ => 0) r3_2)) ++ ([(v64 r1_2), (v64 r1_3), (.int .u32 0), (.bool false), (.int .u16 0), (.int .u16 0), (.int .u16 0), (.string (str ([] : List UInt8)))] : List Value)) 104, ow elU8 r116 r217 5 r3_2, blk b1 (bytesV (List.ofFn (n := 20) (fun _ => 0)) ++ ([(.int .u64 0), (.int .u64 0), (.int .u32 0), (.bool false), (.int .u16 0), (.int .u16 0), (.int .u16 0), (.string (str ([] : List UInt8)))] : List Value)) 104] := hb56 h54
  refine G.yl (yl_64to32 us84 Try.underlying39 rfl) rfl rfl rfl ?_
  refine G.yl (yl_fieldAddr fo104_3 rfl) rfl rfl rfl ?_
  refine G.unit (does_store (vs := [(v32 r1_4.toUInt32)]) (Sat.pick [1, 0, 0, 0] h53) sz39 rfl rfl rfl (by simp [bytesV_length]) (List.forall_mem_cons.2 ⟨rfl, (fun _ hh => by cases hh)⟩) (by simp [bytesV_length])) rfl rfl ?_
  rintro _ w57 h59
  have h58 : Sat W w57 [blk b4 (bytesV (List.ofFn (n := 20) (copyA (fun _ => 0) r3_2)) ++ ([(v64 r1_2), (v64 r1_3), (v32 r1_4.toUInt32), (.bool false), (.int .u16 0), (.int .u16 0), (.int .u16 0), (.string (str ([] : List UInt8)))] : List Value)) 104, blk b [(.slice a B.length c), (vI r2_4), (.bool r3_5)] 55, ow elU8 r116 r217 5 r3_2, blk b1 (bytesV (List.ofFn (n := 20) (fun _ => 0)) ++ ([(.int .u64 0), (.int .u64 0), (.int .u32 0), (.bool false), (.int .u16 0), (.int .u16 0), (.int .u16 0), (.string (str ([] : List UInt8)))] : List Value)) 104] := sl_blk (by kernel_rfl) h59
  refine G.nil ?_
  refine QA.then_normal ?_
  refine C.seq ?_
  refine C.region ?_
  refine G.yl (yl_move rfl) rfl rfl rfl ?_
  obtain ⟨⟨r1_5, r2_5, r3_6⟩, hy62, hm⟩ := sp_bind hm
  refine G.does (does_fn 1 rfl rfl rfl en62 (Sat.pick [1, 0, 0, 0] h58) (fun U hU hp hr hs => M_signpostref01_Reader_Num_pv_w (B := B) (At := r2_4) (Bad := r3_5) (width := 1) (hs.v hv14) hq15 hp hy62)) rfl rfl rfl ?_
  rintro _ w63 ⟨U66, hb67, rfl, h65⟩
  have h64 : Sat W w63 [blk b [(.slice a B.length c), (vI r2_5), (.bool r3_6)] 55, blk b4 (bytesV (List.ofFn (n := 20) (copyA (fun _ => 0) r3_2)) ++ ([(v64 r1_2), (v64 r1_3), (v32 r1_4.toUInt32), (.bool false), (.int .u16 0), (.int .u16 0), (.int .u16 0), (.string (str ([] : List UInt8)))] : List Value)) 104, ow elU8 r116 r217 5 r3_2, blk b1 (bytesV (List.ofFn (n := 20) (fun _ => 0)) ++ ([(.int .u64 0), (.int .u64 0), (.int .u32 0), (.bool false), (.int .u16 0), (.int .u16 0), (.int .u16 0), (.string (str ([] : List UInt8)))] : List Value)) 104] := hb67 h65
  refine G.yl (yl_assign rfl) rfl rfl rfl ?_
  refine G.nil ?_
  refine QA.then_normal ?_
  refine C.seq ?_
  refine C.region ?_
  refine G.yl (yl_move rfl) rfl rfl rfl ?_
  refine G.yl (yl_eq64 (b := 1) rfl rfl) rfl rfl rfl ?_
  refine G.yl (yl_fieldAddr fo104_4 rfl) rfl rfl rfl ?_
  refine G.unit (does_store (vs := [(.bool (decide (r1_5 = 1)))]) (Sat.pick [1, 0, 0, 0] h64) sz4 rfl rfl rfl (by simp [bytesV_length]) (List.forall_mem_cons.2 ⟨rfl, (fun _ hh => by cases hh)⟩) (by simp [bytesV_length])) rfl rfl ?_
  rintro _ w68 h70
  have h69 : Sat W w68 [blk b4 (bytesV (List.ofFn (n := 20) (copyA (fun _ => 0) r3_2)) ++ ([(v64 r1_2), (v64 r1_3), (v32 r1_4.toUInt32), (.bool (decide (r1_5 = 1))), (.int .u16 0), (.int .u16 0), (.int .u16 0), (.string (str ([] : List UInt8)))] : List Value)) 104, blk b [(.slice a B.length c), (vI r2_5), (.bool r3_6)] 55, ow elU8 r116 r217 5 r3_2, blk b1 (bytesV (List.ofFn (n := 20) (fun _ => 0)) ++ ([(.int .u64 0), (.int .u64 0), (.int .u32 0), (.bool false), (.int .u16 0), (.int .u16 0), (.int .u16 0), (.string (str ([] : List UInt8)))] : List Value)) 104] := sl_blk (by kernel_rfl) h70
  refine G.nil ?_
  refine QA.then_normal ?_
  refine C.join (γ := Int × Bool × G_api_Instance) (fun g => match g with | (At_2, Bad_2, i) => [(0, (.pointer (some ⟨b, 0, none⟩))), (2, (.pointer (some ⟨b1, 0, none⟩))), (3, (.bool false)), (4, (.pointer (some ⟨b4, 0, none⟩))), (5, (v64 r1_5))]) (fun g ww => match g with | (At_2, Bad_2, i) => (M_signpostref11_Read_pv_k1 B r1_5 At_2 Bad_2 i = some (r1, r2, r3, r4)) ∧ Sat W ww [blk b [(.slice a B.length c), (vI At_2), (.bool Bad_2)] 55, blk b1 (bytesV (List.ofFn (n := 20) (fun _ => 0)) ++ ([(.int .u64 0), (.int .u64 0), (.int .u32 0), (.bool false), (.int .u16 0), (.int .u16 0), (.int .u16 0), (.string (str ([] : List UInt8)))] : List Value)) 104, blk b4 (bytesV (List.ofFn (n := 20) i.Publisher) ++ ([(v64 i.Seq), (v64 i.Born), (v32 i.Life), (.bool i.Gone), (v16 i.Priority), (v16 i.Weight), (v16 i.Port), (.string (str i.Target))] : List Value)) 104]) ?_ ?_
  · refine C.seq ?_
    refine C.region ?_
    refine G.yl (yl_move rfl) rfl rfl rfl ?_
    refine G.yl (yl_eq64 (b := 0) rfl rfl) rfl rfl rfl ?_
    refine G.nil ?_
    refine QA.then_normal ?_
    rcases sp_ite hm with ⟨hc71, hm⟩ | ⟨hc71, hm⟩
    · refine C.cond_t rfl (dec_t hc71) ?_
      refine C.seq ?_
      refine C.region ?_
      refine G.yl (yl_move rfl) rfl rfl rfl ?_
      obtain ⟨⟨r1_6, r2_6, r3_7⟩, hy74, hm⟩ := sp_bind hm
      refine G.does (does_fn 1 rfl rfl rfl en62 (Sat.pick [1, 0, 0, 0] h69) (fun U hU hp hr hs => M_signpostref01_Reader_Num_pv_w (B := B) (At := r2_5) (Bad := r3_6) (width := 2) (hs.v hv14) hq15 hp hy74)) rfl rfl rfl ?_
      rintro _ w75 ⟨U78, hb79, rfl, h77⟩
      have h76 : Sat W w75 [blk b [(.slice a B.length c), (vI r2_6), (.bool r3_7)] 55, blk b4 (bytesV (List.ofFn (n := 20) (copyA (fun _ => 0) r3_2)) ++ ([(v64 r1_2), (v64 r1_3), (v32 r1_4.toUInt32), (.bool (decide (r1_5 = 1))), (.int .u16 0), (.int .u16 0), (.int .u16 0), (.string (str ([] : List UInt8)))] : List Value)) 104, ow elU8 r116 r217 5 r3_2, blk b1 (bytesV (List.ofFn (n := 20) (fun _ => 0)) ++ ([(.int .u64 0), (.int .u64 0), (.int .u32 0), (.bool false), (.int .u16 0), (.int .u16 0), (.int .u16 0), (.string (str ([] : List UInt8)))] : List Value)) 104] := hb79 h77
      refine G.yl (yl_64to16 us84 Try.underlying31 rfl) rfl rfl rfl ?_
      refine G.yl (yl_fieldAddr fo104_5 rfl) rfl rfl rfl ?_
      refine G.unit (does_store (vs := [(v16 r1_6.toUInt16)]) (Sat.pick [1, 0, 0, 0] h76) sz31 rfl rfl rfl (by simp [bytesV_length]) (List.forall_mem_cons.2 ⟨rfl, (fun _ hh => by cases hh)⟩) (by simp [bytesV_length])) rfl rfl ?_
      rintro _ w80 h82
      have h81 : Sat W w80 [blk b4 (bytesV (List.ofFn (n := 20) (copyA (fun _ => 0) r3_2)) ++ ([(v64 r1_2), (v64 r1_3), (v32 r1_4.toUInt32), (.bool (decide (r1_5 = 1))), (v16 r1_6.toUInt16), (.int .u16 0), (.int .u16 0), (.string (str ([] : List UInt8)))] : List Value)) 104, blk b [(.slice a B.length c), (vI r2_6), (.bool r3_7)] 55, ow elU8 r116 r217 5 r3_2, blk b1 (bytesV (List.ofFn (n := 20) (fun _ => 0)) ++ ([(.int .u64 0), (.int .u64 0), (.int .u32 0), (.bool false), (.int .u16 0), (.int .u16 0), (.int .u16 0), (.string (str ([] : List UInt8)))] : List Value)) 104] := sl_blk (by kernel_rfl) h82
      refine G.nil ?_
      refine QA.then_normal ?_
      refine C.seq ?_
      refine C.region ?_
      refine G.yl (yl_move rfl) rfl rfl rfl ?_
      obtain ⟨⟨r1_7, r2_7, r3_8⟩, hy85, hm⟩ := sp_bind hm
      refine G.does (does_fn 1 rfl rfl rfl en62 (Sat.pick [1, 0, 0, 0] h81) (fun U hU hp hr hs => M_signpostref01_Reader_Num_pv_w (B := B) (At := r2_6) (Bad := r3_7) (width := 2) (hs.v hv14) hq15 hp hy85)) rfl rfl rfl ?_
      rintro _ w86 ⟨U89, hb90, rfl, h88⟩
      have h87 : Sat W w86 [blk b [(.slice a B.length c), (vI r2_7), (.bool r3_8)] 55, blk b4 (bytesV (List.ofFn (n := 20) (copyA (fun _ => 0) r3_2)) ++ ([(v64 r1_2), (v64 r1_3), (v32 r1_4.toUInt32), (.bool (decide (r1_5 = 1))), (v16 r1_6.toUInt16), (.int .u16 0), (.int .u16 0), (.string (str ([] : List UInt8)))] : List Value)) 104, ow elU8 r116 r217 5 r3_2, blk b1 (bytesV (List.ofFn (n := 20) (fun _ => 0)) ++ ([(.int .u64 0), (.int .u64 0), (.int .u32 0), (.bool false), (.int .u16 0), (.int .u16 0), (.int .u16 0), (.string (str ([] : List UInt8)))] : List Value)) 104] := hb90 h88
      refine G.yl (yl_64to16 us84 Try.underlying31 rfl) rfl rfl rfl ?_
      refine G.yl (yl_fieldAddr fo104_6 rfl) rfl rfl rfl ?_
      refine G.unit (does_store (vs := [(v16 r1_7.toUInt16)]) (Sat.pick [1, 0, 0, 0] h87) sz31 rfl rfl rfl (by simp [bytesV_length]) (List.forall_mem_cons.2 ⟨rfl, (fun _ hh => by cases hh)⟩) (by simp [bytesV_length])) rfl rfl ?_
      rintro _ w91 h93
      have h92 : Sat W w91 [blk b4 (bytesV (List.ofFn (n := 20) (copyA (fun _ => 0) r3_2)) ++ ([(v64 r1_2), (v64 r1_3), (v32 r1_4.toUInt32), (.bool (decide (r1_5 = 1))), (v16 r1_6.toUInt16), (v16 r1_7.toUInt16), (.int .u16 0), (.string (str ([] : List UInt8)))] : List Value)) 104, blk b [(.slice a B.length c), (vI r2_7), (.bool r3_8)] 55, ow elU8 r116 r217 5 r3_2, blk b1 (bytesV (List.ofFn (n := 20) (fun _ => 0)) ++ ([(.int .u64 0), (.int .u64 0), (.int .u32 0), (.bool false), (.int .u16 0), (.int .u16 0), (.int .u16 0), (.string (str ([] : List UInt8)))] : List Value)) 104] := sl_blk (by kernel_rfl) h93
      refine G.nil ?_
      refine QA.then_normal ?_
      refine C.seq ?_
      refine C.region ?_
      refine G.yl (yl_move rfl) rfl rfl rfl ?_
      obtain ⟨⟨r1_8, r2_8, r3_9⟩, hy96, hm⟩ := sp_bind hm
      refine G.does (does_fn 1 rfl rfl rfl en62 (Sat.pick [1, 0, 0, 0] h92) (fun U hU hp hr hs => M_signpostref01_Reader_Num_pv_w (B := B) (At := r2_7) (Bad := r3_8) (width := 2) (hs.v hv14) hq15 hp hy96)) rfl rfl rfl ?_
      rintro _ w97 ⟨U100, hb101, rfl, h99⟩
      have h98 : Sat W w97 [blk b [(.slice a B.length c), (vI r2_8), (.bool r3_9)] 55, blk b4 (bytesV (List.ofFn (n := 20) (copyA (fun _ => 0) r3_2)) ++ ([(v64 r1_2), (v64 r1_3), (v32 r1_4.toUInt32), (.bool (decide (r1_5 = 1))), (v16 r1_6.toUInt16), (v16 r1_7.toUInt16), (.int .u16 0), (.string (str ([] : List UInt8)))] : List Value)) 104, ow elU8 r116 r217 5 r3_2, blk b1 (bytesV (List.ofFn (n := 20) (fun _ => 0)) ++ ([(.int .u64 0), (.int .u64 0), (.int .u32 0), (.bool false), (.int .u16 0), (.int .u16 0), (.int .u16 0), (.string (str ([] : List UInt8)))] : List Value)) 104] := hb101 h99
      refine G.yl (yl_64to16 us84 Try.underlying31 rfl) rfl rfl rfl ?_
      refine G.yl (yl_fieldAddr fo104_7 rfl) rfl rfl rfl ?_
      refine G.unit (does_store (vs := [(v16 r1_8.toUInt16)]) (Sat.pick [1, 0, 0, 0] h98) sz31 rfl rfl rfl (by simp [bytesV_length]) (List.forall_mem_cons.2 ⟨rfl, (fun _ hh => by cases hh)⟩) (by simp [bytesV_length])) rfl rfl ?_
      rintro _ w102 h104
      have h103 : Sat W w102 [blk b4 (bytesV (List.ofFn (n := 20) (copyA (fun _ => 0) r3_2)) ++ ([(v64 r1_2), (v64 r1_3), (v32 r1_4.toUInt32), (.bool (decide (r1_5 = 1))), (v16 r1_6.toUInt16), (v16 r1_7.toUInt16), (v16 r1_8.toUInt16), (.string (str ([] : List UInt8)))] : List Value)) 104, blk b [(.slice a B.length c), (vI r2_8), (.bool r3_9)] 55, ow elU8 r116 r217 5 r3_2, blk b1 (bytesV (List.ofFn (n := 20) (fun _ => 0)) ++ ([(.int .u64 0), (.int .u64 0), (.int .u32 0), (.bool false), (.int .u16 0), (.int .u16 0), (.int .u16 0), (.string (str ([] : List UInt8)))] : List Value)) 104] := sl_blk (by kernel_rfl) h104
      refine G.nil ?_
      refine QA.then_normal ?_
      refine C.region ?_
      refine G.yl (yl_move rfl) rfl rfl rfl ?_
      obtain ⟨⟨r1_9, r2_9, r3_10⟩, hy107, hm⟩ := sp_bind hm
      refine G.does (does_fn 1 rfl rfl rfl en111 (Sat.pick [1, 0, 0, 0] h103) (fun U hU hp hr hs => M_signpostref01_Reader_Text_pv_w (B := B) (At := r2_8) (Bad := r3_9) (most := 1024) (hs.v hv14) hq15 hp hy107)) rfl rfl rfl ?_
      rintro _ w108 ⟨U111, hb112, rfl, h110⟩
      have h109 : Sat W w108 [blk b [(.slice a B.length c), (vI r2_9), (.bool r3_10)] 55, blk b4 (bytesV (List.ofFn (n := 20) (copyA (fun _ => 0) r3_2)) ++ ([(v64 r1_2), (v64 r1_3), (v32 r1_4.toUInt32), (.bool (decide (r1_5 = 1))), (v16 r1_6.toUInt16), (v16 r1_7.toUInt16), (v16 r1_8.toUInt16), (.string (str ([] : List UInt8)))] : List Value)) 104, ow elU8 r116 r217 5 r3_2, blk b1 (bytesV (List.ofFn (n := 20) (fun _ => 0)) ++ ([(.int .u64 0), (.int .u64 0), (.int .u32 0), (.bool false), (.int .u16 0), (.int .u16 0), (.int .u16 0), (.string (str ([] : List UInt8)))] : List Value)) 104] := hb112 h110
      refine G.yl (yl_fieldAddr fo104_8 rfl) rfl rfl rfl ?_
      refine G.unit (does_store (vs := [(.string (str r1_9))]) (Sat.pick [1, 0, 0, 0] h109) sz9 rfl rfl rfl (by simp [bytesV_length]) (List.forall_mem_cons.2 ⟨rfl, (fun _ hh => by cases hh)⟩) (by simp [bytesV_length])) rfl rfl ?_
      rintro _ w113 h115
      have h114 : Sat W w113 [blk b4 (bytesV (List.ofFn (n := 20) (copyA (fun _ => 0) r3_2)) ++ ([(v64 r1_2), (v64 r1_3), (v32 r1_4.toUInt32), (.bool (decide (r1_5 = 1))), (v16 r1_6.toUInt16), (v16 r1_7.toUInt16), (v16 r1_8.toUInt16), (.string (str r1_9))] : List Value)) 104, blk b [(.slice a B.length c), (vI r2_9), (.bool r3_10)] 55, ow elU8 r116 r217 5 r3_2, blk b1 (bytesV (List.ofFn (n := 20) (fun _ => 0)) ++ ([(.int .u64 0), (.int .u64 0), (.int .u32 0), (.bool false), (.int .u16 0), (.int .u16 0), (.int .u16 0), (.string (str ([] : List UInt8)))] : List Value)) 104] := sl_blk (by kernel_rfl) h115
      refine G.nil ?_
      exact QA.join (r2_9, r3_10, (G_api_Instance.mk (copyA (fun _ => 0) r3_2) r1_2 r1_3 r1_4.toUInt32 (decide (r1_5 = 1)) r1_6.toUInt16 r1_7.toUInt16 r1_8.toUInt16 r1_9)) (Sub.of ⟨rfl, rfl, rfl, rfl, rfl, trivial⟩) ⟨hm, (Sat.pick [1, 2, 0] h114)⟩
    · refine C.cond_f rfl (dec_f hc71) ?_
      refine C.skip ?_
      exact QA.join (r2_5, r3_6, (G_api_Instance.mk (copyA (fun _ => 0) r3_2) r1_2 r1_3 r1_4.toUInt32 (decide (r1_5 = 1)) 0 0 0 ([] : List UInt8))) (Sub.of ⟨rfl, rfl, rfl, rfl, rfl, trivial⟩) ⟨hm, (Sat.pick [1, 2, 0] h69)⟩
  · rintro ⟨At_2, Bad_2, i⟩ w116 ⟨hm, h117⟩
    show C _ _ _ [(0, (.pointer (some ⟨b, 0, none⟩))), (2, (.pointer (some ⟨b1, 0, none⟩))), (3, (.bool false)), (4, (.pointer (some ⟨b4, 0, none⟩))), (5, (v64 r1_5))] _ _
    unfold M_signpostref11_Read_pv_k1 at hm
    refine C.seq ?_
    refine C.join (γ := Bool) (fun g => match g with | t55 => [(0, (.pointer (some ⟨b, 0, none⟩))), (2, (.pointer (some ⟨b1, 0, none⟩))), (3, (.bool false)), (4, (.pointer (some ⟨b4, 0, none⟩))), (55, (.bool t55))]) (fun g ww => match g with | t55 => (M_signpostref11_Read_pv_k2 At_2 B Bad_2 i t55 = some (r1, r2, r3, r4)) ∧ Sat W ww [blk b [(.slice a B.length c), (vI At_2), (.bool Bad_2)] 55, blk b1 (bytesV (List.ofFn (n := 20) (fun _ => 0)) ++ ([(.int .u64 0), (.int .u64 0), (.int .u32 0), (.bool false), (.int .u16 0), (.int .u16 0), (.int .u16 0), (.string (str ([] : List UInt8)))] : List Value)) 104, blk b4 (bytesV (List.ofFn (n := 20) i.Publisher) ++ ([(v64 i.Seq), (v64 i.Born), (v32 i.Life), (.bool i.Gone), (v16 i.Priority), (v16 i.Weight), (v16 i.Port), (.string (str i.Target))] : List Value)) 104]) ?_ ?_
    · refine C.region ?_
      refine G.yl (yl_move rfl) rfl rfl rfl ?_
      refine G.yl (yl_nilCheck rfl) rfl rfl rfl ?_
      refine G.yl (yl_fieldAddr fo55_2 rfl) rfl rfl rfl ?_
      refine G.yl (yl_load (v := (.bool Bad_2)) ag4 rfl (View.at0 (j := 2) h117.isBlk.view0 rfl)) rfl rfl rfl ?_
      refine G.yl (yl_move rfl) rfl rfl rfl ?_
      rcases sp_b hm with ⟨hc118, hm⟩ | ⟨hc118, hm⟩
      · refine G.offU rfl rfl hc118 rfl ?_
        refine G.offU rfl rfl hc118 rfl ?_
        refine G.yl (yl_pick_t rfl hc118 rfl) rfl rfl rfl ?_
        refine G.yl (yl_move rfl) rfl rfl rfl ?_
        refine G.offU rfl rfl rfl rfl ?_
        refine G.offU rfl rfl rfl rfl ?_
        refine G.offU rfl rfl rfl rfl ?_
        refine G.yl (yl_pick_t rfl rfl rfl) rfl rfl rfl ?_
        refine G.nil ?_
        exact QA.join true (Sub.of ⟨rfl, rfl, rfl, rfl, rfl, trivial⟩) ⟨hm, (Sat.pick [0, 0, 0] h117)⟩
      · refine G.on rfl rfl hc118 ?_
        refine G.yl (yl_move rfl) rfl rfl rfl ?_
        refine G.on rfl rfl hc118 ?_
        refine G.yl (yl_gt64 (b := 1) rfl rfl) rfl rfl rfl ?_
        refine G.yl (yl_pick_f rfl hc118 rfl) rfl rfl rfl ?_
        refine G.yl (yl_move rfl) rfl rfl rfl ?_
        rcases sp_ite hm with ⟨hc119, hm⟩ | ⟨hc119, hm⟩
        · refine G.offU rfl rfl (dec_t hc119) rfl ?_
          refine G.offU rfl rfl (dec_t hc119) rfl ?_
          refine G.offU rfl rfl (dec_t hc119) rfl ?_
          refine G.yl (yl_pick_t rfl (dec_t hc119) rfl) rfl rfl rfl ?_
          refine G.nil ?_
          exact QA.join true (Sub.of ⟨rfl, rfl, rfl, rfl, rfl, trivial⟩) ⟨hm, (Sat.pick [0, 0, 0] h117)⟩
        · refine G.on rfl rfl (dec_f hc119) ?_
          refine G.yl (yl_loadN (vs := (bytesV (List.ofFn (n := 20) i.Publisher) ++ ([(v64 i.Seq), (v64 i.Born), (v32 i.Life), (.bool i.Gone), (v16 i.Priority), (v16 i.Weight), (v16 i.Port), (.string (str i.Target))] : List Value))) ag104 sz104 (by simp [bytesV_length]) rfl ((Sat.pick [2] h117).isBlk.view0)) rfl rfl rfl ?_
          refine G.on rfl rfl (dec_f hc119) ?_
          obtain ⟨r1_10, hy120, hm⟩ := sp_bind hm
          refine G.does (does_fn 0 rfl rfl rfl en112 h117 (fun U hU hp hr hs => M_signpostref11_Good_w (i := i) hp hy120)) rfl rfl rfl ?_
          rintro _ w121 ⟨U124, hb125, rfl, h123⟩
          have h122 : Sat W w121 [blk b [(.slice a B.length c), (vI At_2), (.bool Bad_2)] 55, blk b1 (bytesV (List.ofFn (n := 20) (fun _ => 0)) ++ ([(.int .u64 0), (.int .u64 0), (.int .u32 0), (.bool false), (.int .u16 0), (.int .u16 0), (.int .u16 0), (.string (str ([] : List UInt8)))] : List Value)) 104, blk b4 (bytesV (List.ofFn (n := 20) i.Publisher) ++ ([(v64 i.Seq), (v64 i.Born), (v32 i.Life), (.bool i.Gone), (v16 i.Priority), (v16 i.Weight), (v16 i.Port), (.string (str i.Target))] : List Value)) 104] := hb125 h123
          refine G.on rfl rfl (dec_f hc119) ?_
          refine G.yl (yl_not rfl) rfl rfl rfl ?_
          refine G.yl (yl_pick_f rfl (dec_f hc119) rfl) rfl rfl rfl ?_
          refine G.nil ?_
          exact QA.join (!r1_10) (Sub.of ⟨rfl, rfl, rfl, rfl, rfl, trivial⟩) ⟨hm, (Sat.pick [0, 0, 0] h122)⟩
    · rintro t55 w126 ⟨hm, h127⟩
      show C _ _ _ [(0, (.pointer (some ⟨b, 0, none⟩))), (2, (.pointer (some ⟨b1, 0, none⟩))), (3, (.bool false)), (4, (.pointer (some ⟨b4, 0, none⟩))), (55, (.bool t55))] _ _
      unfold M_signpostref11_Read_pv_k2 at hm
      rcases sp_b hm with ⟨hc128, hm⟩ | ⟨hc128, hm⟩
      · refine C.cond_t rfl hc128 ?_
        refine C.seq ?_
        refine C.region ?_
        refine G.yl (yl_move rfl) rfl rfl rfl ?_
        obtain ⟨⟨r3_11, r4_3, r5_3⟩, hy131, hm⟩ := sp_bind hm
        refine G.does (does_fn 1 rfl rfl rfl en65 (Sat.pick [0, 0, 0] h127) (fun U hU hp hr hs => M_signpostref01_Reader_Take_pv_w (B := B) (At := At_2) (Bad := Bad_2) (n := (-1)) (hs.v hv14) hq15 hp hy131)) rfl rfl rfl ?_
        rintro _ w134 ⟨U137, hb138, r1132, r2133, rfl, h136⟩
        have h135 : Sat W w134 [ow elU8 r1132 r2133 5 r3_11, blk b [(.slice a B.length c), (vI r4_3), (.bool r5_3)] 55, blk b1 (bytesV (List.ofFn (n := 20) (fun _ => 0)) ++ ([(.int .u64 0), (.int .u64 0), (.int .u32 0), (.bool false), (.int .u16 0), (.int .u16 0), (.int .u16 0), (.string (str ([] : List UInt8)))] : List Value)) 104, blk b4 (bytesV (List.ofFn (n := 20) i.Publisher) ++ ([(v64 i.Seq), (v64 i.Born), (v32 i.Life), (.bool i.Gone), (v16 i.Priority), (v16 i.Weight), (v16 i.Port), (.string (str i.Target))] : List Value)) 104] := hb138 h136
        refine G.nil ?_
        refine QA.then_normal ?_
        refine C.seq ?_
        refine C.region ?_
        refine G.yl (yl_build (vs := []) (cells := (bytesV (List.ofFn (n := 20) (fun _ => 0)) ++ ([(.int .u64 0), (.int .u64 0), (.int .u32 0), (.bool false), (.int .u16 0), (.int .u16 0), (.int .u16 0), (.string (str ([] : List UInt8)))] : List Value)).toArray) rfl (by kernel_rfl)) rfl rfl rfl ?_
        refine G.unit (does_store (vs := (bytesV (List.ofFn (n := 20) (fun _ => 0)) ++ ([(.int .u64 0), (.int .u64 0), (.int .u32 0), (.bool false), (.int .u16 0), (.int .u16 0), (.int .u16 0), (.string (str ([] : List UInt8)))] : List Value))) (Sat.pick [2, 0, 0, 0] h135) sz104 rfl rfl rfl (by simp [bytesV_length]) (List.forall_mem_append.2 ⟨(bytesV_one _), (List.forall_mem_cons.2 ⟨rfl, (List.forall_mem_cons.2 ⟨rfl, (List.forall_mem_cons.2 ⟨rfl, (List.forall_mem_cons.2 ⟨rfl, (List.forall_mem_cons.2 ⟨rfl, (List.forall_mem_cons.2 ⟨rfl, (List.forall_mem_cons.2 ⟨rfl, (List.forall_mem_cons.2 ⟨rfl, (fun _ hh => by cases hh)⟩)⟩)⟩)⟩)⟩)⟩)⟩)⟩)⟩) (by simp [bytesV_length])) rfl rfl ?_
        rintro _ w139 h141
        have h140 : Sat W w139 [blk b1 (bytesV (List.ofFn (n := 20) (fun _ => 0)) ++ ([(.int .u64 0), (.int .u64 0), (.int .u32 0), (.bool false), (.int .u16 0), (.int .u16 0), (.int .u16 0), (.string (str ([] : List UInt8)))] : List Value)) 104, ow elU8 r1132 r2133 5 r3_11, blk b [(.slice a B.length c), (vI r4_3), (.bool r5_3)] 55, blk b4 (bytesV (List.ofFn (n := 20) i.Publisher) ++ ([(v64 i.Seq), (v64 i.Born), (v32 i.Life), (.bool i.Gone), (v16 i.Priority), (v16 i.Weight), (v16 i.Port), (.string (str i.Target))] : List Value)) 104] := sl_blk (setN_all _ _ (by simp [bytesV_length])) h141
        refine G.yl (yl_assign rfl) rfl rfl rfl ?_
        refine G.nil ?_
        refine QA.then_normal ?_
        refine C.ret ?_
        refine QA.then_ret ?_
        refine QA.ret_ct rfl (InCell.many (vs := (bytesV (List.ofFn (n := 20) (fun _ => 0)) ++ ([(.int .u64 0), (.int .u64 0), (.int .u32 0), (.bool false), (.int .u16 0), (.int .u16 0), (.int .u16 0), (.string (str ([] : List UInt8)))] : List Value))) rfl ag104 sz104 (by simp [bytesV_length]) (h140.isBlk.view0)) rfl ?_
        obtain ⟨rfl, rfl, rfl, rfl⟩ := sp_ret4 hm
        exact ⟨rfl, (Sat.pick [2] h140)⟩
      · refine C.cond_f rfl hc128 ?_
        refine C.skip ?_
        refine QA.then_normal ?_
        refine C.seq ?_
        refine C.region ?_
        refine G.yl (yl_loadN (vs := (bytesV (List.ofFn (n := 20) i.Publisher) ++ ([(v64 i.Seq), (v64 i.Born), (v32 i.Life), (.bool i.Gone), (v16 i.Priority), (v16 i.Weight), (v16 i.Port), (.string (str i.Target))] : List Value))) ag104 sz104 (by simp [bytesV_length]) rfl ((Sat.pick [2] h127).isBlk.view0)) rfl rfl rfl ?_
        refine G.unit (does_store (vs := (bytesV (List.ofFn (n := 20) i.Publisher) ++ ([(v64 i.Seq), (v64 i.Born), (v32 i.Life), (.bool i.Gone), (v16 i.Priority), (v16 i.Weight), (v16 i.Port), (.string (str i.Target))] : List Value))) (Sat.pick [1, 0, 0] h127) sz104 rfl rfl rfl (by simp [bytesV_length]) (List.forall_mem_append.2 ⟨(bytesV_one _), (List.forall_mem_cons.2 ⟨rfl, (List.forall_mem_cons.2 ⟨rfl, (List.forall_mem_cons.2 ⟨rfl, (List.forall_mem_cons.2 ⟨rfl, (List.forall_mem_cons.2 ⟨rfl, (List.forall_mem_cons.2 ⟨rfl, (List.forall_mem_cons.2 ⟨rfl, (List.forall_mem_cons.2 ⟨rfl, (fun _ hh => by cases hh)⟩)⟩)⟩)⟩)⟩)⟩)⟩)⟩)⟩) (by simp [bytesV_length])) rfl rfl ?_
        rintro _ w142 h144
        have h143 : Sat W w142 [blk b1 (bytesV (List.ofFn (n := 20) i.Publisher) ++ ([(v64 i.Seq), (v64 i.Born), (v32 i.Life), (.bool i.Gone), (v16 i.Priority), (v16 i.Weight), (v16 i.Port), (.string (str i.Target))] : List Value)) 104, blk b [(.slice a B.length c), (vI At_2), (.bool Bad_2)] 55, blk b4 (bytesV (List.ofFn (n := 20) i.Publisher) ++ ([(v64 i.Seq), (v64 i.Born), (v32 i.Life), (.bool i.Gone), (v16 i.Priority), (v16 i.Weight), (v16 i.Port), (.string (str i.Target))] : List Value)) 104] := sl_blk (setN_all _ _ (by simp [bytesV_length])) h144
        refine G.yl (yl_assign rfl) rfl rfl rfl ?_
        refine G.nil ?_
        refine QA.then_normal ?_
        refine C.ret ?_
        refine QA.ret_ct rfl (InCell.many (vs := (bytesV (List.ofFn (n := 20) i.Publisher) ++ ([(v64 i.Seq), (v64 i.Born), (v32 i.Life), (.bool i.Gone), (v16 i.Priority), (v16 i.Weight), (v16 i.Port), (.string (str i.Target))] : List Value))) rfl ag104 sz104 (by simp [bytesV_length]) (h143.isBlk.view0)) rfl ?_
        obtain ⟨rfl, rfl, rfl, rfl⟩ := sp_ret4 hm
        exact ⟨rfl, (Sat.pick [1] h143)⟩
set_option maxRecDepth 20000 in
set_option maxHeartbeats 1000000 in
theorem M_signpostref12_before_w {W : Base} {w : World} {a : G_api_Instance} {b : G_api_Instance}  (h : Sat W w [])  (hm : M_signpostref12_before a b = some ()) :
    Calls Try.prog 113 #[(.agg (bytesV (List.ofFn (n := 20) a.Publisher) ++ ([(v64 a.Seq), (v64 a.Born), (v32 a.Life), (.bool a.Gone), (v16 a.Priority), (v16 a.Weight), (v16 a.Port), (.string (str a.Target))] : List Value)).toArray), (.agg (bytesV (List.ofFn (n := 20) b.Publisher) ++ ([(v64 b.Seq), (v64 b.Born), (v32 b.Life), (.bool b.Gone), (v16 b.Priority), (v16 b.Weight), (v16 b.Port), (.string (str b.Target))] : List Value)).toArray)] w (Ret fun v w' => v = (.bool (ltS (List.ofFn a.Publisher) (List.ofFn b.Publisher))) ∧ Sat W w' []) := by
  unfold M_signpostref12_before at hm
  refine C.enter (N := 12) Try.func113 rfl Try.ntmps113 rfl ?_
  show C _ _ _ [(0, (.agg (bytesV (List.ofFn (n := 20) a.Publisher) ++ ([(v64 a.Seq), (v64 a.Born), (v32 a.Life), (.bool a.Gone), (v16 a.Priority), (v16 a.Weight), (v16 a.Port), (.string (str a.Target))] : List Value)).toArray)), (1, (.agg (bytesV (List.ofFn (n := 20) b.Publisher) ++ ([(v64 b.Seq), (v64 b.Born), (v32 b.Life), (.bool b.Gone), (v16 b.Priority), (v16 b.Weight), (v16 b.Port), (.string (str b.Target))] : List Value)).toArray))] _ _
  refine C.seq ?_
  refine C.region ?_
  refine G.does (does_box (cs := (bytesV (List.ofFn (n := 20) a.Publisher) ++ ([(v64 a.Seq), (v64 a.Born), (v32 a.Life), (.bool a.Gone), (v16 a.Priority), (v16 a.Weight), (v16 a.Port), (.string (str a.Target))] : List Value))) h rfl rfl) rfl rfl rfl ?_
  rintro _ w2 ⟨b1, rfl, h3⟩
  refine G.does (does_box (cs := (bytesV (List.ofFn (n := 20) b.Publisher) ++ ([(v64 b.Seq), (v64 b.Born), (v32 b.Life), (.bool b.Gone), (v16 b.Priority), (v16 b.Weight), (v16 b.Port), (.string (str b.Target))] : List Value))) h3 rfl rfl) rfl rfl rfl ?_
  rintro _ w5 ⟨b4, rfl, h6⟩
  refine G.yl (yl_assign rfl) rfl rfl rfl ?_
  refine G.nil ?_
  refine QA.then_normal ?_
  refine C.seq ?_
  refine C.draw (V := fun w' => View w' (some ⟨b1, 0, none⟩) (elU8.row (List.ofFn a.Publisher)) ∧ View w' (some ⟨b4, 0, none⟩) (elU8.row (List.ofFn b.Publisher))) (nd := [2, 5]) (sp := []) (n := 8) rfl h6 rfl rfl ?_
  intro w7 h8
  have hS9 : Cls (fun w' => View w' (some ⟨b1, 0, none⟩) (elU8.row (List.ofFn a.Publisher)) ∧ View w' (some ⟨b4, 0, none⟩) (elU8.row (List.ofFn b.Publisher))) [2, 5] [] #[false, false, false, false, false, false, false, false] w7 := Cls.keep (⟨(View.of_bytes (View.span_head (Sat.pick [1] h8).isBlk.view0)), (View.of_bytes (View.span_head h8.isBlk.view0))⟩) (by kernel_rfl)
  refine GH.yl (i := 0) (listed' := #[true, false, false, false, false, false, false, false]) rfl (by kernel_rfl) rfl (NP.next NP.body) rfl rfl rfl (fun w' => yl_fieldAddr fo104_0 rfl) hS9 (fun hS10 => ?_)
  refine GH.yl (i := 1) (listed' := #[true, true, false, false, false, false, false, false]) rfl (by kernel_rfl) rfl (NP.next NP.body) rfl rfl rfl (fun w' => yl_slice_arr (n := 20) (l := 0) (h := 20) (s := 1) (v := (.slice (some ⟨b1, 0, none⟩) 20 20)) Try.underlying63 (by kernel_rfl) (by kernel_rfl) rfl rfl rfl (by decide) (by decide) rfl) hS10 (fun hS11 => ?_)
  refine GH.yr (i := 2) (listed' := #[true, true, true, false, false, false, false, false]) rfl (by kernel_rfl) rfl rfl (NP.next NP.body) rfl rfl rfl (fun w' hw' => yl_strE Try.underlying22 Try.underlying5 Try.underlying9 rfl rfl (hw'.1)) hS11 (fun hS12 => ?_)
  refine GH.yl (i := 3) (listed' := #[true, true, true, true, false, false, false, false]) rfl (by kernel_rfl) rfl (NP.next NP.body) rfl rfl rfl (fun w' => yl_fieldAddr fo104_0 rfl) hS12 (fun hS13 => ?_)
  refine GH.yl (i := 4) (listed' := #[true, true, true, true, true, false, false, false]) rfl (by kernel_rfl) rfl (NP.next NP.body) rfl rfl rfl (fun w' => yl_slice_arr (n := 20) (l := 0) (h := 20) (s := 1) (v := (.slice (some ⟨b4, 0, none⟩) 20 20)) Try.underlying63 (by kernel_rfl) (by kernel_rfl) rfl rfl rfl (by decide) (by decide) rfl) hS13 (fun hS14 => ?_)
  refine GH.yr (i := 5) (listed' := #[true, true, true, true, true, true, false, false]) rfl (by kernel_rfl) rfl rfl (NP.next NP.body) rfl rfl rfl (fun w' hw' => yl_strE Try.underlying22 Try.underlying5 Try.underlying9 rfl rfl (hw'.2)) hS14 (fun hS15 => ?_)
  refine GH.yl (i := 6) (listed' := #[true, true, true, true, true, true, true, false]) rfl (by kernel_rfl) rfl (NP.next NP.body) rfl rfl rfl (fun w' => yl_ltS rfl rfl) hS15 (fun hS16 => ?_)
  refine GH.yl (i := 7) (listed' := #[true, true, true, true, true, true, true, true]) rfl (by kernel_rfl) rfl (NP.next NP.body) rfl rfl rfl (fun w' => yl_assign rfl) hS16 (fun hS17 => ?_)
  refine GH.done (by kernel_rfl) ?_
  refine QA.then_normal ?_
  refine C.ret ?_
  refine QA.ret1 rfl rfl ?_
  exact ⟨rfl, (Sat.pick [] h8)⟩
end Go.Proofs.Ytlkilokdbkjbmaa
