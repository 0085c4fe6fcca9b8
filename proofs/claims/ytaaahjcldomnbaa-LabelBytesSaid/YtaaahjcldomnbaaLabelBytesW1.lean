/-
  That the functions of the program compute what their Lean functions say, part 1. No condition.
-/
import Derived.Test.YtaaahjcldomnbaaLabelBytesW0
namespace Go.Proofs.Ytaaahjcldomnbaa
open Go Go.RowKit
set_option linter.unusedVariables false
set_option linter.unusedSimpArgs false
set_option linter.unnecessarySimpa false
set_option maxRecDepth 20000 in
theorem M_signpostref09_Wire_w {W : Base} {w : World} {s : List UInt8}  (h : Sat W w []) {r3 : List UInt8} {r4 : Int} (hm : M_signpostref09_Wire s = some (r3, r4)) :
    Calls Try.prog 52 #[(.string (str s))] w (Ret fun v w' => ∃ r1 : Option Addr, ∃ r2 : Nat, v = (.tuple #[(.slice r1 r3.length r2), (vI r4)]) ∧ Sat W w' [ow elU8 r1 r2 5 r3]) := by
  unfold M_signpostref09_Wire at hm
  refine C.enter (N := 36) Try.func52 rfl Try.ntmps52 rfl ?_
  show C _ _ _ [(0, (.string (str s)))] _ _
  refine C.seq ?_
  refine C.region ?_
  refine G.yl (yl_assign rfl) rfl rfl rfl ?_
  refine G.yl (yl_assign rfl) rfl rfl rfl ?_
  refine G.nil ?_
  refine QA.then_normal ?_
  refine C.seq ?_
  refine C.seq ?_
  refine C.region ?_
  refine G.yl (yl_move rfl) rfl rfl rfl ?_
  obtain ⟨r1_2, hy1, hm⟩ := sp_bind hm
  refine G.does (does_fn 0 rfl rfl rfl en86 h (fun U hU hp hr hs => M_signpostref09_Good_w hp hy1)) rfl rfl rfl ?_
  rintro _ w2 ⟨U5, hb6, rfl, h4⟩
  have h3 : Sat W w2 [] := hb6 h4
  refine G.yl (yl_not rfl) rfl rfl rfl ?_
  refine G.nil ?_
  refine QA.then_normal ?_
  rcases sp_b hm with ⟨hc7, hm⟩ | ⟨hc7, hm⟩
  · refine C.cond_f rfl (not_f hc7) ?_
    refine C.skip ?_
    refine QA.then_normal ?_
    refine C.seq ?_
    refine C.region ?_
    refine G.yl (yl_assign rfl) rfl rfl rfl ?_
    refine G.nil ?_
    refine QA.then_normal ?_
    refine C.seq ?_
    refine C.region ?_
    refine G.yl (yl_move rfl) rfl rfl rfl ?_
    obtain ⟨r3_2, hy8, hm⟩ := sp_bind hm
    refine G.does (does_fn 0 rfl rfl rfl en87 h3 (fun U hU hp hr hs => M_signpostref09_Parts_w hp hy8)) rfl rfl rfl ?_
    rintro _ w11 ⟨U14, hb15, r19, r210, rfl, h13⟩
    have h12 : Sat W w11 [ow elStr r19 r210 9 r3_2] := hb15 h13
    refine G.yl (yl_assign rfl) rfl rfl rfl ?_
    refine G.nil ?_
    refine QA.then_normal ?_
    refine C.seq ?_
    refine C.seq ?_
    refine C.region ?_
    refine G.yl (yl_assign rfl) rfl rfl rfl ?_
    refine G.nil ?_
    refine QA.then_normal ?_
    refine C.block ?_
    obtain ⟨o, ho16, hm17⟩ := sp_bind hm
    refine C.left (γ := Option Addr × Nat × List UInt8) (.exit 0) (fun g => match g with | (a_2, c_2, out_2) => [(2, (.slice none 0 0)), (3, (vI 0)), (4, (.slice a_2 out_2.length c_2))]) (fun g ww => match g with | (a_2, c_2, out_2) => out_2 = o ∧ Sat W ww [ow elU8 a_2 c_2 5 out_2]) ?_ ?_
    · refine C.loopO (γ := Option Addr × Nat × List UInt8 × Int) (fun g => match g with | (a, c, out, i) => [(2, (.slice none 0 0)), (3, (vI 0)), (4, (.slice a out.length c)), (5, (.slice r19 r3_2.length r210)), (6, (vI i))]) (fun g ww => match g with | (a, c, out, i) => Sat W ww [ow elU8 a c 5 out, ow elStr r19 r210 9 r3_2]) (fun g => match g with | (a, c, out, i) => (out, i)) (none, 0, ([] : List UInt8), 0) ho16 (Sub.of ⟨rfl, rfl, rfl, rfl, rfl, trivial⟩) (Sat.pick [0, 0] (Sat.own_zero h12 elU8 none 5)) ?_
      rintro ⟨a, c, out, i⟩ k20 w18 y_ h19 hm hg21
      show C _ _ _ [(2, (.slice none 0 0)), (3, (vI 0)), (4, (.slice a out.length c)), (5, (.slice r19 r3_2.length r210)), (6, (vI i))] _ _
      change M_signpostref09_Wire_b1 r3_2 out i = some y_ at hm
      unfold M_signpostref09_Wire_b1 at hm
      refine C.seq ?_
      refine C.seq ?_
      refine C.region ?_
      refine G.yl (yl_move rfl) rfl rfl rfl ?_
      refine G.yl (yl_move rfl) rfl rfl rfl ?_
      refine G.yl (yl_lenE Try.underlying133 rfl) rfl rfl rfl ?_
      refine G.yl (yl_ltI rfl rfl) rfl rfl rfl ?_
      refine G.nil ?_
      refine QA.then_normal ?_
      rcases sp_ite hm with ⟨hc22, hm⟩ | ⟨hc22, hm⟩
      · refine C.cond_t rfl (dec_t hc22) ?_
        refine C.skip ?_
        refine QA.then_normal ?_
        refine C.seq ?_
        refine C.block ?_
        refine C.seq ?_
        refine C.region ?_
        refine G.yl (yl_move rfl) rfl rfl rfl ?_
        refine G.yl (yl_move rfl) rfl rfl rfl ?_
        refine G.yl (yl_move rfl) rfl rfl rfl ?_
        obtain ⟨x, hy23, hm⟩ := sp_bind hm
        refine G.yl (yl_ixP (l := r3_2) sl133 rfl rfl (View.isA (E := elStr) (Sat.own_view (Sat.pick [1] h19)) (by decide) (at?_lt hy23)) rfl (at?_lt hy23)) rfl rfl rfl ?_
        refine G.yl (yl_ld1 (E := elStr) (v := (.string (str x))) ag9 rfl (Sat.own_view (Sat.pick [1] h19)) (at?_some hy23).2 rfl) rfl rfl rfl ?_
        refine G.yl (yl_slenE Try.underlying9 rfl) rfl rfl rfl ?_
        refine G.yl (yl_I8 us3 Try.underlying5 rfl) rfl rfl rfl ?_
        refine G.does (does_lit (E := elU8) (l := [UInt8.ofInt (x.length : Int)]) (vs := [(v8 (UInt8.ofInt (x.length : Int)))]) (cs := [(v8 (UInt8.ofInt (x.length : Int)))]) (e := 5) h19 rfl (by kernel_rfl) rfl rfl (by decide)) rfl rfl rfl ?_
        rintro _ w25 ⟨a24, rfl, h26⟩
        obtain ⟨hc27, hm⟩ := sp_chk hm
        refine G.does (does_app (E := elU8) (l := out) (l2 := [UInt8.ofInt (x.length : Int)]) Try.underlying22 el5 (Sat.pick [1, 0, 0] h26) rfl rfl rfl rfl (by decide) (Sat.own_view h26) hc27 (by decide)) rfl rfl rfl ?_
        rintro _ w30 ⟨a28, c29, rfl, h31⟩
        refine G.yl (yl_assign rfl) rfl rfl rfl ?_
        refine G.nil ?_
        refine QA.then_normal ?_
        refine C.region ?_
        refine G.yl (yl_move rfl) rfl rfl rfl ?_
        refine G.yl (yl_move rfl) rfl rfl rfl ?_
        refine G.yl (yl_move rfl) rfl rfl rfl ?_
        refine G.yl (yl_ixP (l := r3_2) sl133 rfl rfl (View.isA (E := elStr) (Sat.own_view (Sat.pick [2] h31)) (by decide) (at?_lt hy23)) rfl (at?_lt hy23)) rfl rfl rfl ?_
        refine G.yl (yl_ld1 (E := elStr) (v := (.string (str x))) ag9 rfl (Sat.own_view (Sat.pick [2] h31)) (at?_some hy23).2 rfl) rfl rfl rfl ?_
        obtain ⟨hc32, hm⟩ := sp_chk hm
        refine G.does (does_appS (l := out ++ [UInt8.ofInt (x.length : Int)]) (s := x) Try.underlying22 el5 h31 rfl rfl rfl hc32 Try.underlying9 (by decide)) rfl rfl rfl ?_
        rintro _ w35 ⟨a33, c34, rfl, h36⟩
        refine G.yl (yl_assign rfl) rfl rfl rfl ?_
        refine G.nil ?_
        refine QA.block_normal ?_
        refine QA.then_normal ?_
        refine C.region ?_
        refine G.yl (yl_move rfl) rfl rfl rfl ?_
        obtain ⟨hc37, hm⟩ := sp_chk hm
        refine G.yl (yl_addI rfl rfl hc37) rfl rfl rfl ?_
        refine G.yl (yl_assign rfl) rfl rfl rfl ?_
        refine G.nil ?_
        obtain rfl := sp_ret1 hm
        exact QA.againO (a33, c34, (out ++ [UInt8.ofInt (x.length : Int)]) ++ x, i + 1) hg21 (Sub.of ⟨rfl, rfl, rfl, rfl, rfl, trivial⟩) (Sat.pick [0, 1] h36)
      · refine C.cond_f rfl (dec_f hc22) ?_
        refine C.exit ?_
        refine QA.then_exit ?_
        refine QA.then_exit ?_
        obtain rfl := sp_ret1 hm
        exact QA.left (a, c, out) (Sub.of ⟨rfl, rfl, rfl, trivial⟩) ⟨hg21, (Sat.pick [0] h19)⟩
    · rintro ⟨a_2, c_2, out_2⟩ w38 ⟨rfl, h39⟩
      have hm := hm17
      show QA _ _ [(2, (.slice none 0 0)), (3, (vI 0)), (4, (.slice a_2 out_2.length c_2))] _ _
      refine QA.block_here ?_
      refine QA.then_normal ?_
      refine C.seq ?_
      refine C.region ?_
      refine G.yl (yl_move rfl) rfl rfl rfl ?_
      refine G.does (does_lit (E := elU8) (l := ([0] : List UInt8)) (vs := [(.int .u8 0)]) (cs := [(.int .u8 0)]) (e := 5) h39 rfl (by kernel_rfl) rfl rfl (by decide)) rfl rfl rfl ?_
      rintro _ w41 ⟨a40, rfl, h42⟩
      obtain ⟨hc43, hm⟩ := sp_chk hm
      refine G.does (does_app (E := elU8) (l := out_2) (l2 := ([0] : List UInt8)) Try.underlying22 el5 (Sat.pick [1, 0] h42) rfl rfl rfl rfl (by decide) (Sat.own_view h42) hc43 (by decide)) rfl rfl rfl ?_
      rintro _ w46 ⟨a44, c45, rfl, h47⟩
      refine G.yl (yl_assign rfl) rfl rfl rfl ?_
      refine G.yl (yl_assign rfl) rfl rfl rfl ?_
      refine G.nil ?_
      refine QA.then_normal ?_
      refine C.ret ?_
      refine QA.ret2 rfl rfl rfl ?_
      obtain ⟨rfl, rfl⟩ := sp_ret2 hm
      exact ⟨a44, c45, rfl, (Sat.pick [0] h47)⟩
  · refine C.cond_t rfl (not_t hc7) ?_
    refine C.seq ?_
    refine C.region ?_
    refine G.yl (yl_assign rfl) rfl rfl rfl ?_
    refine G.yl (yl_assign rfl) rfl rfl rfl ?_
    refine G.nil ?_
    refine QA.then_normal ?_
    refine C.ret ?_
    refine QA.then_ret ?_
    refine QA.ret2 rfl rfl rfl ?_
    obtain ⟨rfl, rfl⟩ := sp_ret2 hm
    exact ⟨none, 0, rfl, (Sat.pick [0] (Sat.own_zero h3 elU8 none 5))⟩
set_option maxRecDepth 20000 in
theorem M_label_part_v_w {W : Base} {w : World} {a : Option Addr} {c : Nat} {b : List UInt8} {at_ : Int} (hv_b : V W a (elU8.row b)) (hq_b : b.length ≤ c) (h : Sat W w []) {r1 : List UInt8} (hm : M_label_part_v b at_ = some r1) :
    Calls Try.prog 88 #[(.slice a b.length c), (vI at_)] w (Ret fun v w' => v = (.string (str r1)) ∧ Sat W w' []) := by
  unfold M_label_part_v at hm
  refine C.enter (N := 35) Try.func88 rfl Try.ntmps88 rfl ?_
  show C _ _ _ [(0, (.slice a b.length c)), (1, (vI at_))] _ _
  refine C.seq ?_
  refine C.region ?_
  refine G.yl (yl_assign rfl) rfl rfl rfl ?_
  refine G.nil ?_
  refine QA.then_normal ?_
  refine C.seq ?_
  refine C.join (γ := Bool) (fun g => match g with | t21 => [(0, (.slice a b.length c)), (1, (vI at_)), (4, (.string (str ([] : List UInt8)))), (21, (.bool t21))]) (fun g ww => match g with | t21 => (M_label_part_v_k1 at_ b t21 = some r1) ∧ Sat W ww []) ?_ ?_
  · refine C.region ?_
    refine G.yl (yl_move rfl) rfl rfl rfl ?_
    refine G.yl (yl_move rfl) rfl rfl rfl ?_
    refine G.yl (yl_lenE Try.underlying22 rfl) rfl rfl rfl ?_
    refine G.yl (yl_geI rfl rfl) rfl rfl rfl ?_
    refine G.yl (yl_move rfl) rfl rfl rfl ?_
    rcases sp_ite hm with ⟨hc1, hm⟩ | ⟨hc1, hm⟩
    · refine G.offU rfl rfl (dec_t hc1) rfl ?_
      refine G.offU rfl rfl (dec_t hc1) rfl ?_
      refine G.offU rfl rfl (dec_t hc1) rfl ?_
      refine G.offU rfl rfl (dec_t hc1) rfl ?_
      refine G.offU rfl rfl (dec_t hc1) rfl ?_
      refine G.offU rfl rfl (dec_t hc1) rfl ?_
      refine G.offU rfl rfl (dec_t hc1) rfl ?_
      refine G.offU rfl rfl (dec_t hc1) rfl ?_
      refine G.offU rfl rfl (dec_t hc1) rfl ?_
      refine G.offU rfl rfl (dec_t hc1) rfl ?_
      refine G.offU rfl rfl (dec_t hc1) rfl ?_
      refine G.yl (yl_pick_t rfl (dec_t hc1) rfl) rfl rfl rfl ?_
      refine G.nil ?_
      exact QA.join true (Sub.of ⟨rfl, rfl, rfl, rfl, trivial⟩) ⟨hm, (Sat.pick [] h)⟩
    · refine G.on rfl rfl (dec_f hc1) ?_
      refine G.yl (yl_move rfl) rfl rfl rfl ?_
      refine G.on rfl rfl (dec_f hc1) ?_
      refine G.yl (yl_move rfl) rfl rfl rfl ?_
      refine G.on rfl rfl (dec_f hc1) ?_
      obtain ⟨x, hy2, hm⟩ := sp_bind hm
      refine G.yl (yl_ixP (l := b) sl22 rfl rfl (View.isA (E := elU8) (hv_b.at_ h) (by decide) (at?_lt hy2)) rfl (at?_lt hy2)) rfl rfl rfl ?_
      refine G.on rfl rfl (dec_f hc1) ?_
      refine G.yl (yl_ld1 (E := elU8) (v := (v8 x)) ag5 rfl (hv_b.at_ h) (at?_some hy2).2 rfl) rfl rfl rfl ?_
      refine G.on rfl rfl (dec_f hc1) ?_
      refine G.yl (yl_8I us5 Try.underlying3 rfl) rfl rfl rfl ?_
      refine G.on rfl rfl (dec_f hc1) ?_
      refine G.yl (yl_move rfl) rfl rfl rfl ?_
      refine G.on rfl rfl (dec_f hc1) ?_
      refine G.yl (yl_lenE Try.underlying22 rfl) rfl rfl rfl ?_
      refine G.on rfl rfl (dec_f hc1) ?_
      refine G.yl (yl_move rfl) rfl rfl rfl ?_
      refine G.on rfl rfl (dec_f hc1) ?_
      obtain ⟨hc3, hm⟩ := sp_chk hm
      refine G.yl (yl_subI rfl rfl hc3) rfl rfl rfl ?_
      refine G.on rfl rfl (dec_f hc1) ?_
      obtain ⟨hc4, hm⟩ := sp_chk hm
      refine G.yl (yl_subI rfl rfl hc4) rfl rfl rfl ?_
      refine G.on rfl rfl (dec_f hc1) ?_
      refine G.yl (yl_gtI rfl rfl) rfl rfl rfl ?_
      refine G.yl (yl_pick_f rfl (dec_f hc1) rfl) rfl rfl rfl ?_
      refine G.nil ?_
      exact QA.join (decide ((((b.length : Int) - at_) - 1) < (x.toNat : Int))) (Sub.of ⟨rfl, rfl, rfl, rfl, trivial⟩) ⟨hm, (Sat.pick [] h)⟩
  · rintro t21 w5 ⟨hm, h6⟩
    show C _ _ _ [(0, (.slice a b.length c)), (1, (vI at_)), (4, (.string (str ([] : List UInt8)))), (21, (.bool t21))] _ _
    unfold M_label_part_v_k1 at hm
    rcases sp_b hm with ⟨hc7, hm⟩ | ⟨hc7, hm⟩
    · refine C.cond_t rfl hc7 ?_
      refine C.seq ?_
      refine C.region ?_
      refine G.yl (yl_assign rfl) rfl rfl rfl ?_
      refine G.nil ?_
      refine QA.then_normal ?_
      refine C.ret ?_
      refine QA.then_ret ?_
      refine QA.ret1 rfl rfl ?_
      obtain rfl := sp_ret1 hm
      exact ⟨rfl, (Sat.pick [] h6)⟩
    · refine C.cond_f rfl hc7 ?_
      refine C.skip ?_
      refine QA.then_normal ?_
      refine C.seq ?_
      refine C.region ?_
      refine G.yl (yl_move rfl) rfl rfl rfl ?_
      refine G.yl (yl_move rfl) rfl rfl rfl ?_
      obtain ⟨hc8, hm⟩ := sp_chk hm
      refine G.yl (yl_addI rfl rfl hc8) rfl rfl rfl ?_
      refine G.yl (yl_move rfl) rfl rfl rfl ?_
      obtain ⟨hc9, hm⟩ := sp_chk hm
      refine G.yl (yl_addI rfl rfl hc9) rfl rfl rfl ?_
      refine G.yl (yl_move rfl) rfl rfl rfl ?_
      refine G.yl (yl_move rfl) rfl rfl rfl ?_
      obtain ⟨x_2, hy10, hm⟩ := sp_bind hm
      refine G.yl (yl_ixP (l := b) sl22 rfl rfl (View.isA (E := elU8) (hv_b.at_ h6) (by decide) (at?_lt hy10)) rfl (at?_lt hy10)) rfl rfl rfl ?_
      refine G.yl (yl_ld1 (E := elU8) (v := (v8 x_2)) ag5 rfl (hv_b.at_ h6) (at?_some hy10).2 rfl) rfl rfl rfl ?_
      refine G.yl (yl_8I us5 Try.underlying3 rfl) rfl rfl rfl ?_
      obtain ⟨hc11, hm⟩ := sp_chk hm
      refine G.yl (yl_addI rfl rfl hc11) rfl rfl rfl ?_
      obtain ⟨a12, ha13⟩ : ∃ p', Cut p' a c ((at_ + 1).toNat) 1 := Cut.mk _ _ _ _
      obtain ⟨hc14, hm⟩ := sp_chk hm
      refine G.yl (yl_slLH (E := elU8) (l := b) sl22 rfl rfl rfl rfl hc14 hq_b ha13) rfl rfl rfl ?_
      refine G.yl (yl_strE Try.underlying22 Try.underlying5 Try.underlying9 rfl rfl (View.cut (View.rtake (hv_b.at_ h6) (((at_ + 1) + (x_2.toNat : Int)).toNat)) ha13 (by have := hq_b; simp only [List.length_drop, List.length_take, List.length_append, List.length_set, List.length_cons, List.length_nil, List.length_ofFn, copyL_length] at *; omega))) rfl rfl rfl ?_
      refine G.yl (yl_assign rfl) rfl rfl rfl ?_
      refine G.nil ?_
      refine QA.then_normal ?_
      refine C.ret ?_
      refine QA.ret1 rfl rfl ?_
      obtain rfl := sp_ret1 hm
      exact ⟨rfl, (Sat.pick [] h6)⟩
set_option maxRecDepth 20000 in
theorem M_label_Unwire_v_w {W : Base} {w : World} {a : Option Addr} {c : Nat} {b : List UInt8} {at_ : Int} (hv_b : V W a (elU8.row b)) (hq_b : b.length ≤ c) (h : Sat W w []) {r1 : List UInt8} {r2 : Int} {r3 : Int} (hm : M_label_Unwire_v b at_ = some (r1, r2, r3)) :
    Calls Try.prog 53 #[(.slice a b.length c), (vI at_)] w (Ret fun v w' => v = (.tuple #[(.string (str r1)), (vI r2), (vI r3)]) ∧ Sat W w' []) := by
  unfold M_label_Unwire_v at hm
  refine C.enter (N := 58) Try.func53 rfl Try.ntmps53 rfl ?_
  show C _ _ _ [(0, (.slice a b.length c)), (1, (vI at_))] _ _
  refine C.seq ?_
  refine C.region ?_
  refine G.yl (yl_assign rfl) rfl rfl rfl ?_
  refine G.yl (yl_assign rfl) rfl rfl rfl ?_
  refine G.yl (yl_assign rfl) rfl rfl rfl ?_
  refine G.nil ?_
  refine QA.then_normal ?_
  refine C.seq ?_
  refine C.join (γ := Bool) (fun g => match g with | t17 => [(0, (.slice a b.length c)), (1, (vI at_)), (4, (.string (str ([] : List UInt8)))), (5, (vI 0)), (6, (vI 0)), (17, (.bool t17))]) (fun g ww => match g with | t17 => (M_label_Unwire_v_k1 at_ b t17 = some (r1, r2, r3)) ∧ Sat W ww []) ?_ ?_
  · refine C.region ?_
    refine G.yl (yl_move rfl) rfl rfl rfl ?_
    refine G.yl (yl_ltI rfl rfl) rfl rfl rfl ?_
    refine G.yl (yl_move rfl) rfl rfl rfl ?_
    rcases sp_ite hm with ⟨hc1, hm⟩ | ⟨hc1, hm⟩
    · refine G.offU rfl rfl (dec_t hc1) rfl ?_
      refine G.offU rfl rfl (dec_t hc1) rfl ?_
      refine G.offU rfl rfl (dec_t hc1) rfl ?_
      refine G.offU rfl rfl (dec_t hc1) rfl ?_
      refine G.yl (yl_pick_t rfl (dec_t hc1) rfl) rfl rfl rfl ?_
      refine G.nil ?_
      exact QA.join true (Sub.of ⟨rfl, rfl, rfl, rfl, rfl, rfl, trivial⟩) ⟨hm, (Sat.pick [] h)⟩
    · refine G.on rfl rfl (dec_f hc1) ?_
      refine G.yl (yl_move rfl) rfl rfl rfl ?_
      refine G.on rfl rfl (dec_f hc1) ?_
      refine G.yl (yl_move rfl) rfl rfl rfl ?_
      refine G.on rfl rfl (dec_f hc1) ?_
      refine G.yl (yl_lenE Try.underlying22 rfl) rfl rfl rfl ?_
      refine G.on rfl rfl (dec_f hc1) ?_
      refine G.yl (yl_geI rfl rfl) rfl rfl rfl ?_
      refine G.yl (yl_pick_f rfl (dec_f hc1) rfl) rfl rfl rfl ?_
      refine G.nil ?_
      exact QA.join (decide ((b.length : Int) ≤ at_)) (Sub.of ⟨rfl, rfl, rfl, rfl, rfl, rfl, trivial⟩) ⟨hm, (Sat.pick [] h)⟩
  · rintro t17 w2 ⟨hm, h3⟩
    show C _ _ _ [(0, (.slice a b.length c)), (1, (vI at_)), (4, (.string (str ([] : List UInt8)))), (5, (vI 0)), (6, (vI 0)), (17, (.bool t17))] _ _
    unfold M_label_Unwire_v_k1 at hm
    rcases sp_b hm with ⟨hc4, hm⟩ | ⟨hc4, hm⟩
    · refine C.cond_t rfl hc4 ?_
      refine C.seq ?_
      refine C.region ?_
      refine G.yl (yl_assign rfl) rfl rfl rfl ?_
      refine G.yl (yl_assign rfl) rfl rfl rfl ?_
      refine G.yl (yl_assign rfl) rfl rfl rfl ?_
      refine G.nil ?_
      refine QA.then_normal ?_
      refine C.ret ?_
      refine QA.then_ret ?_
      refine QA.ret3 rfl rfl rfl rfl ?_
      obtain ⟨rfl, rfl, rfl⟩ := sp_ret3 hm
      exact ⟨rfl, (Sat.pick [] h3)⟩
    · refine C.cond_f rfl hc4 ?_
      refine C.skip ?_
      refine QA.then_normal ?_
      refine C.seq ?_
      refine C.region ?_
      refine G.yl (yl_assign rfl) rfl rfl rfl ?_
      refine G.nil ?_
      refine QA.then_normal ?_
      refine C.seq ?_
      refine C.block ?_
      obtain ⟨o, ho5, hm6⟩ := sp_bind hm
      refine C.left (γ := Int × Option Addr × Nat × List (List UInt8)) (.exit 0) (fun g => match g with | (at__3, a_3, c_3, l_2) => [(0, (.slice a b.length c)), (1, (vI at__3)), (4, (.string (str ([] : List UInt8)))), (5, (vI 0)), (6, (vI 0)), (7, (.slice a_3 l_2.length c_3))]) (fun g ww => match g with | (at__3, a_3, c_3, l_2) => .inl (at__3, l_2) = o ∧ Sat W ww [ow elStr a_3 c_3 9 l_2]) ?_ ?_
      · refine C.loopO (γ := Int × Option Addr × Nat × List (List UInt8)) (fun g => match g with | (at__2, a_2, c_2, l) => [(0, (.slice a b.length c)), (1, (vI at__2)), (4, (.string (str ([] : List UInt8)))), (5, (vI 0)), (6, (vI 0)), (7, (.slice a_2 l.length c_2))]) (fun g ww => match g with | (at__2, a_2, c_2, l) => Sat W ww [ow elStr a_2 c_2 9 l]) (fun g => match g with | (at__2, a_2, c_2, l) => (at__2, l)) (at_, none, 0, ([] : List (List UInt8))) ho5 (Sub.of ⟨rfl, rfl, rfl, rfl, rfl, rfl, trivial⟩) (Sat.pick [0] (Sat.own_zero h3 elStr none 9)) ?_
        rintro ⟨at__2, a_2, c_2, l⟩ k9 w7 y_ h8 hm hg10
        show C _ _ _ [(0, (.slice a b.length c)), (1, (vI at__2)), (4, (.string (str ([] : List UInt8)))), (5, (vI 0)), (6, (vI 0)), (7, (.slice a_2 l.length c_2))] _ _
        change M_label_Unwire_v_b2 b at__2 l = some y_ at hm
        unfold M_label_Unwire_v_b2 at hm
        refine C.seq ?_
        refine C.join (γ := Bool) (fun g => match g with | t28 => [(0, (.slice a b.length c)), (1, (vI at__2)), (4, (.string (str ([] : List UInt8)))), (5, (vI 0)), (6, (vI 0)), (7, (.slice a_2 l.length c_2)), (28, (.bool t28))]) (fun g ww => match g with | t28 => (M_label_Unwire_v_k3 at__2 b l t28 = some y_) ∧ Sat W ww [ow elStr a_2 c_2 9 l]) ?_ ?_
        · refine C.region ?_
          refine G.yl (yl_move rfl) rfl rfl rfl ?_
          refine G.yl (yl_move rfl) rfl rfl rfl ?_
          refine G.yl (yl_lenE Try.underlying22 rfl) rfl rfl rfl ?_
          refine G.yl (yl_ltI rfl rfl) rfl rfl rfl ?_
          refine G.yl (yl_move rfl) rfl rfl rfl ?_
          rcases sp_ite hm with ⟨hc11, hm⟩ | ⟨hc11, hm⟩
          · refine G.on rfl rfl (dec_t hc11) ?_
            refine G.yl (yl_move rfl) rfl rfl rfl ?_
            refine G.on rfl rfl (dec_t hc11) ?_
            refine G.yl (yl_move rfl) rfl rfl rfl ?_
            refine G.on rfl rfl (dec_t hc11) ?_
            obtain ⟨x, hy12, hm⟩ := sp_bind hm
            refine G.yl (yl_ixP (l := b) sl22 rfl rfl (View.isA (E := elU8) (hv_b.at_ h8) (by decide) (at?_lt hy12)) rfl (at?_lt hy12)) rfl rfl rfl ?_
            refine G.on rfl rfl (dec_t hc11) ?_
            refine G.yl (yl_ld1 (E := elU8) (v := (v8 x)) ag5 rfl (hv_b.at_ h8) (at?_some hy12).2 rfl) rfl rfl rfl ?_
            refine G.on rfl rfl (dec_t hc11) ?_
            refine G.yl (yl_ne8 (b := 0) rfl rfl) rfl rfl rfl ?_
            refine G.yl (yl_pick_t rfl (dec_t hc11) rfl) rfl rfl rfl ?_
            refine G.nil ?_
            exact QA.join (!(decide (x = 0))) (Sub.of ⟨rfl, rfl, rfl, rfl, rfl, rfl, rfl, trivial⟩) ⟨hm, (Sat.pick [0] h8)⟩
          · refine G.offU rfl rfl (dec_f hc11) rfl ?_
            refine G.offU rfl rfl (dec_f hc11) rfl ?_
            refine G.offU rfl rfl (dec_f hc11) rfl ?_
            refine G.offU rfl rfl (dec_f hc11) rfl ?_
            refine G.offU rfl rfl (dec_f hc11) rfl ?_
            refine G.yl (yl_pick_f rfl (dec_f hc11) rfl) rfl rfl rfl ?_
            refine G.nil ?_
            exact QA.join false (Sub.of ⟨rfl, rfl, rfl, rfl, rfl, rfl, rfl, trivial⟩) ⟨hm, (Sat.pick [0] h8)⟩
        · rintro t28 w13 ⟨hm, h14⟩
          show C _ _ _ [(0, (.slice a b.length c)), (1, (vI at__2)), (4, (.string (str ([] : List UInt8)))), (5, (vI 0)), (6, (vI 0)), (7, (.slice a_2 l.length c_2)), (28, (.bool t28))] _ _
          unfold M_label_Unwire_v_k3 at hm
          rcases sp_b hm with ⟨hc15, hm⟩ | ⟨hc15, hm⟩
          · refine C.cond_t rfl hc15 ?_
            refine C.skip ?_
            refine QA.then_normal ?_
            refine C.block ?_
            refine C.seq ?_
            refine C.region ?_
            refine G.yl (yl_move rfl) rfl rfl rfl ?_
            refine G.yl (yl_move rfl) rfl rfl rfl ?_
            obtain ⟨r1_2, hy16, hm⟩ := sp_bind hm
            refine G.does (does_fn 0 rfl rfl rfl en88 h14 (fun U hU hp hr hs => M_label_part_v_w (hs.v hv_b) hq_b hp hy16)) rfl rfl rfl ?_
            rintro _ w17 ⟨U20, hb21, rfl, h19⟩
            have h18 : Sat W w17 [ow elStr a_2 c_2 9 l] := hb21 h19
            refine G.yl (yl_assign rfl) rfl rfl rfl ?_
            refine G.nil ?_
            refine QA.then_normal ?_
            refine C.seq ?_
            refine C.seq ?_
            refine C.region ?_
            refine G.yl (yl_move rfl) rfl rfl rfl ?_
            obtain ⟨r1_3, hy22, hm⟩ := sp_bind hm
            refine G.does (does_fn 0 rfl rfl rfl en82 h18 (fun U hU hp hr hs => M_label_Part_w hp hy22)) rfl rfl rfl ?_
            rintro _ w23 ⟨U26, hb27, rfl, h25⟩
            have h24 : Sat W w23 [ow elStr a_2 c_2 9 l] := hb27 h25
            refine G.yl (yl_not rfl) rfl rfl rfl ?_
            refine G.nil ?_
            refine QA.then_normal ?_
            rcases sp_b hm with ⟨hc28, hm⟩ | ⟨hc28, hm⟩
            · refine C.cond_f rfl (not_f hc28) ?_
              refine C.skip ?_
              refine QA.then_normal ?_
              refine C.seq ?_
              refine C.region ?_
              refine G.yl (yl_move rfl) rfl rfl rfl ?_
              refine G.yl (yl_move rfl) rfl rfl rfl ?_
              refine G.does (does_lit (E := elStr) (l := [r1_2]) (vs := [(.string (str r1_2))]) (cs := [(.string (str r1_2))]) (e := 9) h24 rfl (by kernel_rfl) rfl rfl (by decide)) rfl rfl rfl ?_
              rintro _ w30 ⟨a29, rfl, h31⟩
              obtain ⟨hc32, hm⟩ := sp_chk hm
              refine G.does (does_app (E := elStr) (l := l) (l2 := [r1_2]) Try.underlying133 el9 (Sat.pick [1, 0] h31) rfl rfl rfl rfl (by decide) (Sat.own_view h31) hc32 (by decide)) rfl rfl rfl ?_
              rintro _ w35 ⟨a33, c34, rfl, h36⟩
              refine G.yl (yl_assign rfl) rfl rfl rfl ?_
              refine G.nil ?_
              refine QA.then_normal ?_
              refine C.region ?_
              refine G.yl (yl_move rfl) rfl rfl rfl ?_
              refine G.yl (yl_move rfl) rfl rfl rfl ?_
              refine G.yl (yl_slenE Try.underlying9 rfl) rfl rfl rfl ?_
              obtain ⟨hc37, hm⟩ := sp_chk hm
              refine G.yl (yl_addI rfl rfl hc37) rfl rfl rfl ?_
              obtain ⟨hc38, hm⟩ := sp_chk hm
              refine G.yl (yl_addI rfl rfl hc38) rfl rfl rfl ?_
              refine G.yl (yl_assign rfl) rfl rfl rfl ?_
              refine G.nil ?_
              refine QA.block_normal ?_
              obtain rfl := sp_ret1 hm
              exact QA.againO (at__2 + (1 + (r1_2.length : Int)), a33, c34, l ++ [r1_2]) hg10 (Sub.of ⟨rfl, rfl, rfl, rfl, rfl, rfl, trivial⟩) (Sat.pick [0] h36)
            · refine C.cond_t rfl (not_t hc28) ?_
              refine C.seq ?_
              refine C.region ?_
              refine G.yl (yl_assign rfl) rfl rfl rfl ?_
              refine G.yl (yl_assign rfl) rfl rfl rfl ?_
              refine G.yl (yl_assign rfl) rfl rfl rfl ?_
              refine G.nil ?_
              refine QA.then_normal ?_
              refine C.ret ?_
              refine QA.then_ret ?_
              refine QA.block_ret ?_
              refine QA.then_ret ?_
              refine QA.past (by simp) ?_
              refine QA.block_ret ?_
              refine QA.then_ret ?_
              refine QA.ret3 rfl rfl rfl rfl ?_
              obtain rfl := sp_ret1 hm
              obtain rfl : .inr (([] : List UInt8), 0, 10) = o := hg10
              have hm : some (([] : List UInt8), 0, 10) = some (r1, r2, r3) := hm6
              obtain ⟨rfl, rfl, rfl⟩ := sp_ret3 hm
              exact ⟨rfl, (Sat.pick [] h24)⟩
          · refine C.cond_f rfl hc15 ?_
            refine C.exit ?_
            refine QA.then_exit ?_
            refine QA.then_exit ?_
            obtain rfl := sp_ret1 hm
            exact QA.left (at__2, a_2, c_2, l) (Sub.of ⟨rfl, rfl, rfl, rfl, rfl, rfl, trivial⟩) ⟨hg10, (Sat.pick [0] h14)⟩
      · rintro ⟨at__3, a_3, c_3, l_2⟩ w39 ⟨rfl, h40⟩
        have hm := hm6
        show QA _ _ [(0, (.slice a b.length c)), (1, (vI at__3)), (4, (.string (str ([] : List UInt8)))), (5, (vI 0)), (6, (vI 0)), (7, (.slice a_3 l_2.length c_3))] _ _
        refine QA.block_here ?_
        refine QA.then_normal ?_
        refine C.seq ?_
        refine C.region ?_
        refine G.yl (yl_move rfl) rfl rfl rfl ?_
        obtain ⟨hc41, hm⟩ := sp_chk hm
        obtain ⟨hc42, hm⟩ := sp_chk hm
        refine G.does (does_call rfl rfl rfl en89 (join_w (l := l_2) h40 (Sat.own_view h40) (Sat.own_cap h40).1 hc41 hc42)) rfl rfl rfl ?_
        rintro _ w43 ⟨rfl, h44⟩
        refine G.yl (yl_assign rfl) rfl rfl rfl ?_
        refine G.nil ?_
        refine QA.then_normal ?_
        refine C.seq ?_
        refine C.seq ?_
        refine C.region ?_
        refine G.yl (yl_move rfl) rfl rfl rfl ?_
        refine G.yl (yl_move rfl) rfl rfl rfl ?_
        refine G.yl (yl_lenE Try.underlying22 rfl) rfl rfl rfl ?_
        refine G.yl (yl_geI rfl rfl) rfl rfl rfl ?_
        refine G.yl (yl_move rfl) rfl rfl rfl ?_
        rcases sp_ite hm with ⟨hc45, hm⟩ | ⟨hc45, hm⟩
        · refine G.offU rfl rfl (dec_t hc45) rfl ?_
          refine G.offU rfl rfl (dec_t hc45) rfl ?_
          refine G.offU rfl rfl (dec_t hc45) rfl ?_
          refine G.yl (yl_pick_t rfl (dec_t hc45) rfl) rfl rfl rfl ?_
          refine G.nil ?_
          refine QA.then_normal ?_
          refine C.cond_t rfl rfl ?_
          refine C.seq ?_
          refine C.region ?_
          refine G.yl (yl_assign rfl) rfl rfl rfl ?_
          refine G.yl (yl_assign rfl) rfl rfl rfl ?_
          refine G.yl (yl_assign rfl) rfl rfl rfl ?_
          refine G.nil ?_
          refine QA.then_normal ?_
          refine C.ret ?_
          refine QA.then_ret ?_
          refine QA.ret3 rfl rfl rfl rfl ?_
          obtain ⟨rfl, rfl, rfl⟩ := sp_ret3 hm
          exact ⟨rfl, (Sat.pick [] h44)⟩
        · refine G.on rfl rfl (dec_f hc45) ?_
          refine G.yl (yl_move rfl) rfl rfl rfl ?_
          refine G.on rfl rfl (dec_f hc45) ?_
          obtain ⟨r1_4, hy46, hm⟩ := sp_bind hm
          refine G.does (does_fn 0 rfl rfl rfl en48 h44 (fun U hU hp hr hs => M_label_Good_w hp hy46)) rfl rfl rfl ?_
          rintro _ w47 ⟨U50, hb51, rfl, h49⟩
          have h48 : Sat W w47 [ow elStr a_3 c_3 9 l_2] := hb51 h49
          refine G.on rfl rfl (dec_f hc45) ?_
          refine G.yl (yl_not rfl) rfl rfl rfl ?_
          refine G.yl (yl_pick_f rfl (dec_f hc45) rfl) rfl rfl rfl ?_
          refine G.nil ?_
          refine QA.then_normal ?_
          rcases sp_b hm with ⟨hc52, hm⟩ | ⟨hc52, hm⟩
          · refine C.cond_f rfl (not_f hc52) ?_
            refine C.skip ?_
            refine QA.then_normal ?_
            refine C.seq ?_
            refine C.region ?_
            refine G.yl (yl_move rfl) rfl rfl rfl ?_
            refine G.yl (yl_move rfl) rfl rfl rfl ?_
            obtain ⟨hc53, hm⟩ := sp_chk hm
            refine G.yl (yl_addI rfl rfl hc53) rfl rfl rfl ?_
            refine G.yl (yl_assign rfl) rfl rfl rfl ?_
            refine G.yl (yl_assign rfl) rfl rfl rfl ?_
            refine G.yl (yl_assign rfl) rfl rfl rfl ?_
            refine G.nil ?_
            refine QA.then_normal ?_
            refine C.ret ?_
            refine QA.ret3 rfl rfl rfl rfl ?_
            obtain ⟨rfl, rfl, rfl⟩ := sp_ret3 hm
            exact ⟨rfl, (Sat.pick [] h48)⟩
          · refine C.cond_t rfl (not_t hc52) ?_
            refine C.seq ?_
            refine C.region ?_
            refine G.yl (yl_assign rfl) rfl rfl rfl ?_
            refine G.yl (yl_assign rfl) rfl rfl rfl ?_
            refine G.yl (yl_assign rfl) rfl rfl rfl ?_
            refine G.nil ?_
            refine QA.then_normal ?_
            refine C.ret ?_
            refine QA.then_ret ?_
            refine QA.ret3 rfl rfl rfl rfl ?_
            obtain ⟨rfl, rfl, rfl⟩ := sp_ret3 hm
            exact ⟨rfl, (Sat.pick [] h48)⟩
set_option maxRecDepth 20000 in
theorem M_signpostref09_Unwire_v_w {W : Base} {w : World} {a : Option Addr} {c : Nat} {b : List UInt8} {at_ : Int} (hv_b : V W a (elU8.row b)) (hq_b : b.length ≤ c) (h : Sat W w []) {r1 : List UInt8} {r2 : Int} {r3 : Int} (hm : M_signpostref09_Unwire_v b at_ = some (r1, r2, r3)) :
    Calls Try.prog 54 #[(.slice a b.length c), (vI at_)] w (Ret fun v w' => v = (.tuple #[(.string (str r1)), (vI r2), (vI r3)]) ∧ Sat W w' []) := by
  unfold M_signpostref09_Unwire_v at hm
  refine C.enter (N := 84) Try.func54 rfl Try.ntmps54 rfl ?_
  show C _ _ _ [(0, (.slice a b.length c)), (1, (vI at_))] _ _
  refine C.seq ?_
  refine C.region ?_
  refine G.yl (yl_assign rfl) rfl rfl rfl ?_
  refine G.yl (yl_assign rfl) rfl rfl rfl ?_
  refine G.yl (yl_assign rfl) rfl rfl rfl ?_
  refine G.nil ?_
  refine QA.then_normal ?_
  refine C.seq ?_
  refine C.join (γ := Bool) (fun g => match g with | t17 => [(0, (.slice a b.length c)), (1, (vI at_)), (4, (.string (str ([] : List UInt8)))), (5, (vI 0)), (6, (vI 0)), (17, (.bool t17))]) (fun g ww => match g with | t17 => (M_signpostref09_Unwire_v_k1 at_ b t17 = some (r1, r2, r3)) ∧ Sat W ww []) ?_ ?_
  · refine C.region ?_
    refine G.yl (yl_move rfl) rfl rfl rfl ?_
    refine G.yl (yl_ltI rfl rfl) rfl rfl rfl ?_
    refine G.yl (yl_move rfl) rfl rfl rfl ?_
    rcases sp_ite hm with ⟨hc1, hm⟩ | ⟨hc1, hm⟩
    · refine G.offU rfl rfl (dec_t hc1) rfl ?_
      refine G.offU rfl rfl (dec_t hc1) rfl ?_
      refine G.offU rfl rfl (dec_t hc1) rfl ?_
      refine G.offU rfl rfl (dec_t hc1) rfl ?_
      refine G.yl (yl_pick_t rfl (dec_t hc1) rfl) rfl rfl rfl ?_
      refine G.nil ?_
      exact QA.join true (Sub.of ⟨rfl, rfl, rfl, rfl, rfl, rfl, trivial⟩) ⟨hm, (Sat.pick [] h)⟩
    · refine G.on rfl rfl (dec_f hc1) ?_
      refine G.yl (yl_move rfl) rfl rfl rfl ?_
      refine G.on rfl rfl (dec_f hc1) ?_
      refine G.yl (yl_move rfl) rfl rfl rfl ?_
      refine G.on rfl rfl (dec_f hc1) ?_
      refine G.yl (yl_lenE Try.underlying22 rfl) rfl rfl rfl ?_
      refine G.on rfl rfl (dec_f hc1) ?_
      refine G.yl (yl_geI rfl rfl) rfl rfl rfl ?_
      refine G.yl (yl_pick_f rfl (dec_f hc1) rfl) rfl rfl rfl ?_
      refine G.nil ?_
      exact QA.join (decide ((b.length : Int) ≤ at_)) (Sub.of ⟨rfl, rfl, rfl, rfl, rfl, rfl, trivial⟩) ⟨hm, (Sat.pick [] h)⟩
  · rintro t17 w2 ⟨hm, h3⟩
    show C _ _ _ [(0, (.slice a b.length c)), (1, (vI at_)), (4, (.string (str ([] : List UInt8)))), (5, (vI 0)), (6, (vI 0)), (17, (.bool t17))] _ _
    unfold M_signpostref09_Unwire_v_k1 at hm
    rcases sp_b hm with ⟨hc4, hm⟩ | ⟨hc4, hm⟩
    · refine C.cond_t rfl hc4 ?_
      refine C.seq ?_
      refine C.region ?_
      refine G.yl (yl_assign rfl) rfl rfl rfl ?_
      refine G.yl (yl_assign rfl) rfl rfl rfl ?_
      refine G.yl (yl_assign rfl) rfl rfl rfl ?_
      refine G.nil ?_
      refine QA.then_normal ?_
      refine C.ret ?_
      refine QA.then_ret ?_
      refine QA.ret3 rfl rfl rfl rfl ?_
      obtain ⟨rfl, rfl, rfl⟩ := sp_ret3 hm
      exact ⟨rfl, (Sat.pick [] h3)⟩
    · refine C.cond_f rfl hc4 ?_
      refine C.skip ?_
      refine QA.then_normal ?_
      refine C.seq ?_
      refine C.region ?_
      refine G.yl (yl_assign rfl) rfl rfl rfl ?_
      refine G.nil ?_
      refine QA.then_normal ?_
      refine C.seq ?_
      refine C.region ?_
      refine G.yl (yl_move rfl) rfl rfl rfl ?_
      refine G.yl (yl_assign rfl) rfl rfl rfl ?_
      refine G.nil ?_
      refine QA.then_normal ?_
      refine C.seq ?_
      refine C.block ?_
      obtain ⟨o, ho5, hm6⟩ := sp_bind hm
      refine C.left (γ := List UInt8 × Int) (.exit 0) (fun g => match g with | (s_2, i_2) => [(0, (.slice a b.length c)), (4, (.string (str ([] : List UInt8)))), (5, (vI 0)), (6, (vI 0)), (7, (.string (str s_2))), (8, (vI i_2))]) (fun g ww => match g with | (s_2, i_2) => .inl (s_2, i_2) = o ∧ Sat W ww []) ?_ ?_
      · refine C.loopO (γ := List UInt8 × Int) (fun g => match g with | (s, i) => [(0, (.slice a b.length c)), (4, (.string (str ([] : List UInt8)))), (5, (vI 0)), (6, (vI 0)), (7, (.string (str s))), (8, (vI i))]) (fun g ww => match g with | (s, i) => Sat W ww []) (fun g => match g with | (s, i) => (s, i)) (([] : List UInt8), at_) ho5 (Sub.of ⟨rfl, rfl, rfl, rfl, rfl, rfl, trivial⟩) (Sat.pick [] h3) ?_
        rintro ⟨s, i⟩ k9 w7 y_ h8 hm hg10
        show C _ _ _ [(0, (.slice a b.length c)), (4, (.string (str ([] : List UInt8)))), (5, (vI 0)), (6, (vI 0)), (7, (.string (str s))), (8, (vI i))] _ _
        change M_signpostref09_Unwire_v_b2 b s i = some y_ at hm
        unfold M_signpostref09_Unwire_v_b2 at hm
        refine C.seq ?_
        refine C.join (γ := Bool) (fun g => match g with | t29 => [(0, (.slice a b.length c)), (4, (.string (str ([] : List UInt8)))), (5, (vI 0)), (6, (vI 0)), (7, (.string (str s))), (8, (vI i)), (29, (.bool t29))]) (fun g ww => match g with | t29 => (M_signpostref09_Unwire_v_k3 b i s t29 = some y_) ∧ Sat W ww []) ?_ ?_
        · refine C.region ?_
          refine G.yl (yl_move rfl) rfl rfl rfl ?_
          refine G.yl (yl_move rfl) rfl rfl rfl ?_
          refine G.yl (yl_lenE Try.underlying22 rfl) rfl rfl rfl ?_
          refine G.yl (yl_ltI rfl rfl) rfl rfl rfl ?_
          refine G.yl (yl_move rfl) rfl rfl rfl ?_
          rcases sp_ite hm with ⟨hc11, hm⟩ | ⟨hc11, hm⟩
          · refine G.on rfl rfl (dec_t hc11) ?_
            refine G.yl (yl_move rfl) rfl rfl rfl ?_
            refine G.on rfl rfl (dec_t hc11) ?_
            refine G.yl (yl_move rfl) rfl rfl rfl ?_
            refine G.on rfl rfl (dec_t hc11) ?_
            obtain ⟨x, hy12, hm⟩ := sp_bind hm
            refine G.yl (yl_ixP (l := b) sl22 rfl rfl (View.isA (E := elU8) (hv_b.at_ h8) (by decide) (at?_lt hy12)) rfl (at?_lt hy12)) rfl rfl rfl ?_
            refine G.on rfl rfl (dec_t hc11) ?_
            refine G.yl (yl_ld1 (E := elU8) (v := (v8 x)) ag5 rfl (hv_b.at_ h8) (at?_some hy12).2 rfl) rfl rfl rfl ?_
            refine G.on rfl rfl (dec_t hc11) ?_
            refine G.yl (yl_ne8 (b := 0) rfl rfl) rfl rfl rfl ?_
            refine G.yl (yl_pick_t rfl (dec_t hc11) rfl) rfl rfl rfl ?_
            refine G.nil ?_
            exact QA.join (!(decide (x = 0))) (Sub.of ⟨rfl, rfl, rfl, rfl, rfl, rfl, rfl, trivial⟩) ⟨hm, (Sat.pick [] h8)⟩
          · refine G.offU rfl rfl (dec_f hc11) rfl ?_
            refine G.offU rfl rfl (dec_f hc11) rfl ?_
            refine G.offU rfl rfl (dec_f hc11) rfl ?_
            refine G.offU rfl rfl (dec_f hc11) rfl ?_
            refine G.offU rfl rfl (dec_f hc11) rfl ?_
            refine G.yl (yl_pick_f rfl (dec_f hc11) rfl) rfl rfl rfl ?_
            refine G.nil ?_
            exact QA.join false (Sub.of ⟨rfl, rfl, rfl, rfl, rfl, rfl, rfl, trivial⟩) ⟨hm, (Sat.pick [] h8)⟩
        · rintro t29 w13 ⟨hm, h14⟩
          show C _ _ _ [(0, (.slice a b.length c)), (4, (.string (str ([] : List UInt8)))), (5, (vI 0)), (6, (vI 0)), (7, (.string (str s))), (8, (vI i)), (29, (.bool t29))] _ _
          unfold M_signpostref09_Unwire_v_k3 at hm
          rcases sp_b hm with ⟨hc15, hm⟩ | ⟨hc15, hm⟩
          · refine C.cond_t rfl hc15 ?_
            refine C.skip ?_
            refine QA.then_normal ?_
            refine C.block ?_
            refine C.seq ?_
            refine C.region ?_
            refine G.yl (yl_move rfl) rfl rfl rfl ?_
            refine G.yl (yl_move rfl) rfl rfl rfl ?_
            obtain ⟨x_2, hy16, hm⟩ := sp_bind hm
            refine G.yl (yl_ixP (l := b) sl22 rfl rfl (View.isA (E := elU8) (hv_b.at_ h14) (by decide) (at?_lt hy16)) rfl (at?_lt hy16)) rfl rfl rfl ?_
            refine G.yl (yl_ld1 (E := elU8) (v := (v8 x_2)) ag5 rfl (hv_b.at_ h14) (at?_some hy16).2 rfl) rfl rfl rfl ?_
            refine G.yl (yl_8I us5 Try.underlying3 rfl) rfl rfl rfl ?_
            refine G.yl (yl_assign rfl) rfl rfl rfl ?_
            refine G.nil ?_
            refine QA.then_normal ?_
            refine C.seq ?_
            refine C.seq ?_
            refine C.region ?_
            refine G.yl (yl_move rfl) rfl rfl rfl ?_
            refine G.yl (yl_move rfl) rfl rfl rfl ?_
            refine G.yl (yl_lenE Try.underlying22 rfl) rfl rfl rfl ?_
            refine G.yl (yl_move rfl) rfl rfl rfl ?_
            obtain ⟨hc17, hm⟩ := sp_chk hm
            refine G.yl (yl_subI rfl rfl hc17) rfl rfl rfl ?_
            obtain ⟨hc18, hm⟩ := sp_chk hm
            refine G.yl (yl_subI rfl rfl hc18) rfl rfl rfl ?_
            refine G.yl (yl_gtI rfl rfl) rfl rfl rfl ?_
            refine G.nil ?_
            refine QA.then_normal ?_
            rcases sp_ite hm with ⟨hc19, hm⟩ | ⟨hc19, hm⟩
            · refine C.cond_t rfl (dec_t hc19) ?_
              refine C.seq ?_
              refine C.region ?_
              refine G.yl (yl_assign rfl) rfl rfl rfl ?_
              refine G.yl (yl_assign rfl) rfl rfl rfl ?_
              refine G.yl (yl_assign rfl) rfl rfl rfl ?_
              refine G.nil ?_
              refine QA.then_normal ?_
              refine C.ret ?_
              refine QA.then_ret ?_
              refine QA.block_ret ?_
              refine QA.then_ret ?_
              refine QA.past (by simp) ?_
              refine QA.block_ret ?_
              refine QA.then_ret ?_
              refine QA.ret3 rfl rfl rfl rfl ?_
              obtain rfl := sp_ret1 hm
              obtain rfl : .inr (([] : List UInt8), 0, 10) = o := hg10
              have hm : some (([] : List UInt8), 0, 10) = some (r1, r2, r3) := hm6
              obtain ⟨rfl, rfl, rfl⟩ := sp_ret3 hm
              exact ⟨rfl, (Sat.pick [] h14)⟩
            · refine C.cond_f rfl (dec_f hc19) ?_
              refine C.skip ?_
              refine QA.then_normal ?_
              refine C.join (γ := List UInt8) (fun g => match g with | s_3 => [(0, (.slice a b.length c)), (4, (.string (str ([] : List UInt8)))), (5, (vI 0)), (6, (vI 0)), (7, (.string (str s_3))), (8, (vI i)), (9, (vI (x_2.toNat : Int)))]) (fun g ww => match g with | s_3 => (M_signpostref09_Unwire_v_k4 b i x_2 s_3 = some y_) ∧ Sat W ww []) ?_ ?_
              · refine C.seq ?_
                refine C.region ?_
                refine G.yl (yl_move rfl) rfl rfl rfl ?_
                refine G.yl (yl_neS rfl rfl) rfl rfl rfl ?_
                refine G.nil ?_
                refine QA.then_normal ?_
                rcases sp_ite hm with ⟨hc20, hm⟩ | ⟨hc20, hm⟩
                · refine C.cond_f rfl (not_f (dec_t hc20)) ?_
                  refine C.skip ?_
                  exact QA.join s (Sub.of ⟨rfl, rfl, rfl, rfl, rfl, rfl, rfl, trivial⟩) ⟨hm, (Sat.pick [] h14)⟩
                · refine C.cond_t rfl (not_t (dec_f hc20)) ?_
                  refine C.region ?_
                  refine G.yl (yl_move rfl) rfl rfl rfl ?_
                  obtain ⟨hc21, hm⟩ := sp_chk hm
                  refine G.yl (yl_catS rfl rfl hc21) rfl rfl rfl ?_
                  refine G.yl (yl_assign rfl) rfl rfl rfl ?_
                  refine G.nil ?_
                  exact QA.join (s ++ ([46] : List UInt8)) (Sub.of ⟨rfl, rfl, rfl, rfl, rfl, rfl, rfl, trivial⟩) ⟨hm, (Sat.pick [] h14)⟩
              · rintro s_3 w22 ⟨hm, h23⟩
                show C _ _ _ [(0, (.slice a b.length c)), (4, (.string (str ([] : List UInt8)))), (5, (vI 0)), (6, (vI 0)), (7, (.string (str s_3))), (8, (vI i)), (9, (vI (x_2.toNat : Int)))] _ _
                unfold M_signpostref09_Unwire_v_k4 at hm
                refine C.seq ?_
                refine C.seq ?_
                refine C.region ?_
                refine G.yl (yl_move rfl) rfl rfl rfl ?_
                refine G.yl (yl_move rfl) rfl rfl rfl ?_
                obtain ⟨hc24, hm⟩ := sp_chk hm
                refine G.yl (yl_addI rfl rfl hc24) rfl rfl rfl ?_
                refine G.yl (yl_move rfl) rfl rfl rfl ?_
                obtain ⟨hc25, hm⟩ := sp_chk hm
                refine G.yl (yl_addI rfl rfl hc25) rfl rfl rfl ?_
                refine G.yl (yl_move rfl) rfl rfl rfl ?_
                obtain ⟨hc26, hm⟩ := sp_chk hm
                refine G.yl (yl_addI rfl rfl hc26) rfl rfl rfl ?_
                obtain ⟨a27, ha28⟩ : ∃ p', Cut p' a c ((i + 1).toNat) 1 := Cut.mk _ _ _ _
                obtain ⟨hc29, hm⟩ := sp_chk hm
                refine G.yl (yl_slLH (E := elU8) (l := b) sl22 rfl rfl rfl rfl hc29 hq_b ha28) rfl rfl rfl ?_
                refine G.yl (yl_strE Try.underlying22 Try.underlying5 Try.underlying9 rfl rfl (View.cut (View.rtake (hv_b.at_ h23) (((i + 1) + (x_2.toNat : Int)).toNat)) ha28 (by have := hq_b; simp only [List.length_drop, List.length_take, List.length_append, List.length_set, List.length_cons, List.length_nil, List.length_ofFn, copyL_length] at *; omega))) rfl rfl rfl ?_
                obtain ⟨r1_2, hy30, hm⟩ := sp_bind hm
                refine G.does (does_fn 0 rfl rfl rfl en90 h23 (fun U hU hp hr hs => M_signpostref09_Part_w hp hy30)) rfl rfl rfl ?_
                rintro _ w31 ⟨U34, hb35, rfl, h33⟩
                have h32 : Sat W w31 [] := hb35 h33
                refine G.yl (yl_not rfl) rfl rfl rfl ?_
                refine G.nil ?_
                refine QA.then_normal ?_
                rcases sp_b hm with ⟨hc36, hm⟩ | ⟨hc36, hm⟩
                · refine C.cond_f rfl (not_f hc36) ?_
                  refine C.skip ?_
                  refine QA.then_normal ?_
                  refine C.seq ?_
                  refine C.region ?_
                  refine G.yl (yl_move rfl) rfl rfl rfl ?_
                  refine G.yl (yl_move rfl) rfl rfl rfl ?_
                  refine G.yl (yl_move rfl) rfl rfl rfl ?_
                  obtain ⟨hc37, hm⟩ := sp_chk hm
                  refine G.yl (yl_addI rfl rfl hc37) rfl rfl rfl ?_
                  refine G.yl (yl_move rfl) rfl rfl rfl ?_
                  obtain ⟨hc38, hm⟩ := sp_chk hm
                  refine G.yl (yl_addI rfl rfl hc38) rfl rfl rfl ?_
                  refine G.yl (yl_move rfl) rfl rfl rfl ?_
                  obtain ⟨hc39, hm⟩ := sp_chk hm
                  refine G.yl (yl_addI rfl rfl hc39) rfl rfl rfl ?_
                  obtain ⟨a40, ha41⟩ : ∃ p', Cut p' a c ((i + 1).toNat) 1 := Cut.mk _ _ _ _
                  obtain ⟨hc42, hm⟩ := sp_chk hm
                  refine G.yl (yl_slLH (E := elU8) (l := b) sl22 rfl rfl rfl rfl hc42 hq_b ha41) rfl rfl rfl ?_
                  refine G.yl (yl_strE Try.underlying22 Try.underlying5 Try.underlying9 rfl rfl (View.cut (View.rtake (hv_b.at_ h32) (((i + 1) + (x_2.toNat : Int)).toNat)) ha41 (by have := hq_b; simp only [List.length_drop, List.length_take, List.length_append, List.length_set, List.length_cons, List.length_nil, List.length_ofFn, copyL_length] at *; omega))) rfl rfl rfl ?_
                  obtain ⟨hc43, hm⟩ := sp_chk hm
                  refine G.yl (yl_catS rfl rfl hc43) rfl rfl rfl ?_
                  refine G.yl (yl_assign rfl) rfl rfl rfl ?_
                  refine G.nil ?_
                  refine QA.then_normal ?_
                  refine C.region ?_
                  refine G.yl (yl_move rfl) rfl rfl rfl ?_
                  obtain ⟨hc44, hm⟩ := sp_chk hm
                  refine G.yl (yl_addI rfl rfl hc44) rfl rfl rfl ?_
                  refine G.yl (yl_move rfl) rfl rfl rfl ?_
                  obtain ⟨hc45, hm⟩ := sp_chk hm
                  refine G.yl (yl_addI rfl rfl hc45) rfl rfl rfl ?_
                  refine G.yl (yl_assign rfl) rfl rfl rfl ?_
                  refine G.nil ?_
                  refine QA.block_normal ?_
                  obtain rfl := sp_ret1 hm
                  exact QA.againO (s_3 ++ ((b.take (((i + 1) + (x_2.toNat : Int)).toNat)).drop ((i + 1).toNat)), (i + 1) + (x_2.toNat : Int)) hg10 (Sub.of ⟨rfl, rfl, rfl, rfl, rfl, rfl, trivial⟩) (Sat.pick [] h32)
                · refine C.cond_t rfl (not_t hc36) ?_
                  refine C.seq ?_
                  refine C.region ?_
                  refine G.yl (yl_assign rfl) rfl rfl rfl ?_
                  refine G.yl (yl_assign rfl) rfl rfl rfl ?_
                  refine G.yl (yl_assign rfl) rfl rfl rfl ?_
                  refine G.nil ?_
                  refine QA.then_normal ?_
                  refine C.ret ?_
                  refine QA.then_ret ?_
                  refine QA.block_ret ?_
                  refine QA.then_ret ?_
                  refine QA.past (by simp) ?_
                  refine QA.block_ret ?_
                  refine QA.then_ret ?_
                  refine QA.ret3 rfl rfl rfl rfl ?_
                  obtain rfl := sp_ret1 hm
                  obtain rfl : .inr (([] : List UInt8), 0, 10) = o := hg10
                  have hm : some (([] : List UInt8), 0, 10) = some (r1, r2, r3) := hm6
                  obtain ⟨rfl, rfl, rfl⟩ := sp_ret3 hm
                  exact ⟨rfl, (Sat.pick [] h32)⟩
          · refine C.cond_f rfl hc15 ?_
            refine C.exit ?_
            refine QA.then_exit ?_
            refine QA.then_exit ?_
            obtain rfl := sp_ret1 hm
            exact QA.left (s, i) (Sub.of ⟨rfl, rfl, rfl, rfl, rfl, rfl, trivial⟩) ⟨hg10, (Sat.pick [] h14)⟩
      · rintro ⟨s_2, i_2⟩ w46 ⟨rfl, h47⟩
        have hm := hm6
        show QA _ _ [(0, (.slice a b.length c)), (4, (.string (str ([] : List UInt8)))), (5, (vI 0)), (6, (vI 0)), (7, (.string (str s_2))), (8, (vI i_2))] _ _
        refine QA.block_here ?_
        refine QA.then_normal ?_
        refine C.seq ?_
        refine C.seq ?_
        refine C.region ?_
        refine G.yl (yl_move rfl) rfl rfl rfl ?_
        refine G.yl (yl_move rfl) rfl rfl rfl ?_
        refine G.yl (yl_lenE Try.underlying22 rfl) rfl rfl rfl ?_
        refine G.yl (yl_geI rfl rfl) rfl rfl rfl ?_
        refine G.yl (yl_move rfl) rfl rfl rfl ?_
        rcases sp_ite hm with ⟨hc48, hm⟩ | ⟨hc48, hm⟩
        · refine G.offU rfl rfl (dec_t hc48) rfl ?_
          refine G.offU rfl rfl (dec_t hc48) rfl ?_
          refine G.offU rfl rfl (dec_t hc48) rfl ?_
          refine G.yl (yl_pick_t rfl (dec_t hc48) rfl) rfl rfl rfl ?_
          refine G.nil ?_
          refine QA.then_normal ?_
          refine C.cond_t rfl rfl ?_
          refine C.seq ?_
          refine C.region ?_
          refine G.yl (yl_assign rfl) rfl rfl rfl ?_
          refine G.yl (yl_assign rfl) rfl rfl rfl ?_
          refine G.yl (yl_assign rfl) rfl rfl rfl ?_
          refine G.nil ?_
          refine QA.then_normal ?_
          refine C.ret ?_
          refine QA.then_ret ?_
          refine QA.ret3 rfl rfl rfl rfl ?_
          obtain ⟨rfl, rfl, rfl⟩ := sp_ret3 hm
          exact ⟨rfl, (Sat.pick [] h47)⟩
        · refine G.on rfl rfl (dec_f hc48) ?_
          refine G.yl (yl_move rfl) rfl rfl rfl ?_
          refine G.on rfl rfl (dec_f hc48) ?_
          obtain ⟨r1_3, hy49, hm⟩ := sp_bind hm
          refine G.does (does_fn 0 rfl rfl rfl en86 h47 (fun U hU hp hr hs => M_signpostref09_Good_w hp hy49)) rfl rfl rfl ?_
          rintro _ w50 ⟨U53, hb54, rfl, h52⟩
          have h51 : Sat W w50 [] := hb54 h52
          refine G.on rfl rfl (dec_f hc48) ?_
          refine G.yl (yl_not rfl) rfl rfl rfl ?_
          refine G.yl (yl_pick_f rfl (dec_f hc48) rfl) rfl rfl rfl ?_
          refine G.nil ?_
          refine QA.then_normal ?_
          rcases sp_b hm with ⟨hc55, hm⟩ | ⟨hc55, hm⟩
          · refine C.cond_f rfl (not_f hc55) ?_
            refine C.skip ?_
            refine QA.then_normal ?_
            refine C.seq ?_
            refine C.region ?_
            refine G.yl (yl_move rfl) rfl rfl rfl ?_
            refine G.yl (yl_move rfl) rfl rfl rfl ?_
            obtain ⟨hc56, hm⟩ := sp_chk hm
            refine G.yl (yl_addI rfl rfl hc56) rfl rfl rfl ?_
            refine G.yl (yl_assign rfl) rfl rfl rfl ?_
            refine G.yl (yl_assign rfl) rfl rfl rfl ?_
            refine G.yl (yl_assign rfl) rfl rfl rfl ?_
            refine G.nil ?_
            refine QA.then_normal ?_
            refine C.ret ?_
            refine QA.ret3 rfl rfl rfl rfl ?_
            obtain ⟨rfl, rfl, rfl⟩ := sp_ret3 hm
            exact ⟨rfl, (Sat.pick [] h51)⟩
          · refine C.cond_t rfl (not_t hc55) ?_
            refine C.seq ?_
            refine C.region ?_
            refine G.yl (yl_assign rfl) rfl rfl rfl ?_
            refine G.yl (yl_assign rfl) rfl rfl rfl ?_
            refine G.yl (yl_assign rfl) rfl rfl rfl ?_
            refine G.nil ?_
            refine QA.then_normal ?_
            refine C.ret ?_
            refine QA.then_ret ?_
            refine QA.ret3 rfl rfl rfl rfl ?_
            obtain ⟨rfl, rfl, rfl⟩ := sp_ret3 hm
            exact ⟨rfl, (Sat.pick [] h51)⟩
set_option maxRecDepth 20000 in
theorem M_signpostlaw09_LabelBytes_v_w {W : Base} {w : World} {s : List UInt8} {a : Option Addr} {c : Nat} {b : List UInt8} {at_ : Int} (hv_b : V W a (elU8.row b)) (hq_b : b.length ≤ c) (h : Sat W w []) {r1 : Bool} (hm : M_signpostlaw09_LabelBytes_v s b at_ = some r1) :
    Calls Try.prog 10 #[(.string (str s)), (.slice a b.length c), (vI at_)] w (Ret fun v w' => v = (.bool r1) ∧ Sat W w' []) := by
  unfold M_signpostlaw09_LabelBytes_v at hm
  refine C.enter (N := 78) Try.func10 rfl Try.ntmps10 rfl ?_
  show C _ _ _ [(0, (.string (str s))), (1, (.slice a b.length c)), (2, (vI at_))] _ _
  refine C.seq ?_
  refine C.region ?_
  refine G.yl (yl_assign rfl) rfl rfl rfl ?_
  refine G.nil ?_
  refine QA.then_normal ?_
  refine C.seq ?_
  refine C.join (γ := Bool) (fun g => match g with | t24 => [(0, (.string (str s))), (1, (.slice a b.length c)), (2, (vI at_)), (6, (.bool false)), (24, (.bool t24))]) (fun g ww => match g with | t24 => (M_signpostlaw09_LabelBytes_v_k1 at_ b s t24 = some r1) ∧ Sat W ww []) ?_ ?_
  · refine C.region ?_
    refine G.yl (yl_move rfl) rfl rfl rfl ?_
    refine G.yl (yl_slenE Try.underlying9 rfl) rfl rfl rfl ?_
    refine G.yl (yl_gtI rfl rfl) rfl rfl rfl ?_
    refine G.yl (yl_move rfl) rfl rfl rfl ?_
    rcases sp_ite hm with ⟨hc1, hm⟩ | ⟨hc1, hm⟩
    · refine G.offU rfl rfl (dec_t hc1) rfl ?_
      refine G.offU rfl rfl (dec_t hc1) rfl ?_
      refine G.offU rfl rfl (dec_t hc1) rfl ?_
      refine G.yl (yl_pick_t rfl (dec_t hc1) rfl) rfl rfl rfl ?_
      refine G.nil ?_
      exact QA.join true (Sub.of ⟨rfl, rfl, rfl, rfl, rfl, trivial⟩) ⟨hm, (Sat.pick [] h)⟩
    · refine G.on rfl rfl (dec_f hc1) ?_
      refine G.yl (yl_move rfl) rfl rfl rfl ?_
      refine G.on rfl rfl (dec_f hc1) ?_
      refine G.yl (yl_lenE Try.underlying22 rfl) rfl rfl rfl ?_
      refine G.on rfl rfl (dec_f hc1) ?_
      refine G.yl (yl_gtI rfl rfl) rfl rfl rfl ?_
      refine G.yl (yl_pick_f rfl (dec_f hc1) rfl) rfl rfl rfl ?_
      refine G.nil ?_
      exact QA.join (decide ((2000 : Int) < (b.length : Int))) (Sub.of ⟨rfl, rfl, rfl, rfl, rfl, trivial⟩) ⟨hm, (Sat.pick [] h)⟩
  · rintro t24 w2 ⟨hm, h3⟩
    show C _ _ _ [(0, (.string (str s))), (1, (.slice a b.length c)), (2, (vI at_)), (6, (.bool false)), (24, (.bool t24))] _ _
    unfold M_signpostlaw09_LabelBytes_v_k1 at hm
    rcases sp_b hm with ⟨hc4, hm⟩ | ⟨hc4, hm⟩
    · refine C.cond_t rfl hc4 ?_
      refine C.seq ?_
      refine C.region ?_
      obtain ⟨r1_2, hy5, hm⟩ := sp_bind hm
      refine G.does (does_fn 0 rfl rfl rfl en47 h3 (fun U hU hp hr hs => M_signpostlaw09_lives_w hp hy5)) rfl rfl rfl ?_
      rintro _ w6 ⟨U9, hb10, rfl, h8⟩
      have h7 : Sat W w6 [] := hb10 h8
      refine G.yl (yl_assign rfl) rfl rfl rfl ?_
      refine G.nil ?_
      refine QA.then_normal ?_
      refine C.ret ?_
      refine QA.then_ret ?_
      refine QA.ret1 rfl rfl ?_
      obtain rfl := sp_ret1 hm
      exact ⟨rfl, (Sat.pick [] h7)⟩
    · refine C.cond_f rfl hc4 ?_
      refine C.skip ?_
      refine QA.then_normal ?_
      refine C.seq ?_
      refine C.region ?_
      refine G.yl (yl_move rfl) rfl rfl rfl ?_
      obtain ⟨⟨r3_2, r4_2⟩, hy11, hm⟩ := sp_bind hm
      refine G.does (does_fn 0 rfl rfl rfl en51 h3 (fun U hU hp hr hs => M_label_Wire_w hp hy11)) rfl rfl rfl ?_
      rintro _ w14 ⟨U17, hb18, r112, r213, rfl, h16⟩
      have h15 : Sat W w14 [ow elU8 r112 r213 5 r3_2] := hb18 h16
      refine G.yl (yl_move rfl) rfl rfl rfl ?_
      refine G.yl (yl_extract rfl rfl) rfl rfl rfl ?_
      refine G.yl (yl_extract rfl rfl) rfl rfl rfl ?_
      refine G.yl (yl_assign rfl) rfl rfl rfl ?_
      refine G.yl (yl_assign rfl) rfl rfl rfl ?_
      refine G.nil ?_
      refine QA.then_normal ?_
      refine C.seq ?_
      refine C.region ?_
      refine G.yl (yl_move rfl) rfl rfl rfl ?_
      obtain ⟨⟨r3_3, r4_3⟩, hy19, hm⟩ := sp_bind hm
      refine G.does (does_fn 0 rfl rfl rfl en52 h15 (fun U hU hp hr hs => M_signpostref09_Wire_w hp hy19)) rfl rfl rfl ?_
      rintro _ w22 ⟨U25, hb26, r120, r221, rfl, h24⟩
      have h23 : Sat W w22 [ow elU8 r120 r221 5 r3_3, ow elU8 r112 r213 5 r3_2] := hb26 h24
      refine G.yl (yl_move rfl) rfl rfl rfl ?_
      refine G.yl (yl_extract rfl rfl) rfl rfl rfl ?_
      refine G.yl (yl_extract rfl rfl) rfl rfl rfl ?_
      refine G.yl (yl_assign rfl) rfl rfl rfl ?_
      refine G.yl (yl_assign rfl) rfl rfl rfl ?_
      refine G.nil ?_
      refine QA.then_normal ?_
      refine C.seq ?_
      refine C.region ?_
      refine G.yl (yl_move rfl) rfl rfl rfl ?_
      refine G.yl (yl_move rfl) rfl rfl rfl ?_
      obtain ⟨⟨r1_3, r2_2, r3_4⟩, hy27, hm⟩ := sp_bind hm
      refine G.does (does_fn 0 rfl rfl rfl en53 h23 (fun U hU hp hr hs => M_label_Unwire_v_w (hs.v hv_b) hq_b hp hy27)) rfl rfl rfl ?_
      rintro _ w28 ⟨U31, hb32, rfl, h30⟩
      have h29 : Sat W w28 [ow elU8 r120 r221 5 r3_3, ow elU8 r112 r213 5 r3_2] := hb32 h30
      refine G.yl (yl_move rfl) rfl rfl rfl ?_
      refine G.yl (yl_extract rfl rfl) rfl rfl rfl ?_
      refine G.yl (yl_extract rfl rfl) rfl rfl rfl ?_
      refine G.yl (yl_extract rfl rfl) rfl rfl rfl ?_
      refine G.yl (yl_assign rfl) rfl rfl rfl ?_
      refine G.yl (yl_assign rfl) rfl rfl rfl ?_
      refine G.yl (yl_assign rfl) rfl rfl rfl ?_
      refine G.nil ?_
      refine QA.then_normal ?_
      refine C.seq ?_
      refine C.region ?_
      refine G.yl (yl_move rfl) rfl rfl rfl ?_
      refine G.yl (yl_move rfl) rfl rfl rfl ?_
      obtain ⟨⟨r1_4, r2_3, r3_5⟩, hy33, hm⟩ := sp_bind hm
      refine G.does (does_fn 0 rfl rfl rfl en54 h29 (fun U hU hp hr hs => M_signpostref09_Unwire_v_w (hs.v hv_b) hq_b hp hy33)) rfl rfl rfl ?_
      rintro _ w34 ⟨U37, hb38, rfl, h36⟩
      have h35 : Sat W w34 [ow elU8 r120 r221 5 r3_3, ow elU8 r112 r213 5 r3_2] := hb38 h36
      refine G.yl (yl_move rfl) rfl rfl rfl ?_
      refine G.yl (yl_extract rfl rfl) rfl rfl rfl ?_
      refine G.yl (yl_extract rfl rfl) rfl rfl rfl ?_
      refine G.yl (yl_extract rfl rfl) rfl rfl rfl ?_
      refine G.yl (yl_assign rfl) rfl rfl rfl ?_
      refine G.yl (yl_assign rfl) rfl rfl rfl ?_
      refine G.yl (yl_assign rfl) rfl rfl rfl ?_
      refine G.nil ?_
      refine QA.then_normal ?_
      refine C.seq ?_
      refine C.region ?_
      refine G.yl (yl_move rfl) rfl rfl rfl ?_
      refine G.yl (yl_strE Try.underlying22 Try.underlying5 Try.underlying9 rfl rfl (Sat.own_view (Sat.pick [1] h35))) rfl rfl rfl ?_
      refine G.yl (yl_move rfl) rfl rfl rfl ?_
      refine G.yl (yl_strE Try.underlying22 Try.underlying5 Try.underlying9 rfl rfl (Sat.own_view h35)) rfl rfl rfl ?_
      refine G.yl (yl_eqS rfl rfl) rfl rfl rfl ?_
      refine G.yl (yl_move rfl) rfl rfl rfl ?_
      rcases sp_ite hm with ⟨hc39, hm⟩ | ⟨hc39, hm⟩
      · refine G.on rfl rfl (dec_t hc39) ?_
        refine G.yl (yl_move rfl) rfl rfl rfl ?_
        refine G.on rfl rfl (dec_t hc39) ?_
        refine G.yl (yl_move rfl) rfl rfl rfl ?_
        refine G.on rfl rfl (dec_t hc39) ?_
        refine G.yl (yl_eqI rfl rfl) rfl rfl rfl ?_
        refine G.yl (yl_pick_t rfl (dec_t hc39) rfl) rfl rfl rfl ?_
        refine G.yl (yl_move rfl) rfl rfl rfl ?_
        rcases sp_ite hm with ⟨hc40, hm⟩ | ⟨hc40, hm⟩
        · refine G.on rfl rfl (dec_t hc40) ?_
          refine G.yl (yl_move rfl) rfl rfl rfl ?_
          refine G.on rfl rfl (dec_t hc40) ?_
          refine G.yl (yl_move rfl) rfl rfl rfl ?_
          refine G.on rfl rfl (dec_t hc40) ?_
          refine G.yl (yl_eqS rfl rfl) rfl rfl rfl ?_
          refine G.yl (yl_pick_t rfl (dec_t hc40) rfl) rfl rfl rfl ?_
          refine G.yl (yl_move rfl) rfl rfl rfl ?_
          rcases sp_ite hm with ⟨hc41, hm⟩ | ⟨hc41, hm⟩
          · refine G.on rfl rfl (dec_t hc41) ?_
            refine G.yl (yl_move rfl) rfl rfl rfl ?_
            refine G.on rfl rfl (dec_t hc41) ?_
            refine G.yl (yl_move rfl) rfl rfl rfl ?_
            refine G.on rfl rfl (dec_t hc41) ?_
            refine G.yl (yl_eqI rfl rfl) rfl rfl rfl ?_
            refine G.yl (yl_pick_t rfl (dec_t hc41) rfl) rfl rfl rfl ?_
            refine G.yl (yl_move rfl) rfl rfl rfl ?_
            rcases sp_ite hm with ⟨hc42, hm⟩ | ⟨hc42, hm⟩
            · refine G.on rfl rfl (dec_t hc42) ?_
              refine G.yl (yl_move rfl) rfl rfl rfl ?_
              refine G.on rfl rfl (dec_t hc42) ?_
              refine G.yl (yl_move rfl) rfl rfl rfl ?_
              refine G.on rfl rfl (dec_t hc42) ?_
              refine G.yl (yl_eqI rfl rfl) rfl rfl rfl ?_
              refine G.yl (yl_pick_t rfl (dec_t hc42) rfl) rfl rfl rfl ?_
              refine G.yl (yl_move rfl) rfl rfl rfl ?_
              rcases sp_ite hm with ⟨hc43, hm⟩ | ⟨hc43, hm⟩
              · refine G.on rfl rfl (dec_t hc43) ?_
                obtain ⟨r1_5, hy44, hm⟩ := sp_bind hm
                refine G.does (does_fn 0 rfl rfl rfl en47 h35 (fun U hU hp hr hs => M_signpostlaw09_lives_w hp hy44)) rfl rfl rfl ?_
                rintro _ w45 ⟨U48, hb49, rfl, h47⟩
                have h46 : Sat W w45 [ow elU8 r120 r221 5 r3_3, ow elU8 r112 r213 5 r3_2] := hb49 h47
                refine G.yl (yl_pick_t rfl (dec_t hc43) rfl) rfl rfl rfl ?_
                refine G.yl (yl_assign rfl) rfl rfl rfl ?_
                refine G.nil ?_
                refine QA.then_normal ?_
                refine C.ret ?_
                refine QA.ret1 rfl rfl ?_
                obtain rfl := sp_ret1 hm
                exact ⟨rfl, (Sat.pick [] h46)⟩
              · refine G.offU rfl rfl (dec_f hc43) rfl ?_
                refine G.yl (yl_pick_f rfl (dec_f hc43) rfl) rfl rfl rfl ?_
                refine G.yl (yl_assign rfl) rfl rfl rfl ?_
                refine G.nil ?_
                refine QA.then_normal ?_
                refine C.ret ?_
                refine QA.ret1 rfl rfl ?_
                obtain rfl := sp_ret1 hm
                exact ⟨rfl, (Sat.pick [] h35)⟩
            · refine G.offU rfl rfl (dec_f hc42) rfl ?_
              refine G.offU rfl rfl (dec_f hc42) rfl ?_
              refine G.offU rfl rfl (dec_f hc42) rfl ?_
              refine G.yl (yl_pick_f rfl (dec_f hc42) rfl) rfl rfl rfl ?_
              refine G.yl (yl_move rfl) rfl rfl rfl ?_
              refine G.offU rfl rfl rfl rfl ?_
              refine G.yl (yl_pick_f rfl rfl rfl) rfl rfl rfl ?_
              refine G.yl (yl_assign rfl) rfl rfl rfl ?_
              refine G.nil ?_
              refine QA.then_normal ?_
              refine C.ret ?_
              refine QA.ret1 rfl rfl ?_
              obtain rfl := sp_ret1 hm
              exact ⟨rfl, (Sat.pick [] h35)⟩
          · refine G.offU rfl rfl (dec_f hc41) rfl ?_
            refine G.offU rfl rfl (dec_f hc41) rfl ?_
            refine G.offU rfl rfl (dec_f hc41) rfl ?_
            refine G.yl (yl_pick_f rfl (dec_f hc41) rfl) rfl rfl rfl ?_
            refine G.yl (yl_move rfl) rfl rfl rfl ?_
            refine G.offU rfl rfl rfl rfl ?_
            refine G.offU rfl rfl rfl rfl ?_
            refine G.offU rfl rfl rfl rfl ?_
            refine G.yl (yl_pick_f rfl rfl rfl) rfl rfl rfl ?_
            refine G.yl (yl_move rfl) rfl rfl rfl ?_
            refine G.offU rfl rfl rfl rfl ?_
            refine G.yl (yl_pick_f rfl rfl rfl) rfl rfl rfl ?_
            refine G.yl (yl_assign rfl) rfl rfl rfl ?_
            refine G.nil ?_
            refine QA.then_normal ?_
            refine C.ret ?_
            refine QA.ret1 rfl rfl ?_
            obtain rfl := sp_ret1 hm
            exact ⟨rfl, (Sat.pick [] h35)⟩
        · refine G.offU rfl rfl (dec_f hc40) rfl ?_
          refine G.offU rfl rfl (dec_f hc40) rfl ?_
          refine G.offU rfl rfl (dec_f hc40) rfl ?_
          refine G.yl (yl_pick_f rfl (dec_f hc40) rfl) rfl rfl rfl ?_
          refine G.yl (yl_move rfl) rfl rfl rfl ?_
          refine G.offU rfl rfl rfl rfl ?_
          refine G.offU rfl rfl rfl rfl ?_
          refine G.offU rfl rfl rfl rfl ?_
          refine G.yl (yl_pick_f rfl rfl rfl) rfl rfl rfl ?_
          refine G.yl (yl_move rfl) rfl rfl rfl ?_
          refine G.offU rfl rfl rfl rfl ?_
          refine G.offU rfl rfl rfl rfl ?_
          refine G.offU rfl rfl rfl rfl ?_
          refine G.yl (yl_pick_f rfl rfl rfl) rfl rfl rfl ?_
          refine G.yl (yl_move rfl) rfl rfl rfl ?_
          refine G.offU rfl rfl rfl rfl ?_
          refine G.yl (yl_pick_f rfl rfl rfl) rfl rfl rfl ?_
          refine G.yl (yl_assign rfl) rfl rfl rfl ?_
          refine G.nil ?_
          refine QA.then_normal ?_
          refine C.ret ?_
          refine QA.ret1 rfl rfl ?_
          obtain rfl := sp_ret1 hm
          exact ⟨rfl, (Sat.pick [] h35)⟩
      · refine G.offU rfl rfl (dec_f hc39) rfl ?_
        refine G.offU rfl rfl (dec_f hc39) rfl ?_
        refine G.offU rfl rfl (dec_f hc39) rfl ?_
        refine G.yl (yl_pick_f rfl (dec_f hc39) rfl) rfl rfl rfl ?_
        refine G.yl (yl_move rfl) rfl rfl rfl ?_
        refine G.offU rfl rfl rfl rfl ?_
        refine G.offU rfl rfl rfl rfl ?_
        refine G.offU rfl rfl rfl rfl ?_
        refine G.yl (yl_pick_f rfl rfl rfl) rfl rfl rfl ?_
        refine G.yl (yl_move rfl) rfl rfl rfl ?_
        refine G.offU rfl rfl rfl rfl ?_
        refine G.offU rfl rfl rfl rfl ?_
        refine G.offU rfl rfl rfl rfl ?_
        refine G.yl (yl_pick_f rfl rfl rfl) rfl rfl rfl ?_
        refine G.yl (yl_move rfl) rfl rfl rfl ?_
        refine G.offU rfl rfl rfl rfl ?_
        refine G.offU rfl rfl rfl rfl ?_
        refine G.offU rfl rfl rfl rfl ?_
        refine G.yl (yl_pick_f rfl rfl rfl) rfl rfl rfl ?_
        refine G.yl (yl_move rfl) rfl rfl rfl ?_
        refine G.offU rfl rfl rfl rfl ?_
        refine G.yl (yl_pick_f rfl rfl rfl) rfl rfl rfl ?_
        refine G.yl (yl_assign rfl) rfl rfl rfl ?_
        refine G.nil ?_
        refine QA.then_normal ?_
        refine C.ret ?_
        refine QA.ret1 rfl rfl ?_
        obtain rfl := sp_ret1 hm
        exact ⟨rfl, (Sat.pick [] h35)⟩
end Go.Proofs.Ytaaahjcldomnbaa
