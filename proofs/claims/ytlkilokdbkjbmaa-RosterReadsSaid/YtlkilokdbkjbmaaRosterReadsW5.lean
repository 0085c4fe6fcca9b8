/-
  That the functions of the program compute what their Lean functions say, part 5. No condition.
-/
import Derived.Test.YtlkilokdbkjbmaaRosterReadsW4
namespace Go.Proofs.Ytlkilokdbkjbmaa
open Go Go.RowKit
set_option linter.unusedVariables false
set_option linter.unusedSimpArgs false
set_option linter.unnecessarySimpa false
set_option maxRecDepth 20000 in
set_option maxHeartbeats 1000000 in
theorem M_signpostref12_Good_v_w {W : Base} {w : World} {a : Option Addr} {c : Nat} {l : List G_api_Instance} (hv_l : V W a (el_G_api_Instance.row l)) (hq_l : l.length ≤ c) (h : Sat W w []) {r1 : Bool} (hm : M_signpostref12_Good_v l = some r1) :
    Calls Try.prog 64 #[(.slice a l.length c)] w (Ret fun v w' => v = (.bool r1) ∧ Sat W w' []) := by
  unfold M_signpostref12_Good_v at hm
  refine C.enter (N := 36) Try.func64 rfl Try.ntmps64 rfl ?_
  show C _ _ _ [(0, (.slice a l.length c))] _ _
  refine C.seq ?_
  refine C.region ?_
  refine G.yl (yl_assign rfl) rfl rfl rfl ?_
  refine G.nil ?_
  refine QA.then_normal ?_
  refine C.seq ?_
  refine C.seq ?_
  refine C.region ?_
  refine G.yl (yl_assign rfl) rfl rfl rfl ?_
  refine G.nil ?_
  refine QA.then_normal ?_
  refine C.block ?_
  obtain ⟨o, ho1, hm2⟩ := sp_bind hm
  refine C.left (γ := Unit) (.exit 0) (fun g => match g with | () => [(0, (.slice a l.length c)), (2, (.bool false))]) (fun g ww => match g with | () => .inl () = o ∧ Sat W ww []) ?_ ?_
  · refine C.loopO (γ := Int) (fun g => match g with | i => [(0, (.slice a l.length c)), (2, (.bool false)), (3, (vI i))]) (fun g ww => match g with | i => Sat W ww []) (fun g => match g with | i => i) 0 ho1 (Sub.of ⟨rfl, rfl, rfl, trivial⟩) (Sat.pick [] h) ?_
    rintro i k5 w3 y_ h4 hm hg6
    show C _ _ _ [(0, (.slice a l.length c)), (2, (.bool false)), (3, (vI i))] _ _
    change M_signpostref12_Good_v_b1 l i = some y_ at hm
    unfold M_signpostref12_Good_v_b1 at hm
    refine C.seq ?_
    refine C.seq ?_
    refine C.region ?_
    refine G.yl (yl_move rfl) rfl rfl rfl ?_
    refine G.yl (yl_move rfl) rfl rfl rfl ?_
    refine G.yl (yl_lenE Try.underlying57 rfl) rfl rfl rfl ?_
    refine G.yl (yl_ltI rfl rfl) rfl rfl rfl ?_
    refine G.nil ?_
    refine QA.then_normal ?_
    rcases sp_ite hm with ⟨hc7, hm⟩ | ⟨hc7, hm⟩
    · refine C.cond_t rfl (dec_t hc7) ?_
      refine C.skip ?_
      refine QA.then_normal ?_
      refine C.seq ?_
      refine C.block ?_
      refine C.seq ?_
      refine C.draw (V := fun w' => View w' a (el_G_api_Instance.row l)) (nd := [3, 7, 8, 9, 10, 11, 12, 13, 14, 15, 16, 17, 18, 20, 21]) (sp := []) (n := 23) rfl h4 rfl rfl ?_
      intro w8 h9
      have hS10 : Cls (fun w' => View w' a (el_G_api_Instance.row l)) [3, 7, 8, 9, 10, 11, 12, 13, 14, 15, 16, 17, 18, 20, 21] [] #[nn, nn, nn, nn, nn, nn, nn, nn, nn, nn, nn, nn, nn, nn, nn, nn, nn, nn, nn, nn, nn, nn, nn] w8 := Cls.keep ((hv_l.at_ h9)) (by kernel_rfl)
      refine GH.yl (i := 0) (listed' := #[yy, nn, nn, nn, nn, nn, nn, nn, nn, nn, nn, nn, nn, nn, nn, nn, nn, nn, nn, nn, nn, nn, nn]) rfl (by kernel_rfl) rfl (NP.next (NP.block (NP.next (NP.next (NP.left (by simp) (NP.block (NP.next NP.body))))))) rfl rfl rfl (fun w' => yl_move rfl) hS10 (fun hS11 => ?_)
      refine GH.yl (i := 1) (listed' := #[yy, yy, nn, nn, nn, nn, nn, nn, nn, nn, nn, nn, nn, nn, nn, nn, nn, nn, nn, nn, nn, nn, nn]) rfl (by kernel_rfl) rfl (NP.next (NP.block (NP.next (NP.next (NP.left (by simp) (NP.block (NP.next NP.body))))))) rfl rfl rfl (fun w' => yl_move rfl) hS11 (fun hS12 => ?_)
      obtain ⟨x, hy13, hm⟩ := sp_bind hm
      refine GH.yl (i := 2) (listed' := #[yy, yy, yy, nn, nn, nn, nn, nn, nn, nn, nn, nn, nn, nn, nn, nn, nn, nn, nn, nn, nn, nn, nn]) rfl (by kernel_rfl) rfl (NP.next (NP.block (NP.next (NP.next (NP.left (by simp) (NP.block (NP.next NP.body))))))) rfl rfl rfl (fun w' => yl_ixP (l := l) sl57 rfl rfl (View.isA (E := el_G_api_Instance) (hv_l.at_ h9) (by decide) (at?_lt hy13)) rfl (at?_lt hy13)) hS12 (fun hS14 => ?_)
      refine GH.yr (i := 3) (listed' := #[yy, yy, yy, yy, nn, nn, nn, nn, nn, nn, nn, nn, nn, nn, nn, nn, nn, nn, nn, nn, nn, nn, nn]) rfl (by kernel_rfl) rfl rfl (NP.next (NP.block (NP.next (NP.next (NP.left (by simp) (NP.block (NP.next NP.body))))))) rfl rfl rfl (fun w' hw' => yl_ldE (E := el_G_api_Instance) ag104 sz104 rfl (hw') (at?_some hy13).2) hS14 (fun hS15 => ?_)
      obtain ⟨r1_2, hy16, hm⟩ := sp_bind hm
      refine GH.does (i := 4) (listed' := #[yy, yy, yy, yy, yy, nn, nn, nn, nn, nn, nn, nn, nn, nn, nn, nn, nn, nn, nn, nn, nn, nn, nn]) rfl (by kernel_rfl) rfl rfl rfl rfl (does_fn 0 rfl rfl rfl en112 h9 (fun U hU hp hr hs => M_signpostref11_Good_w (i := x) hp hy16)) ?_
      rintro _ w17 ⟨U20, hb21, rfl, h19⟩
      have h18 : Sat W w17 [] := hb21 h19
      have hS22 : Cls (fun w' => View w' a (el_G_api_Instance.row l)) [3, 7, 8, 9, 10, 11, 12, 13, 14, 15, 16, 17, 18, 20, 21] [] #[yy, yy, yy, yy, yy, nn, nn, nn, nn, nn, nn, nn, nn, nn, nn, nn, nn, nn, nn, nn, nn, nn, nn] w17 := Cls.keep ((hv_l.at_ h18)) (by kernel_rfl)
      refine ⟨hS22, ?_⟩
      refine GH.yl (i := 5) (listed' := #[yy, yy, yy, yy, yy, yy, nn, nn, nn, nn, nn, nn, nn, nn, nn, nn, nn, nn, nn, nn, nn, nn, nn]) rfl (by kernel_rfl) rfl (NP.next (NP.block (NP.next (NP.next (NP.left (by simp) (NP.block (NP.next NP.body))))))) rfl rfl rfl (fun w' => yl_not rfl) hS22 (fun hS23 => ?_)
      refine GH.yl (i := 6) (listed' := #[yy, yy, yy, yy, yy, yy, yy, nn, nn, nn, nn, nn, nn, nn, nn, nn, nn, nn, nn, nn, nn, nn, nn]) rfl (by kernel_rfl) rfl (NP.next (NP.block (NP.next (NP.next (NP.left (by simp) (NP.block (NP.next NP.body))))))) rfl rfl rfl (fun w' => yl_move rfl) hS23 (fun hS24 => ?_)
      rcases sp_b hm with ⟨hc25, hm⟩ | ⟨hc25, hm⟩
      · refine GH.on (i := 7) (listed' := #[yy, yy, yy, yy, yy, yy, yy, yy, nn, nn, nn, nn, nn, nn, nn, nn, nn, nn, nn, nn, nn, nn, nn]) rfl (by kernel_rfl) rfl rfl (NP.next (NP.block (NP.next (NP.next (NP.left (by simp) (NP.block (NP.next NP.body))))))) rfl rfl rfl rfl (not_f hc25) (fun w' hw' => yl_move rfl) hS24 (fun hS26 => ?_)
        refine GH.on (i := 8) (listed' := #[yy, yy, yy, yy, yy, yy, yy, yy, yy, nn, nn, nn, nn, nn, nn, nn, nn, nn, nn, nn, nn, nn, nn]) rfl (by kernel_rfl) rfl rfl (NP.next (NP.block (NP.next (NP.next (NP.left (by simp) (NP.block (NP.next NP.body))))))) rfl rfl rfl rfl (not_f hc25) (fun w' hw' => yl_gtI rfl rfl) hS26 (fun hS27 => ?_)
        refine GH.on (i := 9) (listed' := #[yy, yy, yy, yy, yy, yy, yy, yy, yy, yy, nn, nn, nn, nn, nn, nn, nn, nn, nn, nn, nn, nn, nn]) rfl (by kernel_rfl) rfl rfl (NP.next (NP.block (NP.next (NP.next (NP.left (by simp) (NP.block (NP.next NP.body))))))) rfl rfl rfl rfl (not_f hc25) (fun w' hw' => yl_move rfl) hS27 (fun hS28 => ?_)
        rcases sp_ite hm with ⟨hc29, hm⟩ | ⟨hc29, hm⟩
        · refine GH.on (i := 10) (listed' := #[yy, yy, yy, yy, yy, yy, yy, yy, yy, yy, yy, nn, nn, nn, nn, nn, nn, nn, nn, nn, nn, nn, nn]) rfl (by kernel_rfl) rfl rfl (NP.next (NP.block (NP.next (NP.next (NP.left (by simp) (NP.block (NP.next NP.body))))))) rfl rfl rfl rfl (dec_t hc29) (fun w' hw' => yl_move rfl) hS28 (fun hS30 => ?_)
          refine GH.on (i := 11) (listed' := #[yy, yy, yy, yy, yy, yy, yy, yy, yy, yy, yy, yy, nn, nn, nn, nn, nn, nn, nn, nn, nn, nn, nn]) rfl (by kernel_rfl) rfl rfl (NP.next (NP.block (NP.next (NP.next (NP.left (by simp) (NP.block (NP.next NP.body))))))) rfl rfl rfl rfl (dec_t hc29) (fun w' hw' => yl_move rfl) hS30 (fun hS31 => ?_)
          obtain ⟨hc32, hm⟩ := sp_chk hm
          refine GH.on (i := 12) (listed' := #[yy, yy, yy, yy, yy, yy, yy, yy, yy, yy, yy, yy, yy, nn, nn, nn, nn, nn, nn, nn, nn, nn, nn]) rfl (by kernel_rfl) rfl rfl (NP.next (NP.block (NP.next (NP.next (NP.left (by simp) (NP.block (NP.next NP.body))))))) rfl rfl rfl rfl (dec_t hc29) (fun w' hw' => yl_subI rfl rfl hc32) hS31 (fun hS33 => ?_)
          obtain ⟨x_2, hy34, hm⟩ := sp_bind hm
          refine GH.on (i := 13) (listed' := #[yy, yy, yy, yy, yy, yy, yy, yy, yy, yy, yy, yy, yy, yy, nn, nn, nn, nn, nn, nn, nn, nn, nn]) rfl (by kernel_rfl) rfl rfl (NP.next (NP.block (NP.next (NP.next (NP.left (by simp) (NP.block (NP.next NP.body))))))) rfl rfl rfl rfl (dec_t hc29) (fun w' hw' => yl_ixP (l := l) sl57 rfl rfl (View.isA (E := el_G_api_Instance) (hv_l.at_ h18) (by decide) (at?_lt hy34)) rfl (at?_lt hy34)) hS33 (fun hS35 => ?_)
          refine GH.on (i := 14) (listed' := #[yy, yy, yy, yy, yy, yy, yy, yy, yy, yy, yy, yy, yy, yy, yy, nn, nn, nn, nn, nn, nn, nn, nn]) rfl (by kernel_rfl) rfl rfl (NP.next (NP.block (NP.next (NP.next (NP.left (by simp) (NP.block (NP.next NP.body))))))) rfl rfl rfl rfl (dec_t hc29) (fun w' hw' => yl_ldE (E := el_G_api_Instance) ag104 sz104 rfl (hw') (at?_some hy34).2) hS35 (fun hS36 => ?_)
          refine GH.on (i := 15) (listed' := #[yy, yy, yy, yy, yy, yy, yy, yy, yy, yy, yy, yy, yy, yy, yy, yy, nn, nn, nn, nn, nn, nn, nn]) rfl (by kernel_rfl) rfl rfl (NP.next (NP.block (NP.next (NP.next (NP.left (by simp) (NP.block (NP.next NP.body))))))) rfl rfl rfl rfl (dec_t hc29) (fun w' hw' => yl_move rfl) hS36 (fun hS37 => ?_)
          refine GH.on (i := 16) (listed' := #[yy, yy, yy, yy, yy, yy, yy, yy, yy, yy, yy, yy, yy, yy, yy, yy, yy, nn, nn, nn, nn, nn, nn]) rfl (by kernel_rfl) rfl rfl (NP.next (NP.block (NP.next (NP.next (NP.left (by simp) (NP.block (NP.next NP.body))))))) rfl rfl rfl rfl (dec_t hc29) (fun w' hw' => yl_move rfl) hS37 (fun hS38 => ?_)
          refine GH.on (i := 17) (listed' := #[yy, yy, yy, yy, yy, yy, yy, yy, yy, yy, yy, yy, yy, yy, yy, yy, yy, yy, nn, nn, nn, nn, nn]) rfl (by kernel_rfl) rfl rfl (NP.next (NP.block (NP.next (NP.next (NP.left (by simp) (NP.block (NP.next NP.body))))))) rfl rfl rfl rfl (dec_t hc29) (fun w' hw' => yl_ixP (l := l) sl57 rfl rfl (View.isA (E := el_G_api_Instance) (hv_l.at_ h18) (by decide) (at?_lt hy13)) rfl (at?_lt hy13)) hS38 (fun hS39 => ?_)
          refine GH.on (i := 18) (listed' := #[yy, yy, yy, yy, yy, yy, yy, yy, yy, yy, yy, yy, yy, yy, yy, yy, yy, yy, yy, nn, nn, nn, nn]) rfl (by kernel_rfl) rfl rfl (NP.next (NP.block (NP.next (NP.next (NP.left (by simp) (NP.block (NP.next NP.body))))))) rfl rfl rfl rfl (dec_t hc29) (fun w' hw' => yl_ldE (E := el_G_api_Instance) ag104 sz104 rfl (hw') (at?_some hy13).2) hS39 (fun hS40 => ?_)
          obtain ⟨_, hy41, hm⟩ := sp_bind hm
          refine GH.doesOn (i := 19) (listed' := #[yy, yy, yy, yy, yy, yy, yy, yy, yy, yy, yy, yy, yy, yy, yy, yy, yy, yy, yy, yy, nn, nn, nn]) rfl (by kernel_rfl) rfl rfl rfl (dec_t hc29) rfl rfl (does_fn 0 rfl rfl rfl en113 h18 (fun U hU hp hr hs => M_signpostref12_before_w (a := x_2) (b := x) hp hy41)) ?_
          rintro _ w42 ⟨U45, hb46, rfl, h44⟩
          have h43 : Sat W w42 [] := hb46 h44
          have hS47 : Cls (fun w' => View w' a (el_G_api_Instance.row l)) [3, 7, 8, 9, 10, 11, 12, 13, 14, 15, 16, 17, 18, 20, 21] [] #[yy, yy, yy, yy, yy, yy, yy, yy, yy, yy, yy, yy, yy, yy, yy, yy, yy, yy, yy, yy, nn, nn, nn] w42 := Cls.keep ((hv_l.at_ h43)) (by kernel_rfl)
          refine ⟨hS47, ?_⟩
          refine GH.on (i := 20) (listed' := #[yy, yy, yy, yy, yy, yy, yy, yy, yy, yy, yy, yy, yy, yy, yy, yy, yy, yy, yy, yy, yy, nn, nn]) rfl (by kernel_rfl) rfl rfl (NP.next (NP.block (NP.next (NP.next (NP.left (by simp) (NP.block (NP.next NP.body))))))) rfl rfl rfl rfl (dec_t hc29) (fun w' hw' => yl_not rfl) hS47 (fun hS48 => ?_)
          refine GH.on (i := 21) (listed' := #[yy, yy, yy, yy, yy, yy, yy, yy, yy, yy, yy, yy, yy, yy, yy, yy, yy, yy, yy, yy, yy, yy, nn]) rfl (by kernel_rfl) rfl rfl (NP.next (NP.block (NP.next (NP.next (NP.left (by simp) (NP.block (NP.next NP.body))))))) rfl rfl rfl rfl (not_f hc25) (fun w' hw' => yl_pick_t rfl (dec_t hc29) rfl) hS48 (fun hS49 => ?_)
          refine GH.yl (i := 22) (listed' := #[yy, yy, yy, yy, yy, yy, yy, yy, yy, yy, yy, yy, yy, yy, yy, yy, yy, yy, yy, yy, yy, yy, yy]) rfl (by kernel_rfl) rfl (NP.next (NP.block (NP.next (NP.next (NP.left (by simp) (NP.block (NP.next NP.body))))))) rfl rfl rfl (fun w' => yl_pick_f rfl (not_f hc25) rfl) hS49 (fun hS50 => ?_)
          refine GH.done (by kernel_rfl) ?_
          refine QA.then_normal ?_
          rcases sp_b hm with ⟨hc51, hm⟩ | ⟨hc51, hm⟩
          · refine C.cond_f rfl (not_f hc51) ?_
            refine C.skip ?_
            refine QA.block_normal ?_
            refine QA.then_normal ?_
            refine C.region ?_
            refine G.yl (yl_move rfl) rfl rfl rfl ?_
            obtain ⟨hc52, hm⟩ := sp_chk hm
            refine G.yl (yl_addI rfl rfl hc52) rfl rfl rfl ?_
            refine G.yl (yl_assign rfl) rfl rfl rfl ?_
            refine G.nil ?_
            obtain rfl := sp_ret1 hm
            exact QA.againO (i + 1) hg6 (Sub.of ⟨rfl, rfl, rfl, trivial⟩) (Sat.pick [] h43)
          · refine C.cond_t rfl (not_t hc51) ?_
            refine C.seq ?_
            refine C.region ?_
            refine G.yl (yl_assign rfl) rfl rfl rfl ?_
            refine G.nil ?_
            refine QA.then_normal ?_
            refine C.ret ?_
            refine QA.block_ret ?_
            refine QA.then_ret ?_
            refine QA.then_ret ?_
            refine QA.past (by simp) ?_
            refine QA.block_ret ?_
            refine QA.then_ret ?_
            refine QA.ret1 rfl rfl ?_
            obtain rfl := sp_ret1 hm
            obtain rfl : .inr false = o := hg6
            have hm : some false = some r1 := hm2
            obtain rfl := sp_ret1 hm
            exact ⟨rfl, (Sat.pick [] h43)⟩
        · refine GH.off (i := 10) (listed' := #[yy, yy, yy, yy, yy, yy, yy, yy, yy, yy, yy, nn, nn, nn, nn, nn, nn, nn, nn, nn, nn, nn, nn]) rfl (by kernel_rfl) rfl (NP.next (NP.block (NP.next (NP.next (NP.left (by simp) (NP.block (NP.next NP.body))))))) rfl rfl rfl rfl (dec_f hc29) hS28 (fun hS53 => ?_)
          refine GH.off (i := 11) (listed' := #[yy, yy, yy, yy, yy, yy, yy, yy, yy, yy, yy, yy, nn, nn, nn, nn, nn, nn, nn, nn, nn, nn, nn]) rfl (by kernel_rfl) rfl (NP.next (NP.block (NP.next (NP.next (NP.left (by simp) (NP.block (NP.next NP.body))))))) rfl rfl rfl rfl (dec_f hc29) hS53 (fun hS54 => ?_)
          refine GH.off (i := 12) (listed' := #[yy, yy, yy, yy, yy, yy, yy, yy, yy, yy, yy, yy, yy, nn, nn, nn, nn, nn, nn, nn, nn, nn, nn]) rfl (by kernel_rfl) rfl (NP.next (NP.block (NP.next (NP.next (NP.left (by simp) (NP.block (NP.next NP.body))))))) rfl rfl rfl rfl (dec_f hc29) hS54 (fun hS55 => ?_)
          refine GH.off (i := 13) (listed' := #[yy, yy, yy, yy, yy, yy, yy, yy, yy, yy, yy, yy, yy, yy, nn, nn, nn, nn, nn, nn, nn, nn, nn]) rfl (by kernel_rfl) rfl (NP.next (NP.block (NP.next (NP.next (NP.left (by simp) (NP.block (NP.next NP.body))))))) rfl rfl rfl rfl (dec_f hc29) hS55 (fun hS56 => ?_)
          refine GH.off (i := 14) (listed' := #[yy, yy, yy, yy, yy, yy, yy, yy, yy, yy, yy, yy, yy, yy, yy, nn, nn, nn, nn, nn, nn, nn, nn]) rfl (by kernel_rfl) rfl (NP.next (NP.block (NP.next (NP.next (NP.left (by simp) (NP.block (NP.next NP.body))))))) rfl rfl rfl rfl (dec_f hc29) hS56 (fun hS57 => ?_)
          refine GH.off (i := 15) (listed' := #[yy, yy, yy, yy, yy, yy, yy, yy, yy, yy, yy, yy, yy, yy, yy, yy, nn, nn, nn, nn, nn, nn, nn]) rfl (by kernel_rfl) rfl (NP.next (NP.block (NP.next (NP.next (NP.left (by simp) (NP.block (NP.next NP.body))))))) rfl rfl rfl rfl (dec_f hc29) hS57 (fun hS58 => ?_)
          refine GH.off (i := 16) (listed' := #[yy, yy, yy, yy, yy, yy, yy, yy, yy, yy, yy, yy, yy, yy, yy, yy, yy, nn, nn, nn, nn, nn, nn]) rfl (by kernel_rfl) rfl (NP.next (NP.block (NP.next (NP.next (NP.left (by simp) (NP.block (NP.next NP.body))))))) rfl rfl rfl rfl (dec_f hc29) hS58 (fun hS59 => ?_)
          refine GH.off (i := 17) (listed' := #[yy, yy, yy, yy, yy, yy, yy, yy, yy, yy, yy, yy, yy, yy, yy, yy, yy, yy, nn, nn, nn, nn, nn]) rfl (by kernel_rfl) rfl (NP.next (NP.block (NP.next (NP.next (NP.left (by simp) (NP.block (NP.next NP.body))))))) rfl rfl rfl rfl (dec_f hc29) hS59 (fun hS60 => ?_)
          refine GH.off (i := 18) (listed' := #[yy, yy, yy, yy, yy, yy, yy, yy, yy, yy, yy, yy, yy, yy, yy, yy, yy, yy, yy, nn, nn, nn, nn]) rfl (by kernel_rfl) rfl (NP.next (NP.block (NP.next (NP.next (NP.left (by simp) (NP.block (NP.next NP.body))))))) rfl rfl rfl rfl (dec_f hc29) hS60 (fun hS61 => ?_)
          refine GH.off (i := 19) (listed' := #[yy, yy, yy, yy, yy, yy, yy, yy, yy, yy, yy, yy, yy, yy, yy, yy, yy, yy, yy, yy, nn, nn, nn]) rfl (by kernel_rfl) rfl (NP.next (NP.block (NP.next (NP.next (NP.left (by simp) (NP.block (NP.next NP.body))))))) rfl rfl rfl rfl (dec_f hc29) hS61 (fun hS62 => ?_)
          refine GH.off (i := 20) (listed' := #[yy, yy, yy, yy, yy, yy, yy, yy, yy, yy, yy, yy, yy, yy, yy, yy, yy, yy, yy, yy, yy, nn, nn]) rfl (by kernel_rfl) rfl (NP.next (NP.block (NP.next (NP.next (NP.left (by simp) (NP.block (NP.next NP.body))))))) rfl rfl rfl rfl (dec_f hc29) hS62 (fun hS63 => ?_)
          refine GH.on (i := 21) (listed' := #[yy, yy, yy, yy, yy, yy, yy, yy, yy, yy, yy, yy, yy, yy, yy, yy, yy, yy, yy, yy, yy, yy, nn]) rfl (by kernel_rfl) rfl rfl (NP.next (NP.block (NP.next (NP.next (NP.left (by simp) (NP.block (NP.next NP.body))))))) rfl rfl rfl rfl (not_f hc25) (fun w' hw' => yl_pick_f rfl (dec_f hc29) rfl) hS63 (fun hS64 => ?_)
          refine GH.yl (i := 22) (listed' := #[yy, yy, yy, yy, yy, yy, yy, yy, yy, yy, yy, yy, yy, yy, yy, yy, yy, yy, yy, yy, yy, yy, yy]) rfl (by kernel_rfl) rfl (NP.next (NP.block (NP.next (NP.next (NP.left (by simp) (NP.block (NP.next NP.body))))))) rfl rfl rfl (fun w' => yl_pick_f rfl (not_f hc25) rfl) hS64 (fun hS65 => ?_)
          refine GH.done (by kernel_rfl) ?_
          refine QA.then_normal ?_
          refine C.cond_f rfl rfl ?_
          refine C.skip ?_
          refine QA.block_normal ?_
          refine QA.then_normal ?_
          refine C.region ?_
          refine G.yl (yl_move rfl) rfl rfl rfl ?_
          obtain ⟨hc66, hm⟩ := sp_chk hm
          refine G.yl (yl_addI rfl rfl hc66) rfl rfl rfl ?_
          refine G.yl (yl_assign rfl) rfl rfl rfl ?_
          refine G.nil ?_
          obtain rfl := sp_ret1 hm
          exact QA.againO (i + 1) hg6 (Sub.of ⟨rfl, rfl, rfl, trivial⟩) (Sat.pick [] h18)
      · refine GH.off (i := 7) (listed' := #[yy, yy, yy, yy, yy, yy, yy, yy, nn, nn, nn, nn, nn, nn, nn, nn, nn, nn, nn, nn, nn, nn, nn]) rfl (by kernel_rfl) rfl (NP.next (NP.block (NP.next (NP.next (NP.left (by simp) (NP.block (NP.next NP.body))))))) rfl rfl rfl rfl (not_t hc25) hS24 (fun hS67 => ?_)
        refine GH.off (i := 8) (listed' := #[yy, yy, yy, yy, yy, yy, yy, yy, yy, nn, nn, nn, nn, nn, nn, nn, nn, nn, nn, nn, nn, nn, nn]) rfl (by kernel_rfl) rfl (NP.next (NP.block (NP.next (NP.next (NP.left (by simp) (NP.block (NP.next NP.body))))))) rfl rfl rfl rfl (not_t hc25) hS67 (fun hS68 => ?_)
        refine GH.off (i := 9) (listed' := #[yy, yy, yy, yy, yy, yy, yy, yy, yy, yy, nn, nn, nn, nn, nn, nn, nn, nn, nn, nn, nn, nn, nn]) rfl (by kernel_rfl) rfl (NP.next (NP.block (NP.next (NP.next (NP.left (by simp) (NP.block (NP.next NP.body))))))) rfl rfl rfl rfl (not_t hc25) hS68 (fun hS69 => ?_)
        refine GH.offU (i := 10) (listed' := #[yy, yy, yy, yy, yy, yy, yy, yy, yy, yy, yy, nn, nn, nn, nn, nn, nn, nn, nn, nn, nn, nn, nn]) rfl (by kernel_rfl) rfl (NP.next (NP.block (NP.next (NP.next (NP.left (by simp) (NP.block (NP.next NP.body))))))) rfl rfl rfl rfl hS69 (fun hS70 => ?_)
        refine GH.offU (i := 11) (listed' := #[yy, yy, yy, yy, yy, yy, yy, yy, yy, yy, yy, yy, nn, nn, nn, nn, nn, nn, nn, nn, nn, nn, nn]) rfl (by kernel_rfl) rfl (NP.next (NP.block (NP.next (NP.next (NP.left (by simp) (NP.block (NP.next NP.body))))))) rfl rfl rfl rfl hS70 (fun hS71 => ?_)
        refine GH.offU (i := 12) (listed' := #[yy, yy, yy, yy, yy, yy, yy, yy, yy, yy, yy, yy, yy, nn, nn, nn, nn, nn, nn, nn, nn, nn, nn]) rfl (by kernel_rfl) rfl (NP.next (NP.block (NP.next (NP.next (NP.left (by simp) (NP.block (NP.next NP.body))))))) rfl rfl rfl rfl hS71 (fun hS72 => ?_)
        refine GH.offU (i := 13) (listed' := #[yy, yy, yy, yy, yy, yy, yy, yy, yy, yy, yy, yy, yy, yy, nn, nn, nn, nn, nn, nn, nn, nn, nn]) rfl (by kernel_rfl) rfl (NP.next (NP.block (NP.next (NP.next (NP.left (by simp) (NP.block (NP.next NP.body))))))) rfl rfl rfl rfl hS72 (fun hS73 => ?_)
        refine GH.offU (i := 14) (listed' := #[yy, yy, yy, yy, yy, yy, yy, yy, yy, yy, yy, yy, yy, yy, yy, nn, nn, nn, nn, nn, nn, nn, nn]) rfl (by kernel_rfl) rfl (NP.next (NP.block (NP.next (NP.next (NP.left (by simp) (NP.block (NP.next NP.body))))))) rfl rfl rfl rfl hS73 (fun hS74 => ?_)
        refine GH.offU (i := 15) (listed' := #[yy, yy, yy, yy, yy, yy, yy, yy, yy, yy, yy, yy, yy, yy, yy, yy, nn, nn, nn, nn, nn, nn, nn]) rfl (by kernel_rfl) rfl (NP.next (NP.block (NP.next (NP.next (NP.left (by simp) (NP.block (NP.next NP.body))))))) rfl rfl rfl rfl hS74 (fun hS75 => ?_)
        refine GH.offU (i := 16) (listed' := #[yy, yy, yy, yy, yy, yy, yy, yy, yy, yy, yy, yy, yy, yy, yy, yy, yy, nn, nn, nn, nn, nn, nn]) rfl (by kernel_rfl) rfl (NP.next (NP.block (NP.next (NP.next (NP.left (by simp) (NP.block (NP.next NP.body))))))) rfl rfl rfl rfl hS75 (fun hS76 => ?_)
        refine GH.offU (i := 17) (listed' := #[yy, yy, yy, yy, yy, yy, yy, yy, yy, yy, yy, yy, yy, yy, yy, yy, yy, yy, nn, nn, nn, nn, nn]) rfl (by kernel_rfl) rfl (NP.next (NP.block (NP.next (NP.next (NP.left (by simp) (NP.block (NP.next NP.body))))))) rfl rfl rfl rfl hS76 (fun hS77 => ?_)
        refine GH.offU (i := 18) (listed' := #[yy, yy, yy, yy, yy, yy, yy, yy, yy, yy, yy, yy, yy, yy, yy, yy, yy, yy, yy, nn, nn, nn, nn]) rfl (by kernel_rfl) rfl (NP.next (NP.block (NP.next (NP.next (NP.left (by simp) (NP.block (NP.next NP.body))))))) rfl rfl rfl rfl hS77 (fun hS78 => ?_)
        refine GH.offU (i := 19) (listed' := #[yy, yy, yy, yy, yy, yy, yy, yy, yy, yy, yy, yy, yy, yy, yy, yy, yy, yy, yy, yy, nn, nn, nn]) rfl (by kernel_rfl) rfl (NP.next (NP.block (NP.next (NP.next (NP.left (by simp) (NP.block (NP.next NP.body))))))) rfl rfl rfl rfl hS78 (fun hS79 => ?_)
        refine GH.offU (i := 20) (listed' := #[yy, yy, yy, yy, yy, yy, yy, yy, yy, yy, yy, yy, yy, yy, yy, yy, yy, yy, yy, yy, yy, nn, nn]) rfl (by kernel_rfl) rfl (NP.next (NP.block (NP.next (NP.next (NP.left (by simp) (NP.block (NP.next NP.body))))))) rfl rfl rfl rfl hS79 (fun hS80 => ?_)
        refine GH.off (i := 21) (listed' := #[yy, yy, yy, yy, yy, yy, yy, yy, yy, yy, yy, yy, yy, yy, yy, yy, yy, yy, yy, yy, yy, yy, nn]) rfl (by kernel_rfl) rfl (NP.next (NP.block (NP.next (NP.next (NP.left (by simp) (NP.block (NP.next NP.body))))))) rfl rfl rfl rfl (not_t hc25) hS80 (fun hS81 => ?_)
        refine GH.yl (i := 22) (listed' := #[yy, yy, yy, yy, yy, yy, yy, yy, yy, yy, yy, yy, yy, yy, yy, yy, yy, yy, yy, yy, yy, yy, yy]) rfl (by kernel_rfl) rfl (NP.next (NP.block (NP.next (NP.next (NP.left (by simp) (NP.block (NP.next NP.body))))))) rfl rfl rfl (fun w' => yl_pick_t rfl (not_t hc25) rfl) hS81 (fun hS82 => ?_)
        refine GH.done (by kernel_rfl) ?_
        refine QA.then_normal ?_
        refine C.cond_t rfl rfl ?_
        refine C.seq ?_
        refine C.region ?_
        refine G.yl (yl_assign rfl) rfl rfl rfl ?_
        refine G.nil ?_
        refine QA.then_normal ?_
        refine C.ret ?_
        refine QA.block_ret ?_
        refine QA.then_ret ?_
        refine QA.then_ret ?_
        refine QA.past (by simp) ?_
        refine QA.block_ret ?_
        refine QA.then_ret ?_
        refine QA.ret1 rfl rfl ?_
        obtain rfl := sp_ret1 hm
        obtain rfl : .inr false = o := hg6
        have hm : some false = some r1 := hm2
        obtain rfl := sp_ret1 hm
        exact ⟨rfl, (Sat.pick [] h18)⟩
    · refine C.cond_f rfl (dec_f hc7) ?_
      refine C.exit ?_
      refine QA.then_exit ?_
      refine QA.then_exit ?_
      obtain rfl := sp_ret1 hm
      exact QA.left () (Sub.of ⟨rfl, rfl, trivial⟩) ⟨hg6, (Sat.pick [] h4)⟩
  · rintro _ w83 ⟨rfl, h84⟩
    have hm := hm2
    show QA _ _ [(0, (.slice a l.length c)), (2, (.bool false))] _ _
    refine QA.block_here ?_
    refine QA.then_normal ?_
    refine C.seq ?_
    refine C.region ?_
    refine G.yl (yl_move rfl) rfl rfl rfl ?_
    refine G.yl (yl_lenE Try.underlying57 rfl) rfl rfl rfl ?_
    refine G.yl (yl_leI rfl rfl) rfl rfl rfl ?_
    refine G.yl (yl_assign rfl) rfl rfl rfl ?_
    refine G.nil ?_
    refine QA.then_normal ?_
    refine C.ret ?_
    refine QA.ret1 rfl rfl ?_
    obtain rfl := sp_ret1 hm
    exact ⟨rfl, (Sat.pick [] h84)⟩
set_option maxRecDepth 20000 in
set_option maxHeartbeats 1000000 in
theorem M_signpostref12_Read_pv_w {W : Base} {w : World} {b : Nat} {a : Option Addr} {c : Nat} {B : List UInt8} {At : Int} {Bad : Bool} (hv33 : V W a (elU8.row B)) (hq34 : B.length ≤ c) (h : Sat W w [blk b [(.slice a B.length c), (vI At), (.bool Bad)] 55]) {r3 : List G_api_Instance} {r4 : Int} {r5 : Bool} (hm : M_signpostref12_Read_pv B At Bad = some (r3, r4, r5)) :
    Calls Try.prog 23 #[(.pointer (some ⟨b, 0, none⟩))] w (Ret fun v w' => ∃ r1 : Option Addr, ∃ r2 : Nat, v = (.slice r1 r3.length r2) ∧ Sat W w' [ow el_G_api_Instance r1 r2 104 r3, blk b [(.slice a B.length c), (vI r4), (.bool r5)] 55]) := by
  unfold M_signpostref12_Read_pv at hm
  refine C.enter (N := 44) Try.func23 rfl Try.ntmps23 rfl ?_
  show C _ _ _ [(0, (.pointer (some ⟨b, 0, none⟩)))] _ _
  refine C.seq ?_
  refine C.region ?_
  refine G.yl (yl_assign rfl) rfl rfl rfl ?_
  refine G.nil ?_
  refine QA.then_normal ?_
  refine C.seq ?_
  refine C.region ?_
  refine G.yl (yl_move rfl) rfl rfl rfl ?_
  obtain ⟨⟨r1_2, r2_2, r3_2⟩, hy3, hm⟩ := sp_bind hm
  refine G.does (does_fn 1 rfl rfl rfl en62 (Sat.pick [0] h) (fun U hU hp hr hs => M_signpostref01_Reader_Num_pv_w (B := B) (At := At) (Bad := Bad) (width := 1) (hs.v hv33) hq34 hp hy3)) rfl rfl rfl ?_
  rintro _ w4 ⟨U7, hb8, rfl, h6⟩
  have h5 : Sat W w4 [blk b [(.slice a B.length c), (vI r2_2), (.bool r3_2)] 55] := hb8 h6
  obtain ⟨hc9, hm⟩ := sp_chk hm
  refine G.yl (yl_64I us84 Try.underlying3 rfl hc9) rfl rfl rfl ?_
  refine G.yl (yl_assign rfl) rfl rfl rfl ?_
  refine G.nil ?_
  refine QA.then_normal ?_
  refine C.seq ?_
  refine C.region ?_
  refine G.yl (yl_assign rfl) rfl rfl rfl ?_
  refine G.nil ?_
  refine QA.then_normal ?_
  refine C.seq ?_
  refine C.seq ?_
  refine C.region ?_
  refine G.yl (yl_assign rfl) rfl rfl rfl ?_
  refine G.nil ?_
  refine QA.then_normal ?_
  refine C.block ?_
  obtain ⟨o, ho10, hm11⟩ := sp_bind hm
  refine C.left (γ := Int × Bool × Option Addr × Nat × List G_api_Instance) (.exit 0) (fun g => match g with | (At_3, Bad_3, a_3, c_3, out_2) => [(0, (.pointer (some ⟨b, 0, none⟩))), (2, (.slice none 0 0)), (4, (.slice a_3 out_2.length c_3))]) (fun g ww => match g with | (At_3, Bad_3, a_3, c_3, out_2) => (At_3, Bad_3, out_2) = o ∧ Sat W ww [blk b [(.slice a B.length c), (vI At_3), (.bool Bad_3)] 55, ow el_G_api_Instance a_3 c_3 104 out_2]) ?_ ?_
  · refine C.loopO (γ := Int × Bool × Option Addr × Nat × List G_api_Instance × Int) (fun g => match g with | (At_2, Bad_2, a_2, c_2, out, i) => [(0, (.pointer (some ⟨b, 0, none⟩))), (2, (.slice none 0 0)), (3, (vI (r1_2.toNat : Int))), (4, (.slice a_2 out.length c_2)), (5, (vI i))]) (fun g ww => match g with | (At_2, Bad_2, a_2, c_2, out, i) => Sat W ww [blk b [(.slice a B.length c), (vI At_2), (.bool Bad_2)] 55, ow el_G_api_Instance a_2 c_2 104 out]) (fun g => match g with | (At_2, Bad_2, a_2, c_2, out, i) => (At_2, Bad_2, out, i)) (r2_2, r3_2, none, 0, ([] : List G_api_Instance), 0) ho10 (Sub.of ⟨rfl, rfl, rfl, rfl, rfl, trivial⟩) (Sat.pick [1, 0] (Sat.own_zero h5 el_G_api_Instance none 104)) ?_
    rintro ⟨At_2, Bad_2, a_2, c_2, out, i⟩ k14 w12 y_ h13 hm hg15
    show C _ _ _ [(0, (.pointer (some ⟨b, 0, none⟩))), (2, (.slice none 0 0)), (3, (vI (r1_2.toNat : Int))), (4, (.slice a_2 out.length c_2)), (5, (vI i))] _ _
    change M_signpostref12_Read_pv_b1 B r1_2 At_2 Bad_2 out i = some y_ at hm
    unfold M_signpostref12_Read_pv_b1 at hm
    refine C.seq ?_
    refine C.join (γ := Bool) (fun g => match g with | t20 => [(0, (.pointer (some ⟨b, 0, none⟩))), (2, (.slice none 0 0)), (3, (vI (r1_2.toNat : Int))), (4, (.slice a_2 out.length c_2)), (5, (vI i)), (20, (.bool t20))]) (fun g ww => match g with | t20 => (M_signpostref12_Read_pv_k2 At_2 B Bad_2 i out t20 = some y_) ∧ Sat W ww [blk b [(.slice a B.length c), (vI At_2), (.bool Bad_2)] 55, ow el_G_api_Instance a_2 c_2 104 out]) ?_ ?_
    · refine C.region ?_
      refine G.yl (yl_move rfl) rfl rfl rfl ?_
      refine G.yl (yl_move rfl) rfl rfl rfl ?_
      refine G.yl (yl_ltI rfl rfl) rfl rfl rfl ?_
      refine G.yl (yl_move rfl) rfl rfl rfl ?_
      rcases sp_ite hm with ⟨hc16, hm⟩ | ⟨hc16, hm⟩
      · refine G.on rfl rfl (dec_t hc16) ?_
        refine G.yl (yl_move rfl) rfl rfl rfl ?_
        refine G.on rfl rfl (dec_t hc16) ?_
        refine G.yl (yl_nilCheck rfl) rfl rfl rfl ?_
        refine G.on rfl rfl (dec_t hc16) ?_
        refine G.yl (yl_fieldAddr fo55_2 rfl) rfl rfl rfl ?_
        refine G.on rfl rfl (dec_t hc16) ?_
        refine G.yl (yl_load (v := (.bool Bad_2)) ag4 rfl (View.at0 (j := 2) h13.isBlk.view0 rfl)) rfl rfl rfl ?_
        refine G.on rfl rfl (dec_t hc16) ?_
        refine G.yl (yl_not rfl) rfl rfl rfl ?_
        refine G.yl (yl_pick_t rfl (dec_t hc16) rfl) rfl rfl rfl ?_
        refine G.nil ?_
        exact QA.join (!Bad_2) (Sub.of ⟨rfl, rfl, rfl, rfl, rfl, rfl, trivial⟩) ⟨hm, (Sat.pick [0, 0] h13)⟩
      · refine G.offU rfl rfl (dec_f hc16) rfl ?_
        refine G.offU rfl rfl (dec_f hc16) rfl ?_
        refine G.offU rfl rfl (dec_f hc16) rfl ?_
        refine G.offU rfl rfl (dec_f hc16) rfl ?_
        refine G.offU rfl rfl (dec_f hc16) rfl ?_
        refine G.yl (yl_pick_f rfl (dec_f hc16) rfl) rfl rfl rfl ?_
        refine G.nil ?_
        exact QA.join false (Sub.of ⟨rfl, rfl, rfl, rfl, rfl, rfl, trivial⟩) ⟨hm, (Sat.pick [0, 0] h13)⟩
    · rintro t20 w17 ⟨hm, h18⟩
      show C _ _ _ [(0, (.pointer (some ⟨b, 0, none⟩))), (2, (.slice none 0 0)), (3, (vI (r1_2.toNat : Int))), (4, (.slice a_2 out.length c_2)), (5, (vI i)), (20, (.bool t20))] _ _
      unfold M_signpostref12_Read_pv_k2 at hm
      rcases sp_b hm with ⟨hc19, hm⟩ | ⟨hc19, hm⟩
      · refine C.cond_t rfl hc19 ?_
        refine C.skip ?_
        refine QA.then_normal ?_
        refine C.seq ?_
        refine C.block ?_
        refine C.seq ?_
        refine C.region ?_
        refine G.yl (yl_move rfl) rfl rfl rfl ?_
        obtain ⟨⟨r1_3, r2_3, r3_3, r4_2⟩, hy22, hm⟩ := sp_bind hm
        refine G.does (does_fn 1 rfl rfl rfl en63 (Sat.pick [0, 0] h18) (fun U hU hp hr hs => M_signpostref11_Read_pv_w (B := B) (At := At_2) (Bad := Bad_2) (hs.v hv33) hq34 hp hy22)) rfl rfl rfl ?_
        rintro _ w23 ⟨U26, hb27, rfl, h25⟩
        have h24 : Sat W w23 [blk b [(.slice a B.length c), (vI r3_3), (.bool r4_2)] 55, ow el_G_api_Instance a_2 c_2 104 out] := hb27 h25
        refine G.yl (yl_move rfl) rfl rfl rfl ?_
        refine G.yl (yl_extract rfl rfl) rfl rfl rfl ?_
        refine G.yl (yl_extract rfl rfl) rfl rfl rfl ?_
        refine G.does (does_alloc (cs := (bytesV (List.ofFn (n := 20) (fun _ => 0)) ++ ([(.int .u64 0), (.int .u64 0), (.int .u32 0), (.bool false), (.int .u16 0), (.int .u16 0), (.int .u16 0), (.string (str ([] : List UInt8)))] : List Value))) h24 z104 rfl) rfl rfl rfl ?_
        rintro _ w29 ⟨b28, rfl, h30⟩
        refine G.unit (does_store (vs := (bytesV (List.ofFn (n := 20) r1_3.Publisher) ++ ([(v64 r1_3.Seq), (v64 r1_3.Born), (v32 r1_3.Life), (.bool r1_3.Gone), (v16 r1_3.Priority), (v16 r1_3.Weight), (v16 r1_3.Port), (.string (str r1_3.Target))] : List Value))) h30 sz104 rfl rfl rfl (by simp [bytesV_length]) (List.forall_mem_append.2 ⟨(bytesV_one _), (List.forall_mem_cons.2 ⟨rfl, (List.forall_mem_cons.2 ⟨rfl, (List.forall_mem_cons.2 ⟨rfl, (List.forall_mem_cons.2 ⟨rfl, (List.forall_mem_cons.2 ⟨rfl, (List.forall_mem_cons.2 ⟨rfl, (List.forall_mem_cons.2 ⟨rfl, (List.forall_mem_cons.2 ⟨rfl, (fun _ hh => by cases hh)⟩)⟩)⟩)⟩)⟩)⟩)⟩)⟩)⟩) (by simp [bytesV_length])) rfl rfl ?_
        rintro _ w31 h33
        have h32 : Sat W w31 [blk b28 (bytesV (List.ofFn (n := 20) r1_3.Publisher) ++ ([(v64 r1_3.Seq), (v64 r1_3.Born), (v32 r1_3.Life), (.bool r1_3.Gone), (v16 r1_3.Priority), (v16 r1_3.Weight), (v16 r1_3.Port), (.string (str r1_3.Target))] : List Value)) 104, blk b [(.slice a B.length c), (vI r3_3), (.bool r4_2)] 55, ow el_G_api_Instance a_2 c_2 104 out] := sl_blk (setN_all _ _ (by simp [bytesV_length])) h33
        refine G.yl (yl_assign rfl) rfl rfl rfl ?_
        refine G.nil ?_
        refine QA.then_normal ?_
        refine C.region ?_
        refine G.yl (yl_move rfl) rfl rfl rfl ?_
        refine G.yl (yl_loadN (vs := (bytesV (List.ofFn (n := 20) r1_3.Publisher) ++ ([(v64 r1_3.Seq), (v64 r1_3.Born), (v32 r1_3.Life), (.bool r1_3.Gone), (v16 r1_3.Priority), (v16 r1_3.Weight), (v16 r1_3.Port), (.string (str r1_3.Target))] : List Value))) ag104 sz104 (by simp [bytesV_length]) rfl (h32.isBlk.view0)) rfl rfl rfl ?_
        refine G.does (does_lit (E := el_G_api_Instance) (l := [r1_3]) (vs := [(.agg (bytesV (List.ofFn (n := 20) r1_3.Publisher) ++ ([(v64 r1_3.Seq), (v64 r1_3.Born), (v32 r1_3.Life), (.bool r1_3.Gone), (v16 r1_3.Priority), (v16 r1_3.Weight), (v16 r1_3.Port), (.string (str r1_3.Target))] : List Value)).toArray)]) (cs := (bytesV (List.ofFn (n := 20) r1_3.Publisher) ++ ([(v64 r1_3.Seq), (v64 r1_3.Born), (v32 r1_3.Life), (.bool r1_3.Gone), (v16 r1_3.Priority), (v16 r1_3.Weight), (v16 r1_3.Port), (.string (str r1_3.Target))] : List Value))) (e := 104) h32 rfl (by kernel_rfl) rfl rfl (by decide)) rfl rfl rfl ?_
        rintro _ w35 ⟨a34, rfl, h36⟩
        obtain ⟨hc37, hm⟩ := sp_chk hm
        refine G.does (does_app (E := el_G_api_Instance) (l := out) (l2 := [r1_3]) Try.underlying57 el104 (Sat.pick [3, 0, 0, 0] h36) rfl rfl rfl rfl (by decide) (Sat.own_view h36) hc37 (by decide)) rfl rfl rfl ?_
        rintro _ w40 ⟨a38, c39, rfl, h41⟩
        refine G.yl (yl_assign rfl) rfl rfl rfl ?_
        refine G.nil ?_
        refine QA.block_normal ?_
        refine QA.then_normal ?_
        refine C.region ?_
        refine G.yl (yl_move rfl) rfl rfl rfl ?_
        obtain ⟨hc42, hm⟩ := sp_chk hm
        refine G.yl (yl_addI rfl rfl hc42) rfl rfl rfl ?_
        refine G.yl (yl_assign rfl) rfl rfl rfl ?_
        refine G.nil ?_
        obtain rfl := sp_ret1 hm
        exact QA.againO (r3_3, r4_2, a38, c39, out ++ [r1_3], i + 1) hg15 (Sub.of ⟨rfl, rfl, rfl, rfl, rfl, trivial⟩) (Sat.pick [3, 0] h41)
      · refine C.cond_f rfl hc19 ?_
        refine C.exit ?_
        refine QA.then_exit ?_
        refine QA.then_exit ?_
        obtain rfl := sp_ret1 hm
        exact QA.left (At_2, Bad_2, a_2, c_2, out) (Sub.of ⟨rfl, rfl, rfl, trivial⟩) ⟨hg15, (Sat.pick [0, 0] h18)⟩
  · rintro ⟨At_3, Bad_3, a_3, c_3, out_2⟩ w43 ⟨rfl, h44⟩
    have hm := hm11
    show QA _ _ [(0, (.pointer (some ⟨b, 0, none⟩))), (2, (.slice none 0 0)), (4, (.slice a_3 out_2.length c_3))] _ _
    refine QA.block_here ?_
    refine QA.then_normal ?_
    refine C.seq ?_
    refine C.seq ?_
    refine C.region ?_
    refine G.yl (yl_move rfl) rfl rfl rfl ?_
    refine G.yl (yl_nilCheck rfl) rfl rfl rfl ?_
    refine G.yl (yl_fieldAddr fo55_2 rfl) rfl rfl rfl ?_
    refine G.yl (yl_load (v := (.bool Bad_3)) ag4 rfl (View.at0 (j := 2) h44.isBlk.view0 rfl)) rfl rfl rfl ?_
    refine G.yl (yl_move rfl) rfl rfl rfl ?_
    rcases sp_b hm with ⟨hc45, hm⟩ | ⟨hc45, hm⟩
    · refine G.offU rfl rfl hc45 rfl ?_
      refine G.offU rfl rfl hc45 rfl ?_
      refine G.offU rfl rfl hc45 rfl ?_
      refine G.yl (yl_pick_t rfl hc45 rfl) rfl rfl rfl ?_
      refine G.nil ?_
      refine QA.then_normal ?_
      refine C.cond_t rfl rfl ?_
      refine C.seq ?_
      refine C.region ?_
      refine G.yl (yl_move rfl) rfl rfl rfl ?_
      obtain ⟨⟨r3_4, r4_3, r5_2⟩, hy48, hm⟩ := sp_bind hm
      refine G.does (does_fn 1 rfl rfl rfl en65 (Sat.pick [0, 0] h44) (fun U hU hp hr hs => M_signpostref01_Reader_Take_pv_w (B := B) (At := At_3) (Bad := Bad_3) (n := (-1)) (hs.v hv33) hq34 hp hy48)) rfl rfl rfl ?_
      rintro _ w51 ⟨U54, hb55, r149, r250, rfl, h53⟩
      have h52 : Sat W w51 [ow elU8 r149 r250 5 r3_4, blk b [(.slice a B.length c), (vI r4_3), (.bool r5_2)] 55, ow el_G_api_Instance a_3 c_3 104 out_2] := hb55 h53
      refine G.nil ?_
      refine QA.then_normal ?_
      refine C.seq ?_
      refine C.region ?_
      refine G.yl (yl_assign rfl) rfl rfl rfl ?_
      refine G.nil ?_
      refine QA.then_normal ?_
      refine C.ret ?_
      refine QA.then_ret ?_
      refine QA.ret1 rfl rfl ?_
      obtain ⟨rfl, rfl, rfl⟩ := sp_ret3 hm
      exact ⟨none, 0, rfl, (Sat.pick [0, 1] (Sat.own_zero h52 el_G_api_Instance none 104))⟩
    · refine G.on rfl rfl hc45 ?_
      refine G.yl (yl_move rfl) rfl rfl rfl ?_
      refine G.on rfl rfl hc45 ?_
      obtain ⟨r1_4, hy56, hm⟩ := sp_bind hm
      refine G.does (does_fn 0 rfl rfl rfl en64 h44 (fun U hU hp hr hs => M_signpostref12_Good_v_w (l := out_2) (Rest.view (Rest.front 1 hr)) (Sat.own_cap (Sat.pick [1] h44)).1 hp hy56)) rfl rfl rfl ?_
      rintro _ w57 ⟨U60, hb61, rfl, h59⟩
      have h58 : Sat W w57 [blk b [(.slice a B.length c), (vI At_3), (.bool Bad_3)] 55, ow el_G_api_Instance a_3 c_3 104 out_2] := hb61 h59
      refine G.on rfl rfl hc45 ?_
      refine G.yl (yl_not rfl) rfl rfl rfl ?_
      refine G.yl (yl_pick_f rfl hc45 rfl) rfl rfl rfl ?_
      refine G.nil ?_
      refine QA.then_normal ?_
      rcases sp_b hm with ⟨hc62, hm⟩ | ⟨hc62, hm⟩
      · refine C.cond_f rfl (not_f hc62) ?_
        refine C.skip ?_
        refine QA.then_normal ?_
        refine C.seq ?_
        refine C.region ?_
        refine G.yl (yl_move rfl) rfl rfl rfl ?_
        refine G.yl (yl_assign rfl) rfl rfl rfl ?_
        refine G.nil ?_
        refine QA.then_normal ?_
        refine C.ret ?_
        refine QA.ret1 rfl rfl ?_
        obtain ⟨rfl, rfl, rfl⟩ := sp_ret3 hm
        exact ⟨a_3, c_3, rfl, (Sat.pick [1, 0] h58)⟩
      · refine C.cond_t rfl (not_t hc62) ?_
        refine C.seq ?_
        refine C.region ?_
        refine G.yl (yl_move rfl) rfl rfl rfl ?_
        obtain ⟨⟨r3_5, r4_4, r5_3⟩, hy65, hm⟩ := sp_bind hm
        refine G.does (does_fn 1 rfl rfl rfl en65 (Sat.pick [0, 0] h58) (fun U hU hp hr hs => M_signpostref01_Reader_Take_pv_w (B := B) (At := At_3) (Bad := Bad_3) (n := (-1)) (hs.v hv33) hq34 hp hy65)) rfl rfl rfl ?_
        rintro _ w68 ⟨U71, hb72, r166, r267, rfl, h70⟩
        have h69 : Sat W w68 [ow elU8 r166 r267 5 r3_5, blk b [(.slice a B.length c), (vI r4_4), (.bool r5_3)] 55, ow el_G_api_Instance a_3 c_3 104 out_2] := hb72 h70
        refine G.nil ?_
        refine QA.then_normal ?_
        refine C.seq ?_
        refine C.region ?_
        refine G.yl (yl_assign rfl) rfl rfl rfl ?_
        refine G.nil ?_
        refine QA.then_normal ?_
        refine C.ret ?_
        refine QA.then_ret ?_
        refine QA.ret1 rfl rfl ?_
        obtain ⟨rfl, rfl, rfl⟩ := sp_ret3 hm
        exact ⟨none, 0, rfl, (Sat.pick [0, 1] (Sat.own_zero h69 el_G_api_Instance none 104))⟩
set_option maxRecDepth 20000 in
set_option maxHeartbeats 1000000 in
theorem M_signpostref12_Same_vv_w {W : Base} {w : World} {a : Option Addr} {c : Nat} {a2 : List G_api_Instance} {a3 : Option Addr} {c2 : Nat} {b : List G_api_Instance} (hv_a2 : V W a (el_G_api_Instance.row a2)) (hq_a2 : a2.length ≤ c) (hv_b : V W a3 (el_G_api_Instance.row b)) (hq_b : b.length ≤ c2) (h : Sat W w []) {r1 : Bool} (hm : M_signpostref12_Same_vv a2 b = some r1) :
    Calls Try.prog 21 #[(.slice a a2.length c), (.slice a3 b.length c2)] w (Ret fun v w' => v = (.bool r1) ∧ Sat W w' []) := by
  unfold M_signpostref12_Same_vv at hm
  refine C.enter (N := 26) Try.func21 rfl Try.ntmps21 rfl ?_
  show C _ _ _ [(0, (.slice a a2.length c)), (1, (.slice a3 b.length c2))] _ _
  refine C.seq ?_
  refine C.region ?_
  refine G.yl (yl_assign rfl) rfl rfl rfl ?_
  refine G.nil ?_
  refine QA.then_normal ?_
  refine C.seq ?_
  refine C.seq ?_
  refine C.region ?_
  refine G.yl (yl_move rfl) rfl rfl rfl ?_
  refine G.yl (yl_lenE Try.underlying57 rfl) rfl rfl rfl ?_
  refine G.yl (yl_move rfl) rfl rfl rfl ?_
  refine G.yl (yl_lenE Try.underlying57 rfl) rfl rfl rfl ?_
  refine G.yl (yl_neI rfl rfl) rfl rfl rfl ?_
  refine G.nil ?_
  refine QA.then_normal ?_
  rcases sp_ite hm with ⟨hc1, hm⟩ | ⟨hc1, hm⟩
  · refine C.cond_f rfl (not_f (dec_t hc1)) ?_
    refine C.skip ?_
    refine QA.then_normal ?_
    refine C.seq ?_
    refine C.seq ?_
    refine C.region ?_
    refine G.yl (yl_assign rfl) rfl rfl rfl ?_
    refine G.nil ?_
    refine QA.then_normal ?_
    refine C.block ?_
    obtain ⟨o, ho2, hm3⟩ := sp_bind hm
    refine C.left (γ := Unit) (.exit 0) (fun g => match g with | () => [(4, (.bool false))]) (fun g ww => match g with | () => .inl () = o ∧ Sat W ww []) ?_ ?_
    · refine C.loopO (γ := Int) (fun g => match g with | i => [(0, (.slice a a2.length c)), (1, (.slice a3 b.length c2)), (4, (.bool false)), (5, (vI i))]) (fun g ww => match g with | i => Sat W ww []) (fun g => match g with | i => i) 0 ho2 (Sub.of ⟨rfl, rfl, rfl, rfl, trivial⟩) (Sat.pick [] h) ?_
      rintro i k6 w4 y_ h5 hm hg7
      show C _ _ _ [(0, (.slice a a2.length c)), (1, (.slice a3 b.length c2)), (4, (.bool false)), (5, (vI i))] _ _
      change M_signpostref12_Same_vv_b1 a2 b i = some y_ at hm
      unfold M_signpostref12_Same_vv_b1 at hm
      refine C.seq ?_
      refine C.seq ?_
      refine C.region ?_
      refine G.yl (yl_move rfl) rfl rfl rfl ?_
      refine G.yl (yl_move rfl) rfl rfl rfl ?_
      refine G.yl (yl_lenE Try.underlying57 rfl) rfl rfl rfl ?_
      refine G.yl (yl_ltI rfl rfl) rfl rfl rfl ?_
      refine G.nil ?_
      refine QA.then_normal ?_
      rcases sp_ite hm with ⟨hc8, hm⟩ | ⟨hc8, hm⟩
      · refine C.cond_t rfl (dec_t hc8) ?_
        refine C.skip ?_
        refine QA.then_normal ?_
        refine C.seq ?_
        refine C.block ?_
        refine C.seq ?_
        refine C.draw (V := fun w' => View w' a (el_G_api_Instance.row a2) ∧ View w' a3 (el_G_api_Instance.row b)) (nd := [3, 7]) (sp := []) (n := 9) rfl h5 rfl rfl ?_
        intro w9 h10
        have hS11 : Cls (fun w' => View w' a (el_G_api_Instance.row a2) ∧ View w' a3 (el_G_api_Instance.row b)) [3, 7] [] #[false, false, false, false, false, false, false, false, false] w9 := Cls.keep (⟨(hv_a2.at_ h10), (hv_b.at_ h10)⟩) (by kernel_rfl)
        refine GH.yl (i := 0) (listed' := #[true, false, false, false, false, false, false, false, false]) rfl (by kernel_rfl) rfl (NP.next (NP.block (NP.next (NP.next (NP.left (by simp) (NP.block (NP.next NP.body))))))) rfl rfl rfl (fun w' => yl_move rfl) hS11 (fun hS12 => ?_)
        refine GH.yl (i := 1) (listed' := #[true, true, false, false, false, false, false, false, false]) rfl (by kernel_rfl) rfl (NP.next (NP.block (NP.next (NP.next (NP.left (by simp) (NP.block (NP.next NP.body))))))) rfl rfl rfl (fun w' => yl_move rfl) hS12 (fun hS13 => ?_)
        obtain ⟨x, hy14, hm⟩ := sp_bind hm
        refine GH.yl (i := 2) (listed' := #[true, true, true, false, false, false, false, false, false]) rfl (by kernel_rfl) rfl (NP.next (NP.block (NP.next (NP.next (NP.left (by simp) (NP.block (NP.next NP.body))))))) rfl rfl rfl (fun w' => yl_ixP (l := a2) sl57 rfl rfl (View.isA (E := el_G_api_Instance) (hv_a2.at_ h10) (by decide) (at?_lt hy14)) rfl (at?_lt hy14)) hS13 (fun hS15 => ?_)
        refine GH.yr (i := 3) (listed' := #[true, true, true, true, false, false, false, false, false]) rfl (by kernel_rfl) rfl rfl (NP.next (NP.block (NP.next (NP.next (NP.left (by simp) (NP.block (NP.next NP.body))))))) rfl rfl rfl (fun w' hw' => yl_ldE (E := el_G_api_Instance) ag104 sz104 rfl (hw'.1) (at?_some hy14).2) hS15 (fun hS16 => ?_)
        refine GH.yl (i := 4) (listed' := #[true, true, true, true, true, false, false, false, false]) rfl (by kernel_rfl) rfl (NP.next (NP.block (NP.next (NP.next (NP.left (by simp) (NP.block (NP.next NP.body))))))) rfl rfl rfl (fun w' => yl_move rfl) hS16 (fun hS17 => ?_)
        refine GH.yl (i := 5) (listed' := #[true, true, true, true, true, true, false, false, false]) rfl (by kernel_rfl) rfl (NP.next (NP.block (NP.next (NP.next (NP.left (by simp) (NP.block (NP.next NP.body))))))) rfl rfl rfl (fun w' => yl_move rfl) hS17 (fun hS18 => ?_)
        obtain ⟨x_2, hy19, hm⟩ := sp_bind hm
        refine GH.yl (i := 6) (listed' := #[true, true, true, true, true, true, true, false, false]) rfl (by kernel_rfl) rfl (NP.next (NP.block (NP.next (NP.next (NP.left (by simp) (NP.block (NP.next NP.body))))))) rfl rfl rfl (fun w' => yl_ixP (l := b) sl57 rfl rfl (View.isA (E := el_G_api_Instance) (hv_b.at_ h10) (by decide) (at?_lt hy19)) rfl (at?_lt hy19)) hS18 (fun hS20 => ?_)
        refine GH.yr (i := 7) (listed' := #[true, true, true, true, true, true, true, true, false]) rfl (by kernel_rfl) rfl rfl (NP.next (NP.block (NP.next (NP.next (NP.left (by simp) (NP.block (NP.next NP.body))))))) rfl rfl rfl (fun w' hw' => yl_ldE (E := el_G_api_Instance) ag104 sz104 rfl (hw'.2) (at?_some hy19).2) hS20 (fun hS21 => ?_)
        obtain ⟨hc22, hm⟩ := sp_chk hm
        obtain ⟨hc23, hm⟩ := sp_chk hm
        refine GH.yl (i := 8) (listed' := #[true, true, true, true, true, true, true, true, true]) rfl (by kernel_rfl) rfl (NP.next (NP.block (NP.next (NP.next (NP.left (by simp) (NP.block (NP.next NP.body))))))) rfl rfl rfl (fun w' => yl_ne_agg (r := decide (x = x_2)) (vs := (el_G_api_Instance.f x)) (us := (el_G_api_Instance.f x_2)) rfl rfl (by rw [decide_eq_true_eq]; exact G_api_Instance_inj) eqT104.1 eqT104.2.1 eqT104.2.2.1 eqT104.2.2.2.1 eqT104.2.2.2.2 (G_api_Instance_fits x hc22) (G_api_Instance_fits x_2 hc23)) hS21 (fun hS24 => ?_)
        refine GH.done (by kernel_rfl) ?_
        refine QA.then_normal ?_
        rcases sp_ite hm with ⟨hc25, hm⟩ | ⟨hc25, hm⟩
        · refine C.cond_f rfl (not_f (dec_t hc25)) ?_
          refine C.skip ?_
          refine QA.block_normal ?_
          refine QA.then_normal ?_
          refine C.region ?_
          refine G.yl (yl_move rfl) rfl rfl rfl ?_
          obtain ⟨hc26, hm⟩ := sp_chk hm
          refine G.yl (yl_addI rfl rfl hc26) rfl rfl rfl ?_
          refine G.yl (yl_assign rfl) rfl rfl rfl ?_
          refine G.nil ?_
          obtain rfl := sp_ret1 hm
          exact QA.againO (i + 1) hg7 (Sub.of ⟨rfl, rfl, rfl, rfl, trivial⟩) (Sat.pick [] h10)
        · refine C.cond_t rfl (not_t (dec_f hc25)) ?_
          refine C.seq ?_
          refine C.region ?_
          refine G.yl (yl_assign rfl) rfl rfl rfl ?_
          refine G.nil ?_
          refine QA.then_normal ?_
          refine C.ret ?_
          refine QA.block_ret ?_
          refine QA.then_ret ?_
          refine QA.then_ret ?_
          refine QA.past (by simp) ?_
          refine QA.block_ret ?_
          refine QA.then_ret ?_
          refine QA.ret1 rfl rfl ?_
          obtain rfl := sp_ret1 hm
          obtain rfl : .inr false = o := hg7
          have hm : some false = some r1 := hm3
          obtain rfl := sp_ret1 hm
          exact ⟨rfl, (Sat.pick [] h10)⟩
      · refine C.cond_f rfl (dec_f hc8) ?_
        refine C.exit ?_
        refine QA.then_exit ?_
        refine QA.then_exit ?_
        obtain rfl := sp_ret1 hm
        exact QA.left () (Sub.of ⟨rfl, trivial⟩) ⟨hg7, (Sat.pick [] h5)⟩
    · rintro _ w27 ⟨rfl, h28⟩
      have hm := hm3
      show QA _ _ [(4, (.bool false))] _ _
      refine QA.block_here ?_
      refine QA.then_normal ?_
      refine C.seq ?_
      refine C.region ?_
      refine G.yl (yl_assign rfl) rfl rfl rfl ?_
      refine G.nil ?_
      refine QA.then_normal ?_
      refine C.ret ?_
      refine QA.ret1 rfl rfl ?_
      obtain rfl := sp_ret1 hm
      exact ⟨rfl, (Sat.pick [] h28)⟩
  · refine C.cond_t rfl (not_t (dec_f hc1)) ?_
    refine C.seq ?_
    refine C.region ?_
    refine G.yl (yl_assign rfl) rfl rfl rfl ?_
    refine G.nil ?_
    refine QA.then_normal ?_
    refine C.ret ?_
    refine QA.then_ret ?_
    refine QA.ret1 rfl rfl ?_
    obtain rfl := sp_ret1 hm
    exact ⟨rfl, (Sat.pick [] h)⟩
set_option maxRecDepth 20000 in
set_option maxHeartbeats 1000000 in
theorem M_octet_rest_left_po_w {W : Base} {w : World} {b : Nat} {a : Option Addr} {c : Nat} {b2 : List UInt8} {open_ : Bool} {bad : Bool}  (h : Sat W w [blk b [(.slice a b2.length c), (.bool open_), (.bool bad)] 111, ow elU8 a c 5 b2])  (hm : M_octet_rest_left_po b2 open_ bad = some ()) :
    Calls Try.prog 67 #[(.pointer (some ⟨b, 0, none⟩))] w (Ret fun v w' => v = (vI (b2.length : Int)) ∧ Sat W w' [blk b [(.slice a b2.length c), (.bool open_), (.bool bad)] 111, ow elU8 a c 5 b2]) := by
  unfold M_octet_rest_left_po at hm
  refine C.enter (N := 8) Try.func67 rfl Try.ntmps67 rfl ?_
  show C _ _ _ [(0, (.pointer (some ⟨b, 0, none⟩)))] _ _
  refine C.seq ?_
  refine C.region ?_
  refine G.yl (yl_assign rfl) rfl rfl rfl ?_
  refine G.nil ?_
  refine QA.then_normal ?_
  refine C.seq ?_
  refine C.region ?_
  refine G.yl (yl_move rfl) rfl rfl rfl ?_
  refine G.yl (yl_nilCheck rfl) rfl rfl rfl ?_
  refine G.yl (yl_fieldAddr fo109_0 rfl) rfl rfl rfl ?_
  refine G.yl (yl_load (v := (.slice a b2.length c)) ag22 rfl (View.at0 (j := 0) h.isBlk.view0 rfl)) rfl rfl rfl ?_
  refine G.yl (yl_lenE Try.underlying22 rfl) rfl rfl rfl ?_
  refine G.yl (yl_assign rfl) rfl rfl rfl ?_
  refine G.nil ?_
  refine QA.then_normal ?_
  refine C.ret ?_
  refine QA.ret1 rfl rfl ?_
  exact ⟨rfl, (Sat.pick [0, 0] h)⟩
set_option maxRecDepth 20000 in
set_option maxHeartbeats 1000000 in
theorem M_octet_Reader_Left_po_w {W : Base} {w : World} {b : Nat} {a : Option Addr} {c : Nat} {b2 : List UInt8} {open_ : Bool} {bad : Bool}  (h : Sat W w [blk b [(.slice a b2.length c), (.bool open_), (.bool bad)] 111, ow elU8 a c 5 b2]) {r1 : Int} (hm : M_octet_Reader_Left_po b2 open_ bad = some r1) :
    Calls Try.prog 24 #[(.pointer (some ⟨b, 0, none⟩))] w (Ret fun v w' => v = (vI r1) ∧ Sat W w' [blk b [(.slice a b2.length c), (.bool open_), (.bool bad)] 111, ow elU8 a c 5 b2]) := by
  unfold M_octet_Reader_Left_po at hm
  refine C.enter (N := 9) Try.func24 rfl Try.ntmps24 rfl ?_
  show C _ _ _ [(0, (.pointer (some ⟨b, 0, none⟩)))] _ _
  refine C.seq ?_
  refine C.region ?_
  refine G.yl (yl_assign rfl) rfl rfl rfl ?_
  refine G.nil ?_
  refine QA.then_normal ?_
  refine C.seq ?_
  refine C.seq ?_
  refine C.region ?_
  refine G.yl (yl_move rfl) rfl rfl rfl ?_
  obtain ⟨_, hy1, hm⟩ := sp_bind hm
  refine G.does (does_fn 2 rfl rfl rfl en66 (Sat.pick [0, 0] h) (fun U hU hp hr hs => M_octet_Reader_none_po_w (b2 := b2) (open_ := open_) (bad := bad) hp hy1)) rfl rfl rfl ?_
  rintro _ w2 ⟨U5, hb6, rfl, h4⟩
  have h3 : Sat W w2 [blk b [(.slice a b2.length c), (.bool open_), (.bool bad)] 111, ow elU8 a c 5 b2] := hb6 h4
  refine G.nil ?_
  refine QA.then_normal ?_
  rcases sp_b hm with ⟨hc7, hm⟩ | ⟨hc7, hm⟩
  · refine C.cond_f rfl (not_f hc7) ?_
    refine C.skip ?_
    refine QA.then_normal ?_
    refine C.seq ?_
    refine C.region ?_
    refine G.yl (yl_move rfl) rfl rfl rfl ?_
    refine G.yl (yl_nilCheck rfl) rfl rfl rfl ?_
    refine G.yl (yl_fieldAddr fo111_0 rfl) rfl rfl rfl ?_
    obtain ⟨_, hy8, hm⟩ := sp_bind hm
    refine G.does (does_fn 2 rfl rfl rfl en67 (Sat.pick [0, 0] h3) (fun U hU hp hr hs => M_octet_rest_left_po_w (b2 := b2) (open_ := open_) (bad := bad) hp hy8)) rfl rfl rfl ?_
    rintro _ w9 ⟨U12, hb13, rfl, h11⟩
    have h10 : Sat W w9 [blk b [(.slice a b2.length c), (.bool open_), (.bool bad)] 111, ow elU8 a c 5 b2] := hb13 h11
    refine G.yl (yl_assign rfl) rfl rfl rfl ?_
    refine G.nil ?_
    refine QA.then_normal ?_
    refine C.ret ?_
    refine QA.ret1 rfl rfl ?_
    obtain rfl := sp_ret1 hm
    exact ⟨rfl, (Sat.pick [0, 0] h10)⟩
  · refine C.cond_t rfl (not_t hc7) ?_
    refine C.seq ?_
    refine C.region ?_
    refine G.yl (yl_assign rfl) rfl rfl rfl ?_
    refine G.nil ?_
    refine QA.then_normal ?_
    refine C.ret ?_
    refine QA.then_ret ?_
    refine QA.ret1 rfl rfl ?_
    obtain rfl := sp_ret1 hm
    exact ⟨rfl, (Sat.pick [0, 0] h3)⟩
set_option maxRecDepth 20000 in
set_option maxHeartbeats 1000000 in
theorem M_signpostref01_Reader_Left_pv_w {W : Base} {w : World} {b : Nat} {a : Option Addr} {c : Nat} {B : List UInt8} {At : Int} {Bad : Bool} (hv62 : V W a (elU8.row B)) (hq63 : B.length ≤ c) (h : Sat W w [blk b [(.slice a B.length c), (vI At), (.bool Bad)] 55])  (hm : M_signpostref01_Reader_Left_pv B At Bad = some ()) :
    Calls Try.prog 25 #[(.pointer (some ⟨b, 0, none⟩))] w (Ret fun v w' => v = (vI ((B.length : Int) - At)) ∧ Sat W w' [blk b [(.slice a B.length c), (vI At), (.bool Bad)] 55]) := by
  unfold M_signpostref01_Reader_Left_pv at hm
  refine C.enter (N := 13) Try.func25 rfl Try.ntmps25 rfl ?_
  show C _ _ _ [(0, (.pointer (some ⟨b, 0, none⟩)))] _ _
  refine C.seq ?_
  refine C.region ?_
  refine G.yl (yl_assign rfl) rfl rfl rfl ?_
  refine G.nil ?_
  refine QA.then_normal ?_
  refine C.seq ?_
  refine C.draw (V := fun w' => View w' (some ⟨b, 0, none⟩) [(.slice a B.length c), (vI At), (.bool Bad)]) (nd := [3, 8]) (sp := []) (n := 11) rfl h rfl rfl ?_
  intro w1 h2
  have hS3 : Cls (fun w' => View w' (some ⟨b, 0, none⟩) [(.slice a B.length c), (vI At), (.bool Bad)]) [3, 8] [] #[false, false, false, false, false, false, false, false, false, false, false] w1 := Cls.keep (h2.isBlk.view0) (by kernel_rfl)
  refine GH.yl (i := 0) (listed' := #[true, false, false, false, false, false, false, false, false, false, false]) rfl (by kernel_rfl) rfl (NP.next NP.body) rfl rfl rfl (fun w' => yl_move rfl) hS3 (fun hS4 => ?_)
  refine GH.yl (i := 1) (listed' := #[true, true, false, false, false, false, false, false, false, false, false]) rfl (by kernel_rfl) rfl (NP.next NP.body) rfl rfl rfl (fun w' => yl_nilCheck rfl) hS4 (fun hS5 => ?_)
  refine GH.yl (i := 2) (listed' := #[true, true, true, false, false, false, false, false, false, false, false]) rfl (by kernel_rfl) rfl (NP.next NP.body) rfl rfl rfl (fun w' => yl_fieldAddr fo55_0 rfl) hS5 (fun hS6 => ?_)
  refine GH.yr (i := 3) (listed' := #[true, true, true, true, false, false, false, false, false, false, false]) rfl (by kernel_rfl) rfl rfl (NP.next NP.body) rfl rfl rfl (fun w' hw' => yl_load (v := (.slice a B.length c)) ag22 rfl (View.at0 (j := 0) hw' rfl)) hS6 (fun hS7 => ?_)
  refine GH.yl (i := 4) (listed' := #[true, true, true, true, true, false, false, false, false, false, false]) rfl (by kernel_rfl) rfl (NP.next NP.body) rfl rfl rfl (fun w' => yl_lenE Try.underlying22 rfl) hS7 (fun hS8 => ?_)
  refine GH.yl (i := 5) (listed' := #[true, true, true, true, true, true, false, false, false, false, false]) rfl (by kernel_rfl) rfl (NP.next NP.body) rfl rfl rfl (fun w' => yl_move rfl) hS8 (fun hS9 => ?_)
  refine GH.yl (i := 6) (listed' := #[true, true, true, true, true, true, true, false, false, false, false]) rfl (by kernel_rfl) rfl (NP.next NP.body) rfl rfl rfl (fun w' => yl_nilCheck rfl) hS9 (fun hS10 => ?_)
  refine GH.yl (i := 7) (listed' := #[true, true, true, true, true, true, true, true, false, false, false]) rfl (by kernel_rfl) rfl (NP.next NP.body) rfl rfl rfl (fun w' => yl_fieldAddr fo55_1 rfl) hS10 (fun hS11 => ?_)
  refine GH.yr (i := 8) (listed' := #[true, true, true, true, true, true, true, true, true, false, false]) rfl (by kernel_rfl) rfl rfl (NP.next NP.body) rfl rfl rfl (fun w' hw' => yl_load (v := (vI At)) ag3 rfl (View.at0 (j := 1) hw' rfl)) hS11 (fun hS12 => ?_)
  obtain ⟨hc13, hm⟩ := sp_chk hm
  refine GH.yl (i := 9) (listed' := #[true, true, true, true, true, true, true, true, true, true, false]) rfl (by kernel_rfl) rfl (NP.next NP.body) rfl rfl rfl (fun w' => yl_subI rfl rfl hc13) hS12 (fun hS14 => ?_)
  refine GH.yl (i := 10) (listed' := #[true, true, true, true, true, true, true, true, true, true, true]) rfl (by kernel_rfl) rfl (NP.next NP.body) rfl rfl rfl (fun w' => yl_assign rfl) hS14 (fun hS15 => ?_)
  refine GH.done (by kernel_rfl) ?_
  refine QA.then_normal ?_
  refine C.ret ?_
  refine QA.ret1 rfl rfl ?_
  exact ⟨rfl, (Sat.pick [0] h2)⟩
set_option maxRecDepth 20000 in
set_option maxHeartbeats 1000000 in
theorem M_octet_Reader_none_z_w {W : Base} {w : World}   (h : Sat W w [])  (hm : M_octet_Reader_none_z = some ()) :
    Calls Try.prog 66 #[(.pointer none)] w (Ret fun v w' => v = (.bool true) ∧ Sat W w' []) := by
  unfold M_octet_Reader_none_z at hm
  refine C.enter (N := 13) Try.func66 rfl Try.ntmps66 rfl ?_
  show C _ _ _ [(0, (.pointer none))] _ _
  refine C.seq ?_
  refine C.region ?_
  refine G.yl (yl_assign rfl) rfl rfl rfl ?_
  refine G.nil ?_
  refine QA.then_normal ?_
  refine C.seq ?_
  refine C.region ?_
  refine G.yl (yl_move rfl) rfl rfl rfl ?_
  refine G.yl (yl_eq_nil np51 rfl rfl) rfl rfl rfl ?_
  refine G.yl (yl_move rfl) rfl rfl rfl ?_
  refine G.offU rfl rfl rfl rfl ?_
  refine G.offU rfl rfl rfl rfl ?_
  refine G.offU rfl rfl rfl rfl ?_
  refine G.offU rfl rfl rfl rfl ?_
  refine G.offU rfl rfl rfl rfl ?_
  refine G.offU rfl rfl rfl rfl ?_
  refine G.yl (yl_pick_t rfl rfl rfl) rfl rfl rfl ?_
  refine G.yl (yl_assign rfl) rfl rfl rfl ?_
  refine G.nil ?_
  refine QA.then_normal ?_
  refine C.ret ?_
  refine QA.ret1 rfl rfl ?_
  exact ⟨rfl, (Sat.pick [] h)⟩
set_option maxRecDepth 20000 in
set_option maxHeartbeats 1000000 in
theorem M_octet_Reader_Num_z_w {W : Base} {w : World} {width : Int}  (h : Sat W w [])  (hm : M_octet_Reader_Num_z width = some ()) :
    Calls Try.prog 52 #[(.pointer none), (vI width)] w (Ret fun v w' => v = (.int .u64 0) ∧ Sat W w' []) := by
  unfold M_octet_Reader_Num_z at hm
  refine C.enter (N := 35) Try.func52 rfl Try.ntmps52 rfl ?_
  show C _ _ _ [(0, (.pointer none)), (1, (vI width))] _ _
  refine C.seq ?_
  refine C.region ?_
  refine G.yl (yl_assign rfl) rfl rfl rfl ?_
  refine G.nil ?_
  refine QA.then_normal ?_
  refine C.seq ?_
  refine C.seq ?_
  refine C.region ?_
  refine G.yl (yl_move rfl) rfl rfl rfl ?_
  obtain ⟨_, hy1, hm⟩ := sp_bind hm
  refine G.does (does_fn 0 rfl rfl rfl en66 h (fun U hU hp hr hs => M_octet_Reader_none_z_w hp hy1)) rfl rfl rfl ?_
  rintro _ w2 ⟨U5, hb6, rfl, h4⟩
  have h3 : Sat W w2 [] := hb6 h4
  refine G.nil ?_
  refine QA.then_normal ?_
  refine C.cond_t rfl rfl ?_
  refine C.seq ?_
  refine C.region ?_
  refine G.yl (yl_assign rfl) rfl rfl rfl ?_
  refine G.nil ?_
  refine QA.then_normal ?_
  refine C.ret ?_
  refine QA.then_ret ?_
  refine QA.ret1 rfl rfl ?_
  exact ⟨rfl, (Sat.pick [] h3)⟩
set_option maxRecDepth 20000 in
set_option maxHeartbeats 1000000 in
theorem M_octet_Reader_Take_z_w {W : Base} {w : World} {n : Int}  (h : Sat W w [])  (hm : M_octet_Reader_Take_z n = some ()) :
    Calls Try.prog 61 #[(.pointer none), (vI n)] w (Ret fun v w' => v = (.slice none 0 0) ∧ Sat W w' []) := by
  unfold M_octet_Reader_Take_z at hm
  refine C.enter (N := 22) Try.func61 rfl Try.ntmps61 rfl ?_
  show C _ _ _ [(0, (.pointer none)), (1, (vI n))] _ _
  refine C.seq ?_
  refine C.region ?_
  refine G.yl (yl_assign rfl) rfl rfl rfl ?_
  refine G.nil ?_
  refine QA.then_normal ?_
  refine C.seq ?_
  refine C.seq ?_
  refine C.region ?_
  refine G.yl (yl_move rfl) rfl rfl rfl ?_
  obtain ⟨_, hy1, hm⟩ := sp_bind hm
  refine G.does (does_fn 0 rfl rfl rfl en66 h (fun U hU hp hr hs => M_octet_Reader_none_z_w hp hy1)) rfl rfl rfl ?_
  rintro _ w2 ⟨U5, hb6, rfl, h4⟩
  have h3 : Sat W w2 [] := hb6 h4
  refine G.nil ?_
  refine QA.then_normal ?_
  refine C.cond_t rfl rfl ?_
  refine C.seq ?_
  refine C.region ?_
  refine G.yl (yl_assign rfl) rfl rfl rfl ?_
  refine G.nil ?_
  refine QA.then_normal ?_
  refine C.ret ?_
  refine QA.then_ret ?_
  refine QA.ret1 rfl rfl ?_
  exact ⟨rfl, (Sat.pick [] h3)⟩
set_option maxRecDepth 20000 in
set_option maxHeartbeats 1000000 in
theorem M_roster_Read_z_w {W : Base} {w : World}   (h : Sat W w [])  (hm : M_roster_Read_z = some ()) :
    Calls Try.prog 22 #[(.pointer none)] w (Ret fun v w' => v = (.slice none 0 0) ∧ Sat W w' []) := by
  unfold M_roster_Read_z at hm
  refine C.enter (N := 27) Try.func22 rfl Try.ntmps22 rfl ?_
  show C _ _ _ [(0, (.pointer none))] _ _
  refine C.seq ?_
  refine C.region ?_
  refine G.yl (yl_assign rfl) rfl rfl rfl ?_
  refine G.nil ?_
  refine QA.then_normal ?_
  refine C.seq ?_
  refine C.seq ?_
  refine C.region ?_
  refine G.yl (yl_move rfl) rfl rfl rfl ?_
  obtain ⟨_, hy1, hm⟩ := sp_bind hm
  refine G.does (does_fn 0 rfl rfl rfl en52 h (fun U hU hp hr hs => M_octet_Reader_Num_z_w (width := 1) hp hy1)) rfl rfl rfl ?_
  rintro _ w2 ⟨U5, hb6, rfl, h4⟩
  have h3 : Sat W w2 [] := hb6 h4
  refine G.yl (yl_move rfl) rfl rfl rfl ?_
  refine G.nil ?_
  refine QA.then_normal ?_
  refine C.block ?_
  obtain ⟨o, ho7, hm8⟩ := sp_bind hm
  refine C.left (γ := Unit) (.exit 0) (fun g => match g with | () => [(0, (.pointer none)), (2, (.slice none 0 0))]) (fun g ww => match g with | () => () = o ∧ Sat W ww []) ?_ ?_
  · refine C.loopO (γ := Unit) (fun g => match g with | () => [(0, (.pointer none)), (2, (.slice none 0 0)), (6, (.int .u64 0)), (7, (.int .u64 0))]) (fun g ww => match g with | () => Sat W ww []) (fun g => match g with | () => ()) () ho7 (Sub.of ⟨rfl, rfl, rfl, rfl, trivial⟩) (Sat.pick [] h3) ?_
    rintro _ k11 w9 y_ h10 hm hg12
    show C _ _ _ [(0, (.pointer none)), (2, (.slice none 0 0)), (6, (.int .u64 0)), (7, (.int .u64 0))] _ _
    change M_roster_Read_z_b1 = some y_ at hm
    unfold M_roster_Read_z_b1 at hm
    refine C.seq ?_
    refine C.region ?_
    refine G.yl (yl_lt64 (a := 0) (b := 0) rfl rfl) rfl rfl rfl ?_
    refine G.nil ?_
    refine QA.then_normal ?_
    refine C.seq ?_
    refine C.cond_f rfl (by decide) ?_
    refine C.exit ?_
    refine QA.then_exit ?_
    refine QA.then_exit ?_
    obtain rfl := sp_ret1 hm
    exact QA.left () (Sub.of ⟨rfl, rfl, trivial⟩) ⟨hg12, (Sat.pick [] h10)⟩
  · rintro _ w13 ⟨rfl, h14⟩
    have hm := hm8
    show QA _ _ [(0, (.pointer none)), (2, (.slice none 0 0))] _ _
    refine QA.block_here ?_
    refine QA.then_normal ?_
    refine C.seq ?_
    refine C.seq ?_
    refine C.region ?_
    refine G.yl (yl_move rfl) rfl rfl rfl ?_
    obtain ⟨r1_2, hy15, hm⟩ := sp_bind hm
    refine G.does (does_fn 0 rfl rfl rfl en59 h14 (fun U hU hp hr hs => M_roster_Good_v_w (l := ([] : List G_api_Instance)) (V.nil _ _) (Nat.zero_le _) hp hy15)) rfl rfl rfl ?_
    rintro _ w16 ⟨U19, hb20, rfl, h18⟩
    have h17 : Sat W w16 [] := hb20 h18
    refine G.yl (yl_not rfl) rfl rfl rfl ?_
    refine G.nil ?_
    refine QA.then_normal ?_
    rcases sp_b hm with ⟨hc21, hm⟩ | ⟨hc21, hm⟩
    · refine C.cond_f rfl (not_f hc21) ?_
      refine C.skip ?_
      refine QA.then_normal ?_
      refine C.seq ?_
      refine C.region ?_
      refine G.yl (yl_move rfl) rfl rfl rfl ?_
      refine G.yl (yl_assign rfl) rfl rfl rfl ?_
      refine G.nil ?_
      refine QA.then_normal ?_
      refine C.ret ?_
      refine QA.ret1 rfl rfl ?_
      exact ⟨rfl, (Sat.pick [] h17)⟩
    · refine C.cond_t rfl (not_t hc21) ?_
      refine C.seq ?_
      refine C.region ?_
      refine G.yl (yl_move rfl) rfl rfl rfl ?_
      obtain ⟨_, hy22, hm⟩ := sp_bind hm
      refine G.does (does_fn 0 rfl rfl rfl en61 h17 (fun U hU hp hr hs => M_octet_Reader_Take_z_w (n := (-1)) hp hy22)) rfl rfl rfl ?_
      rintro _ w23 ⟨U26, hb27, rfl, h25⟩
      have h24 : Sat W w23 [] := hb27 h25
      refine G.nil ?_
      refine QA.then_normal ?_
      refine C.seq ?_
      refine C.region ?_
      refine G.yl (yl_assign rfl) rfl rfl rfl ?_
      refine G.nil ?_
      refine QA.then_normal ?_
      refine C.ret ?_
      refine QA.then_ret ?_
      refine QA.ret1 rfl rfl ?_
      exact ⟨rfl, (Sat.pick [] h24)⟩
set_option maxRecDepth 20000 in
set_option maxHeartbeats 1000000 in
theorem M_signpostlaw12_RosterReads_v_w {W : Base} {w : World} {a : Option Addr} {c : Nat} {b : List UInt8} (hv_b : V W a (elU8.row b)) (hq_b : b.length ≤ c) (h : Sat W w []) {r1 : Bool} (hm : M_signpostlaw12_RosterReads_v b = some r1) :
    Calls Try.prog 6 #[(.slice a b.length c)] w (Ret fun v w' => v = (.bool r1) ∧ Sat W w' []) := by
  unfold M_signpostlaw12_RosterReads_v at hm
  refine C.enter (N := 45) Try.func6 rfl Try.ntmps6 rfl ?_
  show C _ _ _ [(0, (.slice a b.length c))] _ _
  refine C.seq ?_
  refine C.region ?_
  refine G.yl (yl_assign rfl) rfl rfl rfl ?_
  refine G.nil ?_
  refine QA.then_normal ?_
  refine C.seq ?_
  refine C.seq ?_
  refine C.region ?_
  refine G.yl (yl_move rfl) rfl rfl rfl ?_
  refine G.yl (yl_lenE Try.underlying22 rfl) rfl rfl rfl ?_
  refine G.yl (yl_gtI rfl rfl) rfl rfl rfl ?_
  refine G.nil ?_
  refine QA.then_normal ?_
  rcases sp_ite hm with ⟨hc1, hm⟩ | ⟨hc1, hm⟩
  · refine C.cond_t rfl (dec_t hc1) ?_
    refine C.seq ?_
    refine C.region ?_
    obtain ⟨r1_2, hy2, hm⟩ := sp_bind hm
    refine G.does (does_fn 0 rfl rfl rfl en19 h (fun U hU hp hr hs => M_signpostlaw12_lives_w hp hy2)) rfl rfl rfl ?_
    rintro _ w3 ⟨U6, hb7, rfl, h5⟩
    have h4 : Sat W w3 [] := hb7 h5
    refine G.yl (yl_assign rfl) rfl rfl rfl ?_
    refine G.nil ?_
    refine QA.then_normal ?_
    refine C.ret ?_
    refine QA.then_ret ?_
    refine QA.ret1 rfl rfl ?_
    obtain rfl := sp_ret1 hm
    exact ⟨rfl, (Sat.pick [] h4)⟩
  · refine C.cond_f rfl (dec_f hc1) ?_
    refine C.skip ?_
    refine QA.then_normal ?_
    refine C.seq ?_
    refine C.region ?_
    refine G.yl (yl_move rfl) rfl rfl rfl ?_
    obtain ⟨_, hy8, hm⟩ := sp_bind hm
    refine G.does (does_fn 0 rfl rfl rfl en20 h (fun U hU hp hr hs => M_octet_Open_v_w (b := b) (hs.v hv_b) hq_b hp hy8)) rfl rfl rfl ?_
    rintro _ w12 ⟨U15, hb16, r19, r210, r311, rfl, h14⟩
    have h13 : Sat W w12 [blk r19 [(.slice r210 ((([] : List UInt8) ++ b).length) r311), (.bool true), (.bool false)] 111, ow elU8 r210 r311 5 (([] : List UInt8) ++ b)] := hb16 h14
    refine G.yl (yl_move rfl) rfl rfl rfl ?_
    refine G.yl (yl_build (vs := [(.slice a b.length c)]) (cells := #[(.slice a b.length c), (vI 0), (.bool false)]) rfl (by kernel_rfl)) rfl rfl rfl ?_
    refine G.does (does_box (cs := [(.slice a b.length c), (vI 0), (.bool false)]) h13 rfl rfl) rfl rfl rfl ?_
    rintro _ w18 ⟨b17, rfl, h19⟩
    refine G.yl (yl_assign rfl) rfl rfl rfl ?_
    refine G.yl (yl_assign rfl) rfl rfl rfl ?_
    refine G.nil ?_
    refine QA.then_normal ?_
    refine C.seq ?_
    refine C.seq ?_
    refine C.region ?_
    refine G.yl (yl_move rfl) rfl rfl rfl ?_
    refine G.yl (yl_eq_nil np51 rfl rfl) rfl rfl rfl ?_
    refine G.nil ?_
    refine QA.then_normal ?_
    refine C.cond_f rfl rfl ?_
    refine C.skip ?_
    refine QA.then_normal ?_
    refine C.seq ?_
    refine C.draw (V := fun w' => True) (nd := [6, 8, 10, 13, 15, 16, 17, 18, 19, 23, 24]) (sp := []) (n := 30) rfl h19 rfl rfl ?_
    intro w20 h21
    have hS22 : Cls (fun w' => True) [6, 8, 10, 13, 15, 16, 17, 18, 19, 23, 24] [] #[nn, nn, nn, nn, nn, nn, nn, nn, nn, nn, nn, nn, nn, nn, nn, nn, nn, nn, nn, nn, nn, nn, nn, nn, nn, nn, nn, nn, nn, nn] w20 := Cls.keep (trivial) (by kernel_rfl)
    refine GH.yl (i := 0) (listed' := #[yy, nn, nn, nn, nn, nn, nn, nn, nn, nn, nn, nn, nn, nn, nn, nn, nn, nn, nn, nn, nn, nn, nn, nn, nn, nn, nn, nn, nn, nn]) rfl (by kernel_rfl) rfl (NP.next NP.body) rfl rfl rfl (fun w' => yl_move rfl) hS22 (fun hS23 => ?_)
    refine GH.yl (i := 2) (listed' := #[yy, nn, yy, nn, nn, nn, nn, nn, nn, nn, nn, nn, nn, nn, nn, nn, nn, nn, nn, nn, nn, nn, nn, nn, nn, nn, nn, nn, nn, nn]) rfl (by kernel_rfl) rfl (NP.next NP.body) rfl rfl rfl (fun w' => yl_move rfl) hS23 (fun hS24 => ?_)
    obtain ⟨⟨r3_2, r6_2, r7_2⟩, hy25, hm⟩ := sp_bind hm
    refine GH.does (i := 1) (listed' := #[yy, yy, yy, nn, nn, nn, nn, nn, nn, nn, nn, nn, nn, nn, nn, nn, nn, nn, nn, nn, nn, nn, nn, nn, nn, nn, nn, nn, nn, nn]) rfl (by kernel_rfl) rfl rfl rfl rfl (does_fn 2 rfl rfl rfl en22 (Sat.pick [1, 1, 0] h21) (fun U hU hp hr hs => M_roster_Read_po_w (b2 := ([] : List UInt8) ++ b) (open_ := true) (bad := false) hp hy25)) ?_
    rintro _ w30 ⟨U33, hb34, r126, r227, r428, r529, rfl, h32⟩
    have h31 : Sat W w30 [ow el_G_api_Instance r126 r227 104 r3_2, blk r19 [(.slice r428 r6_2.length r529), (.bool true), (.bool r7_2)] 111, ow elU8 r428 r529 5 r6_2, blk b17 [(.slice a b.length c), (vI 0), (.bool false)] 55] := hb34 h32
    have hS35 : Cls (fun w' => True) [6, 8, 10, 13, 15, 16, 17, 18, 19, 23, 24] [] #[yy, yy, yy, nn, nn, nn, nn, nn, nn, nn, nn, nn, nn, nn, nn, nn, nn, nn, nn, nn, nn, nn, nn, nn, nn, nn, nn, nn, nn, nn] w30 := Cls.keep (trivial) (by kernel_rfl)
    refine ⟨hS35, ?_⟩
    obtain ⟨⟨r3_3, r4_2, r5_2⟩, hy38, hm⟩ := sp_bind hm
    refine GH.does (i := 3) (listed' := #[yy, yy, yy, yy, nn, nn, nn, nn, nn, nn, nn, nn, nn, nn, nn, nn, nn, nn, nn, nn, nn, nn, nn, nn, nn, nn, nn, nn, nn, nn]) rfl (by kernel_rfl) rfl rfl rfl rfl (does_fn 1 rfl rfl rfl en23 (Sat.pick [3, 0, 0, 0] h31) (fun U hU hp hr hs => M_signpostref12_Read_pv_w (B := b) (At := 0) (Bad := false) (hs.v hv_b) hq_b hp hy38)) ?_
    rintro _ w41 ⟨U44, hb45, r139, r240, rfl, h43⟩
    have h42 : Sat W w41 [ow el_G_api_Instance r139 r240 104 r3_3, blk b17 [(.slice a b.length c), (vI r4_2), (.bool r5_2)] 55, ow el_G_api_Instance r126 r227 104 r3_2, blk r19 [(.slice r428 r6_2.length r529), (.bool true), (.bool r7_2)] 111, ow elU8 r428 r529 5 r6_2] := hb45 h43
    have hS46 : Cls (fun w' => True) [6, 8, 10, 13, 15, 16, 17, 18, 19, 23, 24] [] #[yy, yy, yy, yy, nn, nn, nn, nn, nn, nn, nn, nn, nn, nn, nn, nn, nn, nn, nn, nn, nn, nn, nn, nn, nn, nn, nn, nn, nn, nn] w41 := Cls.keep (trivial) (by kernel_rfl)
    refine ⟨hS46, ?_⟩
    refine GH.more (V' := fun w' => View w' (some ⟨b17, 0, none⟩) [(.slice a b.length c), (vI r4_2), (.bool r5_2)]) (fun w' hh' => trivial) ?_
    have hS47 : Cls (fun w' => View w' (some ⟨b17, 0, none⟩) [(.slice a b.length c), (vI r4_2), (.bool r5_2)]) [6, 8, 10, 13, 15, 16, 17, 18, 19, 23, 24] [] #[yy, yy, yy, yy, nn, nn, nn, nn, nn, nn, nn, nn, nn, nn, nn, nn, nn, nn, nn, nn, nn, nn, nn, nn, nn, nn, nn, nn, nn, nn] w41 := Cls.keep (((Sat.pick [1] h42).isBlk.view0)) (by kernel_rfl)
    obtain ⟨r1_3, hy48, hm⟩ := sp_bind hm
    refine GH.does (i := 4) (listed' := #[yy, yy, yy, yy, yy, nn, nn, nn, nn, nn, nn, nn, nn, nn, nn, nn, nn, nn, nn, nn, nn, nn, nn, nn, nn, nn, nn, nn, nn, nn]) rfl (by kernel_rfl) rfl rfl rfl rfl (does_fn 0 rfl rfl rfl en21 h42 (fun U hU hp hr hs => M_signpostref12_Same_vv_w (a2 := r3_2) (b := r3_3) (Rest.view (Rest.front 2 hr)) (Sat.own_cap (Sat.pick [2] h42)).1 (Rest.view hr) (Sat.own_cap h42).1 hp hy48)) ?_
    rintro _ w49 ⟨U52, hb53, rfl, h51⟩
    have h50 : Sat W w49 [ow el_G_api_Instance r139 r240 104 r3_3, blk b17 [(.slice a b.length c), (vI r4_2), (.bool r5_2)] 55, ow el_G_api_Instance r126 r227 104 r3_2, blk r19 [(.slice r428 r6_2.length r529), (.bool true), (.bool r7_2)] 111, ow elU8 r428 r529 5 r6_2] := hb53 h51
    have hS54 : Cls (fun w' => View w' (some ⟨b17, 0, none⟩) [(.slice a b.length c), (vI r4_2), (.bool r5_2)]) [6, 8, 10, 13, 15, 16, 17, 18, 19, 23, 24] [] #[yy, yy, yy, yy, yy, nn, nn, nn, nn, nn, nn, nn, nn, nn, nn, nn, nn, nn, nn, nn, nn, nn, nn, nn, nn, nn, nn, nn, nn, nn] w49 := Cls.keep (((Sat.pick [1] h50).isBlk.view0)) (by kernel_rfl)
    refine ⟨hS54, ?_⟩
    refine GH.yl (i := 5) (listed' := #[yy, yy, yy, yy, yy, yy, nn, nn, nn, nn, nn, nn, nn, nn, nn, nn, nn, nn, nn, nn, nn, nn, nn, nn, nn, nn, nn, nn, nn, nn]) rfl (by kernel_rfl) rfl (NP.next NP.body) rfl rfl rfl (fun w' => yl_move rfl) hS54 (fun hS55 => ?_)
    rcases sp_b hm with ⟨hc56, hm⟩ | ⟨hc56, hm⟩
    · refine GH.on (i := 6) (listed' := #[yy, yy, yy, yy, yy, yy, yy, nn, nn, nn, nn, nn, nn, nn, nn, nn, nn, nn, nn, nn, nn, nn, nn, nn, nn, nn, nn, nn, nn, nn]) rfl (by kernel_rfl) rfl rfl (NP.next NP.body) rfl rfl rfl rfl hc56 (fun w' hw' => yl_move rfl) hS55 (fun hS57 => ?_)
      refine GH.on (i := 8) (listed' := #[yy, yy, yy, yy, yy, yy, yy, nn, yy, nn, nn, nn, nn, nn, nn, nn, nn, nn, nn, nn, nn, nn, nn, nn, nn, nn, nn, nn, nn, nn]) rfl (by kernel_rfl) rfl rfl (NP.next NP.body) rfl rfl rfl rfl hc56 (fun w' hw' => yl_move rfl) hS57 (fun hS58 => ?_)
      obtain ⟨r1_4, hy59, hm⟩ := sp_bind hm
      refine GH.doesOn (i := 7) (listed' := #[yy, yy, yy, yy, yy, yy, yy, yy, yy, nn, nn, nn, nn, nn, nn, nn, nn, nn, nn, nn, nn, nn, nn, nn, nn, nn, nn, nn, nn, nn]) rfl (by kernel_rfl) rfl rfl rfl hc56 rfl rfl (does_fn 2 rfl rfl rfl en24 (Sat.pick [3, 3, 0, 0, 0] h50) (fun U hU hp hr hs => M_octet_Reader_Left_po_w (b2 := r6_2) (open_ := true) (bad := r7_2) hp hy59)) ?_
      rintro _ w60 ⟨U63, hb64, rfl, h62⟩
      have h61 : Sat W w60 [blk r19 [(.slice r428 r6_2.length r529), (.bool true), (.bool r7_2)] 111, ow elU8 r428 r529 5 r6_2, ow el_G_api_Instance r139 r240 104 r3_3, blk b17 [(.slice a b.length c), (vI r4_2), (.bool r5_2)] 55, ow el_G_api_Instance r126 r227 104 r3_2] := hb64 h62
      have hS65 : Cls (fun w' => View w' (some ⟨b17, 0, none⟩) [(.slice a b.length c), (vI r4_2), (.bool r5_2)]) [6, 8, 10, 13, 15, 16, 17, 18, 19, 23, 24] [] #[yy, yy, yy, yy, yy, yy, yy, yy, yy, nn, nn, nn, nn, nn, nn, nn, nn, nn, nn, nn, nn, nn, nn, nn, nn, nn, nn, nn, nn, nn] w60 := Cls.keep (((Sat.pick [3] h61).isBlk.view0)) (by kernel_rfl)
      refine ⟨hS65, ?_⟩
      obtain ⟨_, hy68, hm⟩ := sp_bind hm
      refine GH.doesOn (i := 9) (listed' := #[yy, yy, yy, yy, yy, yy, yy, yy, yy, yy, nn, nn, nn, nn, nn, nn, nn, nn, nn, nn, nn, nn, nn, nn, nn, nn, nn, nn, nn, nn]) rfl (by kernel_rfl) rfl rfl rfl hc56 rfl rfl (does_fn 1 rfl rfl rfl en25 (Sat.pick [3, 0, 0, 0, 0] h61) (fun U hU hp hr hs => M_signpostref01_Reader_Left_pv_w (B := b) (At := r4_2) (Bad := r5_2) (hs.v hv_b) hq_b hp hy68)) ?_
      rintro _ w69 ⟨U72, hb73, rfl, h71⟩
      have h70 : Sat W w69 [blk b17 [(.slice a b.length c), (vI r4_2), (.bool r5_2)] 55, blk r19 [(.slice r428 r6_2.length r529), (.bool true), (.bool r7_2)] 111, ow elU8 r428 r529 5 r6_2, ow el_G_api_Instance r139 r240 104 r3_3, ow el_G_api_Instance r126 r227 104 r3_2] := hb73 h71
      have hS74 : Cls (fun w' => View w' (some ⟨b17, 0, none⟩) [(.slice a b.length c), (vI r4_2), (.bool r5_2)]) [6, 8, 10, 13, 15, 16, 17, 18, 19, 23, 24] [] #[yy, yy, yy, yy, yy, yy, yy, yy, yy, yy, nn, nn, nn, nn, nn, nn, nn, nn, nn, nn, nn, nn, nn, nn, nn, nn, nn, nn, nn, nn] w69 := Cls.keep (h70.isBlk.view0) (by kernel_rfl)
      refine ⟨hS74, ?_⟩
      refine GH.on (i := 10) (listed' := #[yy, yy, yy, yy, yy, yy, yy, yy, yy, yy, yy, nn, nn, nn, nn, nn, nn, nn, nn, nn, nn, nn, nn, nn, nn, nn, nn, nn, nn, nn]) rfl (by kernel_rfl) rfl rfl (NP.next NP.body) rfl rfl rfl rfl hc56 (fun w' hw' => yl_eqI rfl rfl) hS74 (fun hS75 => ?_)
      refine GH.yl (i := 11) (listed' := #[yy, yy, yy, yy, yy, yy, yy, yy, yy, yy, yy, yy, nn, nn, nn, nn, nn, nn, nn, nn, nn, nn, nn, nn, nn, nn, nn, nn, nn, nn]) rfl (by kernel_rfl) rfl (NP.next NP.body) rfl rfl rfl (fun w' => yl_pick_t rfl hc56 rfl) hS75 (fun hS76 => ?_)
      refine GH.yl (i := 12) (listed' := #[yy, yy, yy, yy, yy, yy, yy, yy, yy, yy, yy, yy, yy, nn, nn, nn, nn, nn, nn, nn, nn, nn, nn, nn, nn, nn, nn, nn, nn, nn]) rfl (by kernel_rfl) rfl (NP.next NP.body) rfl rfl rfl (fun w' => yl_move rfl) hS76 (fun hS77 => ?_)
      rcases sp_ite hm with ⟨hc78, hm⟩ | ⟨hc78, hm⟩
      · refine GH.on (i := 13) (listed' := #[yy, yy, yy, yy, yy, yy, yy, yy, yy, yy, yy, yy, yy, yy, nn, nn, nn, nn, nn, nn, nn, nn, nn, nn, nn, nn, nn, nn, nn, nn]) rfl (by kernel_rfl) rfl rfl (NP.next NP.body) rfl rfl rfl rfl (dec_t hc78) (fun w' hw' => yl_move rfl) hS77 (fun hS79 => ?_)
        refine GH.on (i := 15) (listed' := #[yy, yy, yy, yy, yy, yy, yy, yy, yy, yy, yy, yy, yy, yy, nn, yy, nn, nn, nn, nn, nn, nn, nn, nn, nn, nn, nn, nn, nn, nn]) rfl (by kernel_rfl) rfl rfl (NP.next NP.body) rfl rfl rfl rfl (dec_t hc78) (fun w' hw' => yl_move rfl) hS79 (fun hS80 => ?_)
        refine GH.on (i := 16) (listed' := #[yy, yy, yy, yy, yy, yy, yy, yy, yy, yy, yy, yy, yy, yy, nn, yy, yy, nn, nn, nn, nn, nn, nn, nn, nn, nn, nn, nn, nn, nn]) rfl (by kernel_rfl) rfl rfl (NP.next NP.body) rfl rfl rfl rfl (dec_t hc78) (fun w' hw' => yl_nilCheck rfl) hS80 (fun hS81 => ?_)
        refine GH.on (i := 17) (listed' := #[yy, yy, yy, yy, yy, yy, yy, yy, yy, yy, yy, yy, yy, yy, nn, yy, yy, yy, nn, nn, nn, nn, nn, nn, nn, nn, nn, nn, nn, nn]) rfl (by kernel_rfl) rfl rfl (NP.next NP.body) rfl rfl rfl rfl (dec_t hc78) (fun w' hw' => yl_fieldAddr fo55_2 rfl) hS81 (fun hS82 => ?_)
        refine GH.on (i := 18) (listed' := #[yy, yy, yy, yy, yy, yy, yy, yy, yy, yy, yy, yy, yy, yy, nn, yy, yy, yy, yy, nn, nn, nn, nn, nn, nn, nn, nn, nn, nn, nn]) rfl (by kernel_rfl) rfl rfl (NP.next NP.body) rfl rfl rfl rfl (dec_t hc78) (fun w' hw' => yl_load (v := (.bool r5_2)) ag4 rfl (View.at0 (j := 2) hw' rfl)) hS82 (fun hS83 => ?_)
        obtain ⟨r1_5, hy84, hm⟩ := sp_bind hm
        refine GH.doesOn (i := 14) (listed' := #[yy, yy, yy, yy, yy, yy, yy, yy, yy, yy, yy, yy, yy, yy, yy, yy, yy, yy, yy, nn, nn, nn, nn, nn, nn, nn, nn, nn, nn, nn]) rfl (by kernel_rfl) rfl rfl rfl (dec_t hc78) rfl rfl (does_fn 2 rfl rfl rfl en26 (Sat.pick [1, 1, 0, 0, 0] h70) (fun U hU hp hr hs => M_octet_Reader_Bad_po_w (b2 := r6_2) (open_ := true) (bad := r7_2) hp hy84)) ?_
        rintro _ w85 ⟨U88, hb89, rfl, h87⟩
        have h86 : Sat W w85 [blk r19 [(.slice r428 r6_2.length r529), (.bool true), (.bool r7_2)] 111, ow elU8 r428 r529 5 r6_2, blk b17 [(.slice a b.length c), (vI r4_2), (.bool r5_2)] 55, ow el_G_api_Instance r139 r240 104 r3_3, ow el_G_api_Instance r126 r227 104 r3_2] := hb89 h87
        have hS90 : Cls (fun w' => View w' (some ⟨b17, 0, none⟩) [(.slice a b.length c), (vI r4_2), (.bool r5_2)]) [6, 8, 10, 13, 15, 16, 17, 18, 19, 23, 24] [] #[yy, yy, yy, yy, yy, yy, yy, yy, yy, yy, yy, yy, yy, yy, yy, yy, yy, yy, yy, nn, nn, nn, nn, nn, nn, nn, nn, nn, nn, nn] w85 := Cls.keep (((Sat.pick [2] h86).isBlk.view0)) (by kernel_rfl)
        refine ⟨hS90, ?_⟩
        refine GH.on (i := 19) (listed' := #[yy, yy, yy, yy, yy, yy, yy, yy, yy, yy, yy, yy, yy, yy, yy, yy, yy, yy, yy, yy, nn, nn, nn, nn, nn, nn, nn, nn, nn, nn]) rfl (by kernel_rfl) rfl rfl (NP.next NP.body) rfl rfl rfl rfl (dec_t hc78) (fun w' hw' => yl_eqB Try.underlying4 rfl rfl) hS90 (fun hS91 => ?_)
        refine GH.yl (i := 20) (listed' := #[yy, yy, yy, yy, yy, yy, yy, yy, yy, yy, yy, yy, yy, yy, yy, yy, yy, yy, yy, yy, yy, nn, nn, nn, nn, nn, nn, nn, nn, nn]) rfl (by kernel_rfl) rfl (NP.next NP.body) rfl rfl rfl (fun w' => yl_pick_t rfl (dec_t hc78) rfl) hS91 (fun hS92 => ?_)
        refine GH.yl (i := 21) (listed' := #[yy, yy, yy, yy, yy, yy, yy, yy, yy, yy, yy, yy, yy, yy, yy, yy, yy, yy, yy, yy, yy, yy, nn, nn, nn, nn, nn, nn, nn, nn]) rfl (by kernel_rfl) rfl (NP.next NP.body) rfl rfl rfl (fun w' => yl_move rfl) hS92 (fun hS93 => ?_)
        rcases sp_ite hm with ⟨hc94, hm⟩ | ⟨hc94, hm⟩
        · obtain ⟨_, hy95, hm⟩ := sp_bind hm
          refine GH.doesOn (i := 22) (listed' := #[yy, yy, yy, yy, yy, yy, yy, yy, yy, yy, yy, yy, yy, yy, yy, yy, yy, yy, yy, yy, yy, yy, yy, nn, nn, nn, nn, nn, nn, nn]) rfl (by kernel_rfl) rfl rfl rfl (dec_t hc94) rfl rfl (does_fn 0 rfl rfl rfl en22 h86 (fun U hU hp hr hs => M_roster_Read_z_w hp hy95)) ?_
          rintro _ w96 ⟨U99, hb100, rfl, h98⟩
          have h97 : Sat W w96 [blk r19 [(.slice r428 r6_2.length r529), (.bool true), (.bool r7_2)] 111, ow elU8 r428 r529 5 r6_2, blk b17 [(.slice a b.length c), (vI r4_2), (.bool r5_2)] 55, ow el_G_api_Instance r139 r240 104 r3_3, ow el_G_api_Instance r126 r227 104 r3_2] := hb100 h98
          have hS101 : Cls (fun w' => View w' (some ⟨b17, 0, none⟩) [(.slice a b.length c), (vI r4_2), (.bool r5_2)]) [6, 8, 10, 13, 15, 16, 17, 18, 19, 23, 24] [] #[yy, yy, yy, yy, yy, yy, yy, yy, yy, yy, yy, yy, yy, yy, yy, yy, yy, yy, yy, yy, yy, yy, yy, nn, nn, nn, nn, nn, nn, nn] w96 := Cls.keep (((Sat.pick [2] h97).isBlk.view0)) (by kernel_rfl)
          refine ⟨hS101, ?_⟩
          refine GH.on (i := 23) (listed' := #[yy, yy, yy, yy, yy, yy, yy, yy, yy, yy, yy, yy, yy, yy, yy, yy, yy, yy, yy, yy, yy, yy, yy, yy, nn, nn, nn, nn, nn, nn]) rfl (by kernel_rfl) rfl rfl (NP.next NP.body) rfl rfl rfl rfl (dec_t hc94) (fun w' hw' => yl_lenE Try.underlying57 rfl) hS101 (fun hS102 => ?_)
          refine GH.on (i := 24) (listed' := #[yy, yy, yy, yy, yy, yy, yy, yy, yy, yy, yy, yy, yy, yy, yy, yy, yy, yy, yy, yy, yy, yy, yy, yy, yy, nn, nn, nn, nn, nn]) rfl (by kernel_rfl) rfl rfl (NP.next NP.body) rfl rfl rfl rfl (dec_t hc94) (fun w' hw' => yl_eqI rfl rfl) hS102 (fun hS103 => ?_)
          refine GH.yl (i := 25) (listed' := #[yy, yy, yy, yy, yy, yy, yy, yy, yy, yy, yy, yy, yy, yy, yy, yy, yy, yy, yy, yy, yy, yy, yy, yy, yy, yy, nn, nn, nn, nn]) rfl (by kernel_rfl) rfl (NP.next NP.body) rfl rfl rfl (fun w' => yl_pick_t rfl (dec_t hc94) rfl) hS103 (fun hS104 => ?_)
          refine GH.yl (i := 26) (listed' := #[yy, yy, yy, yy, yy, yy, yy, yy, yy, yy, yy, yy, yy, yy, yy, yy, yy, yy, yy, yy, yy, yy, yy, yy, yy, yy, yy, nn, nn, nn]) rfl (by kernel_rfl) rfl (NP.next NP.body) rfl rfl rfl (fun w' => yl_move rfl) hS104 (fun hS105 => ?_)
          obtain ⟨r1_6, hy106, hm⟩ := sp_bind hm
          refine GH.doesOn (i := 27) (listed' := #[yy, yy, yy, yy, yy, yy, yy, yy, yy, yy, yy, yy, yy, yy, yy, yy, yy, yy, yy, yy, yy, yy, yy, yy, yy, yy, yy, yy, nn, nn]) rfl (by kernel_rfl) rfl rfl rfl (by decide) rfl rfl (does_fn 0 rfl rfl rfl en19 h97 (fun U hU hp hr hs => M_signpostlaw12_lives_w hp hy106)) ?_
          rintro _ w107 ⟨U110, hb111, rfl, h109⟩
          have h108 : Sat W w107 [blk r19 [(.slice r428 r6_2.length r529), (.bool true), (.bool r7_2)] 111, ow elU8 r428 r529 5 r6_2, blk b17 [(.slice a b.length c), (vI r4_2), (.bool r5_2)] 55, ow el_G_api_Instance r139 r240 104 r3_3, ow el_G_api_Instance r126 r227 104 r3_2] := hb111 h109
          have hS112 : Cls (fun w' => View w' (some ⟨b17, 0, none⟩) [(.slice a b.length c), (vI r4_2), (.bool r5_2)]) [6, 8, 10, 13, 15, 16, 17, 18, 19, 23, 24] [] #[yy, yy, yy, yy, yy, yy, yy, yy, yy, yy, yy, yy, yy, yy, yy, yy, yy, yy, yy, yy, yy, yy, yy, yy, yy, yy, yy, yy, nn, nn] w107 := Cls.keep (((Sat.pick [2] h108).isBlk.view0)) (by kernel_rfl)
          refine ⟨hS112, ?_⟩
          refine GH.yl (i := 28) (listed' := #[yy, yy, yy, yy, yy, yy, yy, yy, yy, yy, yy, yy, yy, yy, yy, yy, yy, yy, yy, yy, yy, yy, yy, yy, yy, yy, yy, yy, yy, nn]) rfl (by kernel_rfl) rfl (NP.next NP.body) rfl rfl rfl (fun w' => yl_pick_t rfl (by decide) rfl) hS112 (fun hS113 => ?_)
          refine GH.yl (i := 29) (listed' := #[yy, yy, yy, yy, yy, yy, yy, yy, yy, yy, yy, yy, yy, yy, yy, yy, yy, yy, yy, yy, yy, yy, yy, yy, yy, yy, yy, yy, yy, yy]) rfl (by kernel_rfl) rfl (NP.next NP.body) rfl rfl rfl (fun w' => yl_assign rfl) hS113 (fun hS114 => ?_)
          refine GH.done (by kernel_rfl) ?_
          refine QA.then_normal ?_
          refine C.ret ?_
          refine QA.ret1 rfl rfl ?_
          obtain rfl := sp_ret1 hm
          exact ⟨rfl, (Sat.pick [] h108)⟩
        · refine GH.off (i := 22) (listed' := #[yy, yy, yy, yy, yy, yy, yy, yy, yy, yy, yy, yy, yy, yy, yy, yy, yy, yy, yy, yy, yy, yy, yy, nn, nn, nn, nn, nn, nn, nn]) rfl (by kernel_rfl) rfl (NP.next NP.body) rfl rfl rfl rfl (dec_f hc94) hS93 (fun hS115 => ?_)
          refine GH.off (i := 23) (listed' := #[yy, yy, yy, yy, yy, yy, yy, yy, yy, yy, yy, yy, yy, yy, yy, yy, yy, yy, yy, yy, yy, yy, yy, yy, nn, nn, nn, nn, nn, nn]) rfl (by kernel_rfl) rfl (NP.next NP.body) rfl rfl rfl rfl (dec_f hc94) hS115 (fun hS116 => ?_)
          refine GH.off (i := 24) (listed' := #[yy, yy, yy, yy, yy, yy, yy, yy, yy, yy, yy, yy, yy, yy, yy, yy, yy, yy, yy, yy, yy, yy, yy, yy, yy, nn, nn, nn, nn, nn]) rfl (by kernel_rfl) rfl (NP.next NP.body) rfl rfl rfl rfl (dec_f hc94) hS116 (fun hS117 => ?_)
          refine GH.yl (i := 25) (listed' := #[yy, yy, yy, yy, yy, yy, yy, yy, yy, yy, yy, yy, yy, yy, yy, yy, yy, yy, yy, yy, yy, yy, yy, yy, yy, yy, nn, nn, nn, nn]) rfl (by kernel_rfl) rfl (NP.next NP.body) rfl rfl rfl (fun w' => yl_pick_f rfl (dec_f hc94) rfl) hS117 (fun hS118 => ?_)
          refine GH.yl (i := 26) (listed' := #[yy, yy, yy, yy, yy, yy, yy, yy, yy, yy, yy, yy, yy, yy, yy, yy, yy, yy, yy, yy, yy, yy, yy, yy, yy, yy, yy, nn, nn, nn]) rfl (by kernel_rfl) rfl (NP.next NP.body) rfl rfl rfl (fun w' => yl_move rfl) hS118 (fun hS119 => ?_)
          refine GH.off (i := 27) (listed' := #[yy, yy, yy, yy, yy, yy, yy, yy, yy, yy, yy, yy, yy, yy, yy, yy, yy, yy, yy, yy, yy, yy, yy, yy, yy, yy, yy, yy, nn, nn]) rfl (by kernel_rfl) rfl (NP.next NP.body) rfl rfl rfl rfl rfl hS119 (fun hS120 => ?_)
          refine GH.yl (i := 28) (listed' := #[yy, yy, yy, yy, yy, yy, yy, yy, yy, yy, yy, yy, yy, yy, yy, yy, yy, yy, yy, yy, yy, yy, yy, yy, yy, yy, yy, yy, yy, nn]) rfl (by kernel_rfl) rfl (NP.next NP.body) rfl rfl rfl (fun w' => yl_pick_f rfl rfl rfl) hS120 (fun hS121 => ?_)
          refine GH.yl (i := 29) (listed' := #[yy, yy, yy, yy, yy, yy, yy, yy, yy, yy, yy, yy, yy, yy, yy, yy, yy, yy, yy, yy, yy, yy, yy, yy, yy, yy, yy, yy, yy, yy]) rfl (by kernel_rfl) rfl (NP.next NP.body) rfl rfl rfl (fun w' => yl_assign rfl) hS121 (fun hS122 => ?_)
          refine GH.done (by kernel_rfl) ?_
          refine QA.then_normal ?_
          refine C.ret ?_
          refine QA.ret1 rfl rfl ?_
          obtain rfl := sp_ret1 hm
          exact ⟨rfl, (Sat.pick [] h86)⟩
      · refine GH.off (i := 13) (listed' := #[yy, yy, yy, yy, yy, yy, yy, yy, yy, yy, yy, yy, yy, yy, nn, nn, nn, nn, nn, nn, nn, nn, nn, nn, nn, nn, nn, nn, nn, nn]) rfl (by kernel_rfl) rfl (NP.next NP.body) rfl rfl rfl rfl (dec_f hc78) hS77 (fun hS123 => ?_)
        refine GH.off (i := 14) (listed' := #[yy, yy, yy, yy, yy, yy, yy, yy, yy, yy, yy, yy, yy, yy, yy, nn, nn, nn, nn, nn, nn, nn, nn, nn, nn, nn, nn, nn, nn, nn]) rfl (by kernel_rfl) rfl (NP.next NP.body) rfl rfl rfl rfl (dec_f hc78) hS123 (fun hS124 => ?_)
        refine GH.off (i := 15) (listed' := #[yy, yy, yy, yy, yy, yy, yy, yy, yy, yy, yy, yy, yy, yy, yy, yy, nn, nn, nn, nn, nn, nn, nn, nn, nn, nn, nn, nn, nn, nn]) rfl (by kernel_rfl) rfl (NP.next NP.body) rfl rfl rfl rfl (dec_f hc78) hS124 (fun hS125 => ?_)
        refine GH.off (i := 16) (listed' := #[yy, yy, yy, yy, yy, yy, yy, yy, yy, yy, yy, yy, yy, yy, yy, yy, yy, nn, nn, nn, nn, nn, nn, nn, nn, nn, nn, nn, nn, nn]) rfl (by kernel_rfl) rfl (NP.next NP.body) rfl rfl rfl rfl (dec_f hc78) hS125 (fun hS126 => ?_)
        refine GH.off (i := 17) (listed' := #[yy, yy, yy, yy, yy, yy, yy, yy, yy, yy, yy, yy, yy, yy, yy, yy, yy, yy, nn, nn, nn, nn, nn, nn, nn, nn, nn, nn, nn, nn]) rfl (by kernel_rfl) rfl (NP.next NP.body) rfl rfl rfl rfl (dec_f hc78) hS126 (fun hS127 => ?_)
        refine GH.off (i := 18) (listed' := #[yy, yy, yy, yy, yy, yy, yy, yy, yy, yy, yy, yy, yy, yy, yy, yy, yy, yy, yy, nn, nn, nn, nn, nn, nn, nn, nn, nn, nn, nn]) rfl (by kernel_rfl) rfl (NP.next NP.body) rfl rfl rfl rfl (dec_f hc78) hS127 (fun hS128 => ?_)
        refine GH.off (i := 19) (listed' := #[yy, yy, yy, yy, yy, yy, yy, yy, yy, yy, yy, yy, yy, yy, yy, yy, yy, yy, yy, yy, nn, nn, nn, nn, nn, nn, nn, nn, nn, nn]) rfl (by kernel_rfl) rfl (NP.next NP.body) rfl rfl rfl rfl (dec_f hc78) hS128 (fun hS129 => ?_)
        refine GH.yl (i := 20) (listed' := #[yy, yy, yy, yy, yy, yy, yy, yy, yy, yy, yy, yy, yy, yy, yy, yy, yy, yy, yy, yy, yy, nn, nn, nn, nn, nn, nn, nn, nn, nn]) rfl (by kernel_rfl) rfl (NP.next NP.body) rfl rfl rfl (fun w' => yl_pick_f rfl (dec_f hc78) rfl) hS129 (fun hS130 => ?_)
        refine GH.yl (i := 21) (listed' := #[yy, yy, yy, yy, yy, yy, yy, yy, yy, yy, yy, yy, yy, yy, yy, yy, yy, yy, yy, yy, yy, yy, nn, nn, nn, nn, nn, nn, nn, nn]) rfl (by kernel_rfl) rfl (NP.next NP.body) rfl rfl rfl (fun w' => yl_move rfl) hS130 (fun hS131 => ?_)
        refine GH.off (i := 22) (listed' := #[yy, yy, yy, yy, yy, yy, yy, yy, yy, yy, yy, yy, yy, yy, yy, yy, yy, yy, yy, yy, yy, yy, yy, nn, nn, nn, nn, nn, nn, nn]) rfl (by kernel_rfl) rfl (NP.next NP.body) rfl rfl rfl rfl rfl hS131 (fun hS132 => ?_)
        refine GH.off (i := 23) (listed' := #[yy, yy, yy, yy, yy, yy, yy, yy, yy, yy, yy, yy, yy, yy, yy, yy, yy, yy, yy, yy, yy, yy, yy, yy, nn, nn, nn, nn, nn, nn]) rfl (by kernel_rfl) rfl (NP.next NP.body) rfl rfl rfl rfl rfl hS132 (fun hS133 => ?_)
        refine GH.off (i := 24) (listed' := #[yy, yy, yy, yy, yy, yy, yy, yy, yy, yy, yy, yy, yy, yy, yy, yy, yy, yy, yy, yy, yy, yy, yy, yy, yy, nn, nn, nn, nn, nn]) rfl (by kernel_rfl) rfl (NP.next NP.body) rfl rfl rfl rfl rfl hS133 (fun hS134 => ?_)
        refine GH.yl (i := 25) (listed' := #[yy, yy, yy, yy, yy, yy, yy, yy, yy, yy, yy, yy, yy, yy, yy, yy, yy, yy, yy, yy, yy, yy, yy, yy, yy, yy, nn, nn, nn, nn]) rfl (by kernel_rfl) rfl (NP.next NP.body) rfl rfl rfl (fun w' => yl_pick_f rfl rfl rfl) hS134 (fun hS135 => ?_)
        refine GH.yl (i := 26) (listed' := #[yy, yy, yy, yy, yy, yy, yy, yy, yy, yy, yy, yy, yy, yy, yy, yy, yy, yy, yy, yy, yy, yy, yy, yy, yy, yy, yy, nn, nn, nn]) rfl (by kernel_rfl) rfl (NP.next NP.body) rfl rfl rfl (fun w' => yl_move rfl) hS135 (fun hS136 => ?_)
        refine GH.off (i := 27) (listed' := #[yy, yy, yy, yy, yy, yy, yy, yy, yy, yy, yy, yy, yy, yy, yy, yy, yy, yy, yy, yy, yy, yy, yy, yy, yy, yy, yy, yy, nn, nn]) rfl (by kernel_rfl) rfl (NP.next NP.body) rfl rfl rfl rfl rfl hS136 (fun hS137 => ?_)
        refine GH.yl (i := 28) (listed' := #[yy, yy, yy, yy, yy, yy, yy, yy, yy, yy, yy, yy, yy, yy, yy, yy, yy, yy, yy, yy, yy, yy, yy, yy, yy, yy, yy, yy, yy, nn]) rfl (by kernel_rfl) rfl (NP.next NP.body) rfl rfl rfl (fun w' => yl_pick_f rfl rfl rfl) hS137 (fun hS138 => ?_)
        refine GH.yl (i := 29) (listed' := #[yy, yy, yy, yy, yy, yy, yy, yy, yy, yy, yy, yy, yy, yy, yy, yy, yy, yy, yy, yy, yy, yy, yy, yy, yy, yy, yy, yy, yy, yy]) rfl (by kernel_rfl) rfl (NP.next NP.body) rfl rfl rfl (fun w' => yl_assign rfl) hS138 (fun hS139 => ?_)
        refine GH.done (by kernel_rfl) ?_
        refine QA.then_normal ?_
        refine C.ret ?_
        refine QA.ret1 rfl rfl ?_
        obtain rfl := sp_ret1 hm
        exact ⟨rfl, (Sat.pick [] h70)⟩
    · refine GH.off (i := 6) (listed' := #[yy, yy, yy, yy, yy, yy, yy, nn, nn, nn, nn, nn, nn, nn, nn, nn, nn, nn, nn, nn, nn, nn, nn, nn, nn, nn, nn, nn, nn, nn]) rfl (by kernel_rfl) rfl (NP.next NP.body) rfl rfl rfl rfl hc56 hS55 (fun hS140 => ?_)
      refine GH.off (i := 7) (listed' := #[yy, yy, yy, yy, yy, yy, yy, yy, nn, nn, nn, nn, nn, nn, nn, nn, nn, nn, nn, nn, nn, nn, nn, nn, nn, nn, nn, nn, nn, nn]) rfl (by kernel_rfl) rfl (NP.next NP.body) rfl rfl rfl rfl hc56 hS140 (fun hS141 => ?_)
      refine GH.off (i := 8) (listed' := #[yy, yy, yy, yy, yy, yy, yy, yy, yy, nn, nn, nn, nn, nn, nn, nn, nn, nn, nn, nn, nn, nn, nn, nn, nn, nn, nn, nn, nn, nn]) rfl (by kernel_rfl) rfl (NP.next NP.body) rfl rfl rfl rfl hc56 hS141 (fun hS142 => ?_)
      refine GH.off (i := 9) (listed' := #[yy, yy, yy, yy, yy, yy, yy, yy, yy, yy, nn, nn, nn, nn, nn, nn, nn, nn, nn, nn, nn, nn, nn, nn, nn, nn, nn, nn, nn, nn]) rfl (by kernel_rfl) rfl (NP.next NP.body) rfl rfl rfl rfl hc56 hS142 (fun hS143 => ?_)
      refine GH.off (i := 10) (listed' := #[yy, yy, yy, yy, yy, yy, yy, yy, yy, yy, yy, nn, nn, nn, nn, nn, nn, nn, nn, nn, nn, nn, nn, nn, nn, nn, nn, nn, nn, nn]) rfl (by kernel_rfl) rfl (NP.next NP.body) rfl rfl rfl rfl hc56 hS143 (fun hS144 => ?_)
      refine GH.yl (i := 11) (listed' := #[yy, yy, yy, yy, yy, yy, yy, yy, yy, yy, yy, yy, nn, nn, nn, nn, nn, nn, nn, nn, nn, nn, nn, nn, nn, nn, nn, nn, nn, nn]) rfl (by kernel_rfl) rfl (NP.next NP.body) rfl rfl rfl (fun w' => yl_pick_f rfl hc56 rfl) hS144 (fun hS145 => ?_)
      refine GH.yl (i := 12) (listed' := #[yy, yy, yy, yy, yy, yy, yy, yy, yy, yy, yy, yy, yy, nn, nn, nn, nn, nn, nn, nn, nn, nn, nn, nn, nn, nn, nn, nn, nn, nn]) rfl (by kernel_rfl) rfl (NP.next NP.body) rfl rfl rfl (fun w' => yl_move rfl) hS145 (fun hS146 => ?_)
      refine GH.off (i := 13) (listed' := #[yy, yy, yy, yy, yy, yy, yy, yy, yy, yy, yy, yy, yy, yy, nn, nn, nn, nn, nn, nn, nn, nn, nn, nn, nn, nn, nn, nn, nn, nn]) rfl (by kernel_rfl) rfl (NP.next NP.body) rfl rfl rfl rfl rfl hS146 (fun hS147 => ?_)
      refine GH.off (i := 14) (listed' := #[yy, yy, yy, yy, yy, yy, yy, yy, yy, yy, yy, yy, yy, yy, yy, nn, nn, nn, nn, nn, nn, nn, nn, nn, nn, nn, nn, nn, nn, nn]) rfl (by kernel_rfl) rfl (NP.next NP.body) rfl rfl rfl rfl rfl hS147 (fun hS148 => ?_)
      refine GH.off (i := 15) (listed' := #[yy, yy, yy, yy, yy, yy, yy, yy, yy, yy, yy, yy, yy, yy, yy, yy, nn, nn, nn, nn, nn, nn, nn, nn, nn, nn, nn, nn, nn, nn]) rfl (by kernel_rfl) rfl (NP.next NP.body) rfl rfl rfl rfl rfl hS148 (fun hS149 => ?_)
      refine GH.off (i := 16) (listed' := #[yy, yy, yy, yy, yy, yy, yy, yy, yy, yy, yy, yy, yy, yy, yy, yy, yy, nn, nn, nn, nn, nn, nn, nn, nn, nn, nn, nn, nn, nn]) rfl (by kernel_rfl) rfl (NP.next NP.body) rfl rfl rfl rfl rfl hS149 (fun hS150 => ?_)
      refine GH.off (i := 17) (listed' := #[yy, yy, yy, yy, yy, yy, yy, yy, yy, yy, yy, yy, yy, yy, yy, yy, yy, yy, nn, nn, nn, nn, nn, nn, nn, nn, nn, nn, nn, nn]) rfl (by kernel_rfl) rfl (NP.next NP.body) rfl rfl rfl rfl rfl hS150 (fun hS151 => ?_)
      refine GH.off (i := 18) (listed' := #[yy, yy, yy, yy, yy, yy, yy, yy, yy, yy, yy, yy, yy, yy, yy, yy, yy, yy, yy, nn, nn, nn, nn, nn, nn, nn, nn, nn, nn, nn]) rfl (by kernel_rfl) rfl (NP.next NP.body) rfl rfl rfl rfl rfl hS151 (fun hS152 => ?_)
      refine GH.off (i := 19) (listed' := #[yy, yy, yy, yy, yy, yy, yy, yy, yy, yy, yy, yy, yy, yy, yy, yy, yy, yy, yy, yy, nn, nn, nn, nn, nn, nn, nn, nn, nn, nn]) rfl (by kernel_rfl) rfl (NP.next NP.body) rfl rfl rfl rfl rfl hS152 (fun hS153 => ?_)
      refine GH.yl (i := 20) (listed' := #[yy, yy, yy, yy, yy, yy, yy, yy, yy, yy, yy, yy, yy, yy, yy, yy, yy, yy, yy, yy, yy, nn, nn, nn, nn, nn, nn, nn, nn, nn]) rfl (by kernel_rfl) rfl (NP.next NP.body) rfl rfl rfl (fun w' => yl_pick_f rfl rfl rfl) hS153 (fun hS154 => ?_)
      refine GH.yl (i := 21) (listed' := #[yy, yy, yy, yy, yy, yy, yy, yy, yy, yy, yy, yy, yy, yy, yy, yy, yy, yy, yy, yy, yy, yy, nn, nn, nn, nn, nn, nn, nn, nn]) rfl (by kernel_rfl) rfl (NP.next NP.body) rfl rfl rfl (fun w' => yl_move rfl) hS154 (fun hS155 => ?_)
      refine GH.off (i := 22) (listed' := #[yy, yy, yy, yy, yy, yy, yy, yy, yy, yy, yy, yy, yy, yy, yy, yy, yy, yy, yy, yy, yy, yy, yy, nn, nn, nn, nn, nn, nn, nn]) rfl (by kernel_rfl) rfl (NP.next NP.body) rfl rfl rfl rfl rfl hS155 (fun hS156 => ?_)
      refine GH.off (i := 23) (listed' := #[yy, yy, yy, yy, yy, yy, yy, yy, yy, yy, yy, yy, yy, yy, yy, yy, yy, yy, yy, yy, yy, yy, yy, yy, nn, nn, nn, nn, nn, nn]) rfl (by kernel_rfl) rfl (NP.next NP.body) rfl rfl rfl rfl rfl hS156 (fun hS157 => ?_)
      refine GH.off (i := 24) (listed' := #[yy, yy, yy, yy, yy, yy, yy, yy, yy, yy, yy, yy, yy, yy, yy, yy, yy, yy, yy, yy, yy, yy, yy, yy, yy, nn, nn, nn, nn, nn]) rfl (by kernel_rfl) rfl (NP.next NP.body) rfl rfl rfl rfl rfl hS157 (fun hS158 => ?_)
      refine GH.yl (i := 25) (listed' := #[yy, yy, yy, yy, yy, yy, yy, yy, yy, yy, yy, yy, yy, yy, yy, yy, yy, yy, yy, yy, yy, yy, yy, yy, yy, yy, nn, nn, nn, nn]) rfl (by kernel_rfl) rfl (NP.next NP.body) rfl rfl rfl (fun w' => yl_pick_f rfl rfl rfl) hS158 (fun hS159 => ?_)
      refine GH.yl (i := 26) (listed' := #[yy, yy, yy, yy, yy, yy, yy, yy, yy, yy, yy, yy, yy, yy, yy, yy, yy, yy, yy, yy, yy, yy, yy, yy, yy, yy, yy, nn, nn, nn]) rfl (by kernel_rfl) rfl (NP.next NP.body) rfl rfl rfl (fun w' => yl_move rfl) hS159 (fun hS160 => ?_)
      refine GH.off (i := 27) (listed' := #[yy, yy, yy, yy, yy, yy, yy, yy, yy, yy, yy, yy, yy, yy, yy, yy, yy, yy, yy, yy, yy, yy, yy, yy, yy, yy, yy, yy, nn, nn]) rfl (by kernel_rfl) rfl (NP.next NP.body) rfl rfl rfl rfl rfl hS160 (fun hS161 => ?_)
      refine GH.yl (i := 28) (listed' := #[yy, yy, yy, yy, yy, yy, yy, yy, yy, yy, yy, yy, yy, yy, yy, yy, yy, yy, yy, yy, yy, yy, yy, yy, yy, yy, yy, yy, yy, nn]) rfl (by kernel_rfl) rfl (NP.next NP.body) rfl rfl rfl (fun w' => yl_pick_f rfl rfl rfl) hS161 (fun hS162 => ?_)
      refine GH.yl (i := 29) (listed' := #[yy, yy, yy, yy, yy, yy, yy, yy, yy, yy, yy, yy, yy, yy, yy, yy, yy, yy, yy, yy, yy, yy, yy, yy, yy, yy, yy, yy, yy, yy]) rfl (by kernel_rfl) rfl (NP.next NP.body) rfl rfl rfl (fun w' => yl_assign rfl) hS162 (fun hS163 => ?_)
      refine GH.done (by kernel_rfl) ?_
      refine QA.then_normal ?_
      refine C.ret ?_
      refine QA.ret1 rfl rfl ?_
      obtain rfl := sp_ret1 hm
      exact ⟨rfl, (Sat.pick [] h50)⟩
end Go.Proofs.Ytlkilokdbkjbmaa
