/-
  That the functions of the program compute what their Lean functions say, part 2. No condition.
-/
import Derived.Test.YtgabplankmljfaaInstReadsW1
namespace Go.Proofs.Ytgabplankmljfaa
open Go Go.RowKit
set_option linter.unusedVariables false
set_option linter.unusedSimpArgs false
set_option linter.unnecessarySimpa false
set_option maxRecDepth 20000 in
set_option maxHeartbeats 1000000 in
theorem M_signpostref01_Reader_Take_pv_w {W : Base} {w : World} {b : Nat} {a : Option Addr} {c : Nat} {B : List UInt8} {At : Int} {Bad : Bool} {n : Int} (hv10 : V W a (elU8.row B)) (hq11 : B.length ≤ c) (h : Sat W w [blk b [(.slice a B.length c), (vI At), (.bool Bad)] 97]) {r3 : List UInt8} {r4 : Int} {r5 : Bool} (hm : M_signpostref01_Reader_Take_pv B At Bad n = some (r3, r4, r5)) :
    Calls Try.prog 113 #[(.pointer (some ⟨b, 0, none⟩)), (vI n)] w (Ret fun v w' => ∃ r1 : Option Addr, ∃ r2 : Nat, v = (.slice r1 r3.length r2) ∧ Sat W w' [ow elU8 r1 r2 5 r3, blk b [(.slice a B.length c), (vI r4), (.bool r5)] 97]) := by
  unfold M_signpostref01_Reader_Take_pv at hm
  refine C.enter (N := 55) Try.func113 rfl Try.ntmps113 rfl ?_
  show C _ _ _ [(0, (.pointer (some ⟨b, 0, none⟩))), (1, (vI n))] _ _
  refine C.seq ?_
  refine C.region ?_
  refine G.yl (yl_assign rfl) rfl rfl rfl ?_
  refine G.nil ?_
  refine QA.then_normal ?_
  refine C.seq ?_
  refine C.join (γ := Bool) (fun g => match g with | t26 => [(0, (.pointer (some ⟨b, 0, none⟩))), (1, (vI n)), (4, (.slice none 0 0)), (26, (.bool t26))]) (fun g ww => match g with | t26 => (M_signpostref01_Reader_Take_pv_k1 At B Bad n t26 = some (r3, r4, r5)) ∧ Sat W ww [blk b [(.slice a B.length c), (vI At), (.bool Bad)] 97]) ?_ ?_
  · refine C.draw (V := fun w' => View w' (some ⟨b, 0, none⟩) [(.slice a B.length c), (vI At), (.bool Bad)]) (nd := [3, 5, 6, 9, 10, 11, 12, 13, 14, 15, 16, 17, 18, 19, 20]) (sp := []) (n := 22) rfl h rfl rfl ?_
    intro w1 h2
    have hS3 : Cls (fun w' => View w' (some ⟨b, 0, none⟩) [(.slice a B.length c), (vI At), (.bool Bad)]) [3, 5, 6, 9, 10, 11, 12, 13, 14, 15, 16, 17, 18, 19, 20] [] #[false, false, false, false, false, false, false, false, false, false, false, false, false, false, false, false, false, false, false, false, false, false] w1 := Cls.keep (h2.isBlk.view0) (by kernel_rfl)
    refine GH.yl (i := 0) (listed' := #[true, false, false, false, false, false, false, false, false, false, false, false, false, false, false, false, false, false, false, false, false, false]) rfl (by kernel_rfl) rfl (NP.next (NP.next NP.body)) rfl rfl rfl (fun w' => yl_move rfl) hS3 (fun hS4 => ?_)
    refine GH.yl (i := 1) (listed' := #[true, true, false, false, false, false, false, false, false, false, false, false, false, false, false, false, false, false, false, false, false, false]) rfl (by kernel_rfl) rfl (NP.next (NP.next NP.body)) rfl rfl rfl (fun w' => yl_nilCheck rfl) hS4 (fun hS5 => ?_)
    refine GH.yl (i := 2) (listed' := #[true, true, true, false, false, false, false, false, false, false, false, false, false, false, false, false, false, false, false, false, false, false]) rfl (by kernel_rfl) rfl (NP.next (NP.next NP.body)) rfl rfl rfl (fun w' => yl_fieldAddr fo97_2 rfl) hS5 (fun hS6 => ?_)
    refine GH.yr (i := 3) (listed' := #[true, true, true, true, false, false, false, false, false, false, false, false, false, false, false, false, false, false, false, false, false, false]) rfl (by kernel_rfl) rfl rfl (NP.next (NP.next NP.body)) rfl rfl rfl (fun w' hw' => yl_load (v := (.bool Bad)) ag4 rfl (View.at0 (j := 2) hw' rfl)) hS6 (fun hS7 => ?_)
    refine GH.yl (i := 4) (listed' := #[true, true, true, true, true, false, false, false, false, false, false, false, false, false, false, false, false, false, false, false, false, false]) rfl (by kernel_rfl) rfl (NP.next (NP.next NP.body)) rfl rfl rfl (fun w' => yl_move rfl) hS7 (fun hS8 => ?_)
    rcases sp_b hm with ⟨hc9, hm⟩ | ⟨hc9, hm⟩
    · refine GH.off (i := 5) (listed' := #[true, true, true, true, true, true, false, false, false, false, false, false, false, false, false, false, false, false, false, false, false, false]) rfl (by kernel_rfl) rfl (NP.next (NP.next NP.body)) rfl rfl rfl rfl hc9 hS8 (fun hS10 => ?_)
      refine GH.off (i := 6) (listed' := #[true, true, true, true, true, true, true, false, false, false, false, false, false, false, false, false, false, false, false, false, false, false]) rfl (by kernel_rfl) rfl (NP.next (NP.next NP.body)) rfl rfl rfl rfl hc9 hS10 (fun hS11 => ?_)
      refine GH.yl (i := 7) (listed' := #[true, true, true, true, true, true, true, true, false, false, false, false, false, false, false, false, false, false, false, false, false, false]) rfl (by kernel_rfl) rfl (NP.next (NP.next NP.body)) rfl rfl rfl (fun w' => yl_pick_t rfl hc9 rfl) hS11 (fun hS12 => ?_)
      refine GH.yl (i := 8) (listed' := #[true, true, true, true, true, true, true, true, true, false, false, false, false, false, false, false, false, false, false, false, false, false]) rfl (by kernel_rfl) rfl (NP.next (NP.next NP.body)) rfl rfl rfl (fun w' => yl_move rfl) hS12 (fun hS13 => ?_)
      refine GH.off (i := 9) (listed' := #[true, true, true, true, true, true, true, true, true, true, false, false, false, false, false, false, false, false, false, false, false, false]) rfl (by kernel_rfl) rfl (NP.next (NP.next NP.body)) rfl rfl rfl rfl rfl hS13 (fun hS14 => ?_)
      refine GH.off (i := 10) (listed' := #[true, true, true, true, true, true, true, true, true, true, true, false, false, false, false, false, false, false, false, false, false, false]) rfl (by kernel_rfl) rfl (NP.next (NP.next NP.body)) rfl rfl rfl rfl rfl hS14 (fun hS15 => ?_)
      refine GH.off (i := 11) (listed' := #[true, true, true, true, true, true, true, true, true, true, true, true, false, false, false, false, false, false, false, false, false, false]) rfl (by kernel_rfl) rfl (NP.next (NP.next NP.body)) rfl rfl rfl rfl rfl hS15 (fun hS16 => ?_)
      refine GH.off (i := 12) (listed' := #[true, true, true, true, true, true, true, true, true, true, true, true, true, false, false, false, false, false, false, false, false, false]) rfl (by kernel_rfl) rfl (NP.next (NP.next NP.body)) rfl rfl rfl rfl rfl hS16 (fun hS17 => ?_)
      refine GH.off (i := 13) (listed' := #[true, true, true, true, true, true, true, true, true, true, true, true, true, true, false, false, false, false, false, false, false, false]) rfl (by kernel_rfl) rfl (NP.next (NP.next NP.body)) rfl rfl rfl rfl rfl hS17 (fun hS18 => ?_)
      refine GH.off (i := 14) (listed' := #[true, true, true, true, true, true, true, true, true, true, true, true, true, true, true, false, false, false, false, false, false, false]) rfl (by kernel_rfl) rfl (NP.next (NP.next NP.body)) rfl rfl rfl rfl rfl hS18 (fun hS19 => ?_)
      refine GH.off (i := 15) (listed' := #[true, true, true, true, true, true, true, true, true, true, true, true, true, true, true, true, false, false, false, false, false, false]) rfl (by kernel_rfl) rfl (NP.next (NP.next NP.body)) rfl rfl rfl rfl rfl hS19 (fun hS20 => ?_)
      refine GH.off (i := 16) (listed' := #[true, true, true, true, true, true, true, true, true, true, true, true, true, true, true, true, true, false, false, false, false, false]) rfl (by kernel_rfl) rfl (NP.next (NP.next NP.body)) rfl rfl rfl rfl rfl hS20 (fun hS21 => ?_)
      refine GH.off (i := 17) (listed' := #[true, true, true, true, true, true, true, true, true, true, true, true, true, true, true, true, true, true, false, false, false, false]) rfl (by kernel_rfl) rfl (NP.next (NP.next NP.body)) rfl rfl rfl rfl rfl hS21 (fun hS22 => ?_)
      refine GH.off (i := 18) (listed' := #[true, true, true, true, true, true, true, true, true, true, true, true, true, true, true, true, true, true, true, false, false, false]) rfl (by kernel_rfl) rfl (NP.next (NP.next NP.body)) rfl rfl rfl rfl rfl hS22 (fun hS23 => ?_)
      refine GH.off (i := 19) (listed' := #[true, true, true, true, true, true, true, true, true, true, true, true, true, true, true, true, true, true, true, true, false, false]) rfl (by kernel_rfl) rfl (NP.next (NP.next NP.body)) rfl rfl rfl rfl rfl hS23 (fun hS24 => ?_)
      refine GH.off (i := 20) (listed' := #[true, true, true, true, true, true, true, true, true, true, true, true, true, true, true, true, true, true, true, true, true, false]) rfl (by kernel_rfl) rfl (NP.next (NP.next NP.body)) rfl rfl rfl rfl rfl hS24 (fun hS25 => ?_)
      refine GH.yl (i := 21) (listed' := #[true, true, true, true, true, true, true, true, true, true, true, true, true, true, true, true, true, true, true, true, true, true]) rfl (by kernel_rfl) rfl (NP.next (NP.next NP.body)) rfl rfl rfl (fun w' => yl_pick_t rfl rfl rfl) hS25 (fun hS26 => ?_)
      refine GH.done (by kernel_rfl) ?_
      exact QA.join true (Sub.of ⟨rfl, rfl, rfl, rfl, trivial⟩) ⟨hm, (Sat.pick [0] h2)⟩
    · refine GH.on (i := 5) (listed' := #[true, true, true, true, true, true, false, false, false, false, false, false, false, false, false, false, false, false, false, false, false, false]) rfl (by kernel_rfl) rfl rfl (NP.next (NP.next NP.body)) rfl rfl rfl rfl hc9 (fun w' hw' => yl_move rfl) hS8 (fun hS27 => ?_)
      refine GH.on (i := 6) (listed' := #[true, true, true, true, true, true, true, false, false, false, false, false, false, false, false, false, false, false, false, false, false, false]) rfl (by kernel_rfl) rfl rfl (NP.next (NP.next NP.body)) rfl rfl rfl rfl hc9 (fun w' hw' => yl_ltI rfl rfl) hS27 (fun hS28 => ?_)
      refine GH.yl (i := 7) (listed' := #[true, true, true, true, true, true, true, true, false, false, false, false, false, false, false, false, false, false, false, false, false, false]) rfl (by kernel_rfl) rfl (NP.next (NP.next NP.body)) rfl rfl rfl (fun w' => yl_pick_f rfl hc9 rfl) hS28 (fun hS29 => ?_)
      refine GH.yl (i := 8) (listed' := #[true, true, true, true, true, true, true, true, true, false, false, false, false, false, false, false, false, false, false, false, false, false]) rfl (by kernel_rfl) rfl (NP.next (NP.next NP.body)) rfl rfl rfl (fun w' => yl_move rfl) hS29 (fun hS30 => ?_)
      rcases sp_ite hm with ⟨hc31, hm⟩ | ⟨hc31, hm⟩
      · refine GH.off (i := 9) (listed' := #[true, true, true, true, true, true, true, true, true, true, false, false, false, false, false, false, false, false, false, false, false, false]) rfl (by kernel_rfl) rfl (NP.next (NP.next NP.body)) rfl rfl rfl rfl (dec_t hc31) hS30 (fun hS32 => ?_)
        refine GH.off (i := 10) (listed' := #[true, true, true, true, true, true, true, true, true, true, true, false, false, false, false, false, false, false, false, false, false, false]) rfl (by kernel_rfl) rfl (NP.next (NP.next NP.body)) rfl rfl rfl rfl (dec_t hc31) hS32 (fun hS33 => ?_)
        refine GH.off (i := 11) (listed' := #[true, true, true, true, true, true, true, true, true, true, true, true, false, false, false, false, false, false, false, false, false, false]) rfl (by kernel_rfl) rfl (NP.next (NP.next NP.body)) rfl rfl rfl rfl (dec_t hc31) hS33 (fun hS34 => ?_)
        refine GH.off (i := 12) (listed' := #[true, true, true, true, true, true, true, true, true, true, true, true, true, false, false, false, false, false, false, false, false, false]) rfl (by kernel_rfl) rfl (NP.next (NP.next NP.body)) rfl rfl rfl rfl (dec_t hc31) hS34 (fun hS35 => ?_)
        refine GH.off (i := 13) (listed' := #[true, true, true, true, true, true, true, true, true, true, true, true, true, true, false, false, false, false, false, false, false, false]) rfl (by kernel_rfl) rfl (NP.next (NP.next NP.body)) rfl rfl rfl rfl (dec_t hc31) hS35 (fun hS36 => ?_)
        refine GH.off (i := 14) (listed' := #[true, true, true, true, true, true, true, true, true, true, true, true, true, true, true, false, false, false, false, false, false, false]) rfl (by kernel_rfl) rfl (NP.next (NP.next NP.body)) rfl rfl rfl rfl (dec_t hc31) hS36 (fun hS37 => ?_)
        refine GH.off (i := 15) (listed' := #[true, true, true, true, true, true, true, true, true, true, true, true, true, true, true, true, false, false, false, false, false, false]) rfl (by kernel_rfl) rfl (NP.next (NP.next NP.body)) rfl rfl rfl rfl (dec_t hc31) hS37 (fun hS38 => ?_)
        refine GH.off (i := 16) (listed' := #[true, true, true, true, true, true, true, true, true, true, true, true, true, true, true, true, true, false, false, false, false, false]) rfl (by kernel_rfl) rfl (NP.next (NP.next NP.body)) rfl rfl rfl rfl (dec_t hc31) hS38 (fun hS39 => ?_)
        refine GH.off (i := 17) (listed' := #[true, true, true, true, true, true, true, true, true, true, true, true, true, true, true, true, true, true, false, false, false, false]) rfl (by kernel_rfl) rfl (NP.next (NP.next NP.body)) rfl rfl rfl rfl (dec_t hc31) hS39 (fun hS40 => ?_)
        refine GH.off (i := 18) (listed' := #[true, true, true, true, true, true, true, true, true, true, true, true, true, true, true, true, true, true, true, false, false, false]) rfl (by kernel_rfl) rfl (NP.next (NP.next NP.body)) rfl rfl rfl rfl (dec_t hc31) hS40 (fun hS41 => ?_)
        refine GH.off (i := 19) (listed' := #[true, true, true, true, true, true, true, true, true, true, true, true, true, true, true, true, true, true, true, true, false, false]) rfl (by kernel_rfl) rfl (NP.next (NP.next NP.body)) rfl rfl rfl rfl (dec_t hc31) hS41 (fun hS42 => ?_)
        refine GH.off (i := 20) (listed' := #[true, true, true, true, true, true, true, true, true, true, true, true, true, true, true, true, true, true, true, true, true, false]) rfl (by kernel_rfl) rfl (NP.next (NP.next NP.body)) rfl rfl rfl rfl (dec_t hc31) hS42 (fun hS43 => ?_)
        refine GH.yl (i := 21) (listed' := #[true, true, true, true, true, true, true, true, true, true, true, true, true, true, true, true, true, true, true, true, true, true]) rfl (by kernel_rfl) rfl (NP.next (NP.next NP.body)) rfl rfl rfl (fun w' => yl_pick_t rfl (dec_t hc31) rfl) hS43 (fun hS44 => ?_)
        refine GH.done (by kernel_rfl) ?_
        exact QA.join true (Sub.of ⟨rfl, rfl, rfl, rfl, trivial⟩) ⟨hm, (Sat.pick [0] h2)⟩
      · refine GH.on (i := 9) (listed' := #[true, true, true, true, true, true, true, true, true, true, false, false, false, false, false, false, false, false, false, false, false, false]) rfl (by kernel_rfl) rfl rfl (NP.next (NP.next NP.body)) rfl rfl rfl rfl (dec_f hc31) (fun w' hw' => yl_move rfl) hS30 (fun hS45 => ?_)
        refine GH.on (i := 10) (listed' := #[true, true, true, true, true, true, true, true, true, true, true, false, false, false, false, false, false, false, false, false, false, false]) rfl (by kernel_rfl) rfl rfl (NP.next (NP.next NP.body)) rfl rfl rfl rfl (dec_f hc31) (fun w' hw' => yl_move rfl) hS45 (fun hS46 => ?_)
        refine GH.on (i := 11) (listed' := #[true, true, true, true, true, true, true, true, true, true, true, true, false, false, false, false, false, false, false, false, false, false]) rfl (by kernel_rfl) rfl rfl (NP.next (NP.next NP.body)) rfl rfl rfl rfl (dec_f hc31) (fun w' hw' => yl_nilCheck rfl) hS46 (fun hS47 => ?_)
        refine GH.on (i := 12) (listed' := #[true, true, true, true, true, true, true, true, true, true, true, true, true, false, false, false, false, false, false, false, false, false]) rfl (by kernel_rfl) rfl rfl (NP.next (NP.next NP.body)) rfl rfl rfl rfl (dec_f hc31) (fun w' hw' => yl_fieldAddr fo97_0 rfl) hS47 (fun hS48 => ?_)
        refine GH.on (i := 13) (listed' := #[true, true, true, true, true, true, true, true, true, true, true, true, true, true, false, false, false, false, false, false, false, false]) rfl (by kernel_rfl) rfl rfl (NP.next (NP.next NP.body)) rfl rfl rfl rfl (dec_f hc31) (fun w' hw' => yl_load (v := (.slice a B.length c)) ag49 rfl (View.at0 (j := 0) hw' rfl)) hS48 (fun hS49 => ?_)
        refine GH.on (i := 14) (listed' := #[true, true, true, true, true, true, true, true, true, true, true, true, true, true, true, false, false, false, false, false, false, false]) rfl (by kernel_rfl) rfl rfl (NP.next (NP.next NP.body)) rfl rfl rfl rfl (dec_f hc31) (fun w' hw' => yl_lenE Try.underlying49 rfl) hS49 (fun hS50 => ?_)
        refine GH.on (i := 15) (listed' := #[true, true, true, true, true, true, true, true, true, true, true, true, true, true, true, true, false, false, false, false, false, false]) rfl (by kernel_rfl) rfl rfl (NP.next (NP.next NP.body)) rfl rfl rfl rfl (dec_f hc31) (fun w' hw' => yl_move rfl) hS50 (fun hS51 => ?_)
        refine GH.on (i := 16) (listed' := #[true, true, true, true, true, true, true, true, true, true, true, true, true, true, true, true, true, false, false, false, false, false]) rfl (by kernel_rfl) rfl rfl (NP.next (NP.next NP.body)) rfl rfl rfl rfl (dec_f hc31) (fun w' hw' => yl_nilCheck rfl) hS51 (fun hS52 => ?_)
        refine GH.on (i := 17) (listed' := #[true, true, true, true, true, true, true, true, true, true, true, true, true, true, true, true, true, true, false, false, false, false]) rfl (by kernel_rfl) rfl rfl (NP.next (NP.next NP.body)) rfl rfl rfl rfl (dec_f hc31) (fun w' hw' => yl_fieldAddr fo97_1 rfl) hS52 (fun hS53 => ?_)
        refine GH.on (i := 18) (listed' := #[true, true, true, true, true, true, true, true, true, true, true, true, true, true, true, true, true, true, true, false, false, false]) rfl (by kernel_rfl) rfl rfl (NP.next (NP.next NP.body)) rfl rfl rfl rfl (dec_f hc31) (fun w' hw' => yl_load (v := (vI At)) ag3 rfl (View.at0 (j := 1) hw' rfl)) hS53 (fun hS54 => ?_)
        obtain ⟨hc55, hm⟩ := sp_chk hm
        refine GH.on (i := 19) (listed' := #[true, true, true, true, true, true, true, true, true, true, true, true, true, true, true, true, true, true, true, true, false, false]) rfl (by kernel_rfl) rfl rfl (NP.next (NP.next NP.body)) rfl rfl rfl rfl (dec_f hc31) (fun w' hw' => yl_subI rfl rfl hc55) hS54 (fun hS56 => ?_)
        refine GH.on (i := 20) (listed' := #[true, true, true, true, true, true, true, true, true, true, true, true, true, true, true, true, true, true, true, true, true, false]) rfl (by kernel_rfl) rfl rfl (NP.next (NP.next NP.body)) rfl rfl rfl rfl (dec_f hc31) (fun w' hw' => yl_gtI rfl rfl) hS56 (fun hS57 => ?_)
        refine GH.yl (i := 21) (listed' := #[true, true, true, true, true, true, true, true, true, true, true, true, true, true, true, true, true, true, true, true, true, true]) rfl (by kernel_rfl) rfl (NP.next (NP.next NP.body)) rfl rfl rfl (fun w' => yl_pick_f rfl (dec_f hc31) rfl) hS57 (fun hS58 => ?_)
        refine GH.done (by kernel_rfl) ?_
        exact QA.join (decide (((B.length : Int) - At) < n)) (Sub.of ⟨rfl, rfl, rfl, rfl, trivial⟩) ⟨hm, (Sat.pick [0] h2)⟩
  · rintro t26 w59 ⟨hm, h60⟩
    show C _ _ _ [(0, (.pointer (some ⟨b, 0, none⟩))), (1, (vI n)), (4, (.slice none 0 0)), (26, (.bool t26))] _ _
    unfold M_signpostref01_Reader_Take_pv_k1 at hm
    rcases sp_b hm with ⟨hc61, hm⟩ | ⟨hc61, hm⟩
    · refine C.cond_t rfl hc61 ?_
      refine C.seq ?_
      refine C.region ?_
      refine G.yl (yl_move rfl) rfl rfl rfl ?_
      obtain ⟨_, hy64, hm⟩ := sp_bind hm
      refine G.does (does_fn 1 rfl rfl rfl en146 (Sat.pick [0] h60) (fun U hU hp hr hs => M_signpostref01_Reader_fail_pv_w (B := B) (At := At) (Bad := Bad) (hs.v hv10) hq11 hp hy64)) rfl rfl rfl ?_
      rintro _ w65 ⟨U68, hb69, rfl, h67⟩
      have h66 : Sat W w65 [blk b [(.slice a B.length c), (vI (B.length : Int)), (.bool true)] 97] := hb69 h67
      refine G.nil ?_
      refine QA.then_normal ?_
      refine C.seq ?_
      refine C.region ?_
      refine G.yl (yl_assign rfl) rfl rfl rfl ?_
      refine G.nil ?_
      refine QA.then_normal ?_
      refine C.ret ?_
      refine QA.then_ret ?_
      refine QA.ret1 rfl rfl ?_
      obtain ⟨rfl, rfl, rfl⟩ := sp_ret3 hm
      exact ⟨none, 0, rfl, (Sat.pick [0, 0] (Sat.own_zero h66 elU8 none 5))⟩
    · refine C.cond_f rfl hc61 ?_
      refine C.skip ?_
      refine QA.then_normal ?_
      refine C.seq ?_
      refine C.region ?_
      refine G.yl (yl_move rfl) rfl rfl rfl ?_
      refine G.yl (yl_move rfl) rfl rfl rfl ?_
      refine G.yl (yl_nilCheck rfl) rfl rfl rfl ?_
      refine G.yl (yl_fieldAddr fo97_1 rfl) rfl rfl rfl ?_
      refine G.yl (yl_load (v := (vI At)) ag3 rfl (View.at0 (j := 1) h60.isBlk.view0 rfl)) rfl rfl rfl ?_
      refine G.yl (yl_move rfl) rfl rfl rfl ?_
      obtain ⟨hc70, hm⟩ := sp_chk hm
      refine G.yl (yl_addI rfl rfl hc70) rfl rfl rfl ?_
      refine G.yl (yl_nilCheck rfl) rfl rfl rfl ?_
      refine G.yl (yl_fieldAddr fo97_1 rfl) rfl rfl rfl ?_
      refine G.unit (does_store (vs := [(vI (At + n))]) h60 sz3 rfl rfl rfl rfl (List.forall_mem_cons.2 ⟨rfl, (fun _ hh => by cases hh)⟩) (Nat.le_of_ble_eq_true rfl)) rfl rfl ?_
      rintro _ w71 h73
      have h72 : Sat W w71 [blk b [(.slice a B.length c), (vI (At + n)), (.bool Bad)] 97] := h73
      refine G.nil ?_
      refine QA.then_normal ?_
      refine C.seq ?_
      refine C.draw (V := fun w' => View w' (some ⟨b, 0, none⟩) [(.slice a B.length c), (vI (At + n)), (.bool Bad)]) (nd := [4, 8, 14]) (sp := []) (n := 18) rfl h72 rfl rfl ?_
      intro w74 h75
      have hS76 : Cls (fun w' => View w' (some ⟨b, 0, none⟩) [(.slice a B.length c), (vI (At + n)), (.bool Bad)]) [4, 8, 14] [] #[false, false, false, false, false, false, false, false, false, false, false, false, false, false, false, false, false, false] w74 := Cls.keep (h75.isBlk.view0) (by kernel_rfl)
      refine GH.yl (i := 1) (listed' := #[false, true, false, false, false, false, false, false, false, false, false, false, false, false, false, false, false, false]) rfl (by kernel_rfl) rfl (NP.next NP.body) rfl rfl rfl (fun w' => yl_move rfl) hS76 (fun hS77 => ?_)
      refine GH.yl (i := 2) (listed' := #[false, true, true, false, false, false, false, false, false, false, false, false, false, false, false, false, false, false]) rfl (by kernel_rfl) rfl (NP.next NP.body) rfl rfl rfl (fun w' => yl_nilCheck rfl) hS77 (fun hS78 => ?_)
      refine GH.yl (i := 3) (listed' := #[false, true, true, true, false, false, false, false, false, false, false, false, false, false, false, false, false, false]) rfl (by kernel_rfl) rfl (NP.next NP.body) rfl rfl rfl (fun w' => yl_fieldAddr fo97_0 rfl) hS78 (fun hS79 => ?_)
      refine GH.yr (i := 4) (listed' := #[false, true, true, true, true, false, false, false, false, false, false, false, false, false, false, false, false, false]) rfl (by kernel_rfl) rfl rfl (NP.next NP.body) rfl rfl rfl (fun w' hw' => yl_load (v := (.slice a B.length c)) ag49 rfl (View.at0 (j := 0) hw' rfl)) hS79 (fun hS80 => ?_)
      refine GH.yl (i := 5) (listed' := #[false, true, true, true, true, true, false, false, false, false, false, false, false, false, false, false, false, false]) rfl (by kernel_rfl) rfl (NP.next NP.body) rfl rfl rfl (fun w' => yl_move rfl) hS80 (fun hS81 => ?_)
      refine GH.yl (i := 6) (listed' := #[false, true, true, true, true, true, true, false, false, false, false, false, false, false, false, false, false, false]) rfl (by kernel_rfl) rfl (NP.next NP.body) rfl rfl rfl (fun w' => yl_nilCheck rfl) hS81 (fun hS82 => ?_)
      refine GH.yl (i := 7) (listed' := #[false, true, true, true, true, true, true, true, false, false, false, false, false, false, false, false, false, false]) rfl (by kernel_rfl) rfl (NP.next NP.body) rfl rfl rfl (fun w' => yl_fieldAddr fo97_1 rfl) hS82 (fun hS83 => ?_)
      refine GH.yr (i := 8) (listed' := #[false, true, true, true, true, true, true, true, true, false, false, false, false, false, false, false, false, false]) rfl (by kernel_rfl) rfl rfl (NP.next NP.body) rfl rfl rfl (fun w' hw' => yl_load (v := (vI (At + n))) ag3 rfl (View.at0 (j := 1) hw' rfl)) hS83 (fun hS84 => ?_)
      refine GH.yl (i := 9) (listed' := #[false, true, true, true, true, true, true, true, true, true, false, false, false, false, false, false, false, false]) rfl (by kernel_rfl) rfl (NP.next NP.body) rfl rfl rfl (fun w' => yl_move rfl) hS84 (fun hS85 => ?_)
      obtain ⟨hc86, hm⟩ := sp_chk hm
      refine GH.yl (i := 10) (listed' := #[false, true, true, true, true, true, true, true, true, true, true, false, false, false, false, false, false, false]) rfl (by kernel_rfl) rfl (NP.next NP.body) rfl rfl rfl (fun w' => yl_subI rfl rfl hc86) hS85 (fun hS87 => ?_)
      refine GH.yl (i := 11) (listed' := #[false, true, true, true, true, true, true, true, true, true, true, true, false, false, false, false, false, false]) rfl (by kernel_rfl) rfl (NP.next NP.body) rfl rfl rfl (fun w' => yl_move rfl) hS87 (fun hS88 => ?_)
      refine GH.yl (i := 12) (listed' := #[false, true, true, true, true, true, true, true, true, true, true, true, true, false, false, false, false, false]) rfl (by kernel_rfl) rfl (NP.next NP.body) rfl rfl rfl (fun w' => yl_nilCheck rfl) hS88 (fun hS89 => ?_)
      refine GH.yl (i := 13) (listed' := #[false, true, true, true, true, true, true, true, true, true, true, true, true, true, false, false, false, false]) rfl (by kernel_rfl) rfl (NP.next NP.body) rfl rfl rfl (fun w' => yl_fieldAddr fo97_1 rfl) hS89 (fun hS90 => ?_)
      refine GH.yr (i := 14) (listed' := #[false, true, true, true, true, true, true, true, true, true, true, true, true, true, true, false, false, false]) rfl (by kernel_rfl) rfl rfl (NP.next NP.body) rfl rfl rfl (fun w' hw' => yl_load (v := (vI (At + n))) ag3 rfl (View.at0 (j := 1) hw' rfl)) hS90 (fun hS91 => ?_)
      obtain ⟨a92, ha93⟩ : ∃ p', Cut p' a c (((At + n) - n).toNat) 1 := Cut.mk _ _ _ _
      obtain ⟨hc94, hm⟩ := sp_chk hm
      refine GH.yl (i := 15) (listed' := #[false, true, true, true, true, true, true, true, true, true, true, true, true, true, true, true, false, false]) rfl (by kernel_rfl) rfl (NP.next NP.body) rfl rfl rfl (fun w' => yl_slLH (E := elU8) (l := B) sl49 rfl rfl rfl rfl hc94 hq11 ha93) hS91 (fun hS95 => ?_)
      refine GH.does (i := 0) (listed' := #[true, true, true, true, true, true, true, true, true, true, true, true, true, true, true, true, false, false]) rfl (by kernel_rfl) rfl rfl rfl rfl (does_lit (E := elU8) (l := ([] : List UInt8)) (vs := []) (cs := []) (e := 5) h75 rfl (by kernel_rfl) rfl rfl (by decide)) ?_
      rintro _ w97 ⟨a96, rfl, h98⟩
      have hS99 : Cls (fun w' => View w' (some ⟨b, 0, none⟩) [(.slice a B.length c), (vI (At + n)), (.bool Bad)]) [4, 8, 14] [] #[true, true, true, true, true, true, true, true, true, true, true, true, true, true, true, true, false, false] w97 := Cls.keep (((Sat.pick [1] h98).isBlk.view0)) (by kernel_rfl)
      refine ⟨hS99, ?_⟩
      obtain ⟨hc100, hm⟩ := sp_chk hm
      refine GH.does (i := 16) (listed' := #[true, true, true, true, true, true, true, true, true, true, true, true, true, true, true, true, true, false]) rfl (by kernel_rfl) rfl rfl rfl rfl (does_app (E := elU8) (l := ([] : List UInt8)) (l2 := (B.take ((At + n).toNat)).drop (((At + n) - n).toNat)) Try.underlying49 el5 (Sat.own_zero h98 elU8 a96 5) rfl rfl rfl rfl (by decide) (View.cut (View.rtake (hv10.at_ h98) ((At + n).toNat)) ha93 (by have := hq11; simp only [List.length_drop, List.length_take, List.length_append, List.length_set, List.length_cons, List.length_nil, List.length_ofFn, copyL_length] at *; omega)) hc100 (by decide)) ?_
      rintro _ w103 ⟨a101, c102, rfl, h104⟩
      have hS105 : Cls (fun w' => View w' (some ⟨b, 0, none⟩) [(.slice a B.length c), (vI (At + n)), (.bool Bad)]) [4, 8, 14] [] #[true, true, true, true, true, true, true, true, true, true, true, true, true, true, true, true, true, false] w103 := Cls.keep (((Sat.pick [2] h104).isBlk.view0)) (by kernel_rfl)
      refine ⟨hS105, ?_⟩
      refine GH.yl (i := 17) (listed' := #[true, true, true, true, true, true, true, true, true, true, true, true, true, true, true, true, true, true]) rfl (by kernel_rfl) rfl (NP.next NP.body) rfl rfl rfl (fun w' => yl_assign rfl) hS105 (fun hS106 => ?_)
      refine GH.done (by kernel_rfl) ?_
      refine QA.then_normal ?_
      refine C.ret ?_
      refine QA.ret1 rfl rfl ?_
      obtain ⟨rfl, rfl, rfl⟩ := sp_ret3 hm
      exact ⟨a101, c102, rfl, (Sat.pick [0, 1] h104)⟩
set_option maxRecDepth 20000 in
set_option maxHeartbeats 1000000 in
theorem M_signpostref01_Get_v_w {W : Base} {w : World} {a : Option Addr} {c : Nat} {b : List UInt8} {at_ : Int} {width : Int} (hv_b : V W a (elU8.row b)) (hq_b : b.length ≤ c) (h : Sat W w []) {r1 : UInt64} {r2 : Bool} (hm : M_signpostref01_Get_v b at_ width = some (r1, r2)) :
    Calls Try.prog 147 #[(.slice a b.length c), (vI at_), (vI width)] w (Ret fun v w' => v = (.tuple #[(v64 r1), (.bool r2)]) ∧ Sat W w' []) := by
  unfold M_signpostref01_Get_v at hm
  refine C.enter (N := 50) Try.func147 rfl Try.ntmps147 rfl ?_
  show C _ _ _ [(0, (.slice a b.length c)), (1, (vI at_)), (2, (vI width))] _ _
  refine C.seq ?_
  refine C.region ?_
  refine G.yl (yl_assign rfl) rfl rfl rfl ?_
  refine G.yl (yl_assign rfl) rfl rfl rfl ?_
  refine G.nil ?_
  refine QA.then_normal ?_
  refine C.seq ?_
  refine C.join (γ := Bool) (fun g => match g with | t33 => [(0, (.slice a b.length c)), (1, (vI at_)), (2, (vI width)), (6, (.int .u64 0)), (7, (.bool false)), (33, (.bool t33))]) (fun g ww => match g with | t33 => (M_signpostref01_Get_v_k1 at_ b width t33 = some (r1, r2)) ∧ Sat W ww []) ?_ ?_
  · refine C.region ?_
    refine G.yl (yl_move rfl) rfl rfl rfl ?_
    refine G.yl (yl_ltI rfl rfl) rfl rfl rfl ?_
    refine G.yl (yl_move rfl) rfl rfl rfl ?_
    rcases sp_ite hm with ⟨hc1, hm⟩ | ⟨hc1, hm⟩
    · refine G.offU rfl rfl (dec_t hc1) rfl ?_
      refine G.offU rfl rfl (dec_t hc1) rfl ?_
      refine G.yl (yl_pick_t rfl (dec_t hc1) rfl) rfl rfl rfl ?_
      refine G.yl (yl_move rfl) rfl rfl rfl ?_
      refine G.offU rfl rfl rfl rfl ?_
      refine G.offU rfl rfl rfl rfl ?_
      refine G.yl (yl_pick_t rfl rfl rfl) rfl rfl rfl ?_
      refine G.yl (yl_move rfl) rfl rfl rfl ?_
      refine G.offU rfl rfl rfl rfl ?_
      refine G.offU rfl rfl rfl rfl ?_
      refine G.offU rfl rfl rfl rfl ?_
      refine G.offU rfl rfl rfl rfl ?_
      refine G.yl (yl_pick_t rfl rfl rfl) rfl rfl rfl ?_
      refine G.yl (yl_move rfl) rfl rfl rfl ?_
      refine G.offU rfl rfl rfl rfl ?_
      refine G.offU rfl rfl rfl rfl ?_
      refine G.offU rfl rfl rfl rfl ?_
      refine G.offU rfl rfl rfl rfl ?_
      refine G.offU rfl rfl rfl rfl ?_
      refine G.offU rfl rfl rfl rfl ?_
      refine G.yl (yl_pick_t rfl rfl rfl) rfl rfl rfl ?_
      refine G.nil ?_
      exact QA.join true (Sub.of ⟨rfl, rfl, rfl, rfl, rfl, rfl, trivial⟩) ⟨hm, (Sat.pick [] h)⟩
    · refine G.on rfl rfl (dec_f hc1) ?_
      refine G.yl (yl_move rfl) rfl rfl rfl ?_
      refine G.on rfl rfl (dec_f hc1) ?_
      refine G.yl (yl_gtI rfl rfl) rfl rfl rfl ?_
      refine G.yl (yl_pick_f rfl (dec_f hc1) rfl) rfl rfl rfl ?_
      refine G.yl (yl_move rfl) rfl rfl rfl ?_
      rcases sp_ite hm with ⟨hc2, hm⟩ | ⟨hc2, hm⟩
      · refine G.offU rfl rfl (dec_t hc2) rfl ?_
        refine G.offU rfl rfl (dec_t hc2) rfl ?_
        refine G.yl (yl_pick_t rfl (dec_t hc2) rfl) rfl rfl rfl ?_
        refine G.yl (yl_move rfl) rfl rfl rfl ?_
        refine G.offU rfl rfl rfl rfl ?_
        refine G.offU rfl rfl rfl rfl ?_
        refine G.offU rfl rfl rfl rfl ?_
        refine G.offU rfl rfl rfl rfl ?_
        refine G.yl (yl_pick_t rfl rfl rfl) rfl rfl rfl ?_
        refine G.yl (yl_move rfl) rfl rfl rfl ?_
        refine G.offU rfl rfl rfl rfl ?_
        refine G.offU rfl rfl rfl rfl ?_
        refine G.offU rfl rfl rfl rfl ?_
        refine G.offU rfl rfl rfl rfl ?_
        refine G.offU rfl rfl rfl rfl ?_
        refine G.offU rfl rfl rfl rfl ?_
        refine G.yl (yl_pick_t rfl rfl rfl) rfl rfl rfl ?_
        refine G.nil ?_
        exact QA.join true (Sub.of ⟨rfl, rfl, rfl, rfl, rfl, rfl, trivial⟩) ⟨hm, (Sat.pick [] h)⟩
      · refine G.on rfl rfl (dec_f hc2) ?_
        refine G.yl (yl_move rfl) rfl rfl rfl ?_
        refine G.on rfl rfl (dec_f hc2) ?_
        refine G.yl (yl_ltI rfl rfl) rfl rfl rfl ?_
        refine G.yl (yl_pick_f rfl (dec_f hc2) rfl) rfl rfl rfl ?_
        refine G.yl (yl_move rfl) rfl rfl rfl ?_
        rcases sp_ite hm with ⟨hc3, hm⟩ | ⟨hc3, hm⟩
        · refine G.offU rfl rfl (dec_t hc3) rfl ?_
          refine G.offU rfl rfl (dec_t hc3) rfl ?_
          refine G.offU rfl rfl (dec_t hc3) rfl ?_
          refine G.offU rfl rfl (dec_t hc3) rfl ?_
          refine G.yl (yl_pick_t rfl (dec_t hc3) rfl) rfl rfl rfl ?_
          refine G.yl (yl_move rfl) rfl rfl rfl ?_
          refine G.offU rfl rfl rfl rfl ?_
          refine G.offU rfl rfl rfl rfl ?_
          refine G.offU rfl rfl rfl rfl ?_
          refine G.offU rfl rfl rfl rfl ?_
          refine G.offU rfl rfl rfl rfl ?_
          refine G.offU rfl rfl rfl rfl ?_
          refine G.yl (yl_pick_t rfl rfl rfl) rfl rfl rfl ?_
          refine G.nil ?_
          exact QA.join true (Sub.of ⟨rfl, rfl, rfl, rfl, rfl, rfl, trivial⟩) ⟨hm, (Sat.pick [] h)⟩
        · refine G.on rfl rfl (dec_f hc3) ?_
          refine G.yl (yl_move rfl) rfl rfl rfl ?_
          refine G.on rfl rfl (dec_f hc3) ?_
          refine G.yl (yl_move rfl) rfl rfl rfl ?_
          refine G.on rfl rfl (dec_f hc3) ?_
          refine G.yl (yl_lenE Try.underlying49 rfl) rfl rfl rfl ?_
          refine G.on rfl rfl (dec_f hc3) ?_
          refine G.yl (yl_gtI rfl rfl) rfl rfl rfl ?_
          refine G.yl (yl_pick_f rfl (dec_f hc3) rfl) rfl rfl rfl ?_
          refine G.yl (yl_move rfl) rfl rfl rfl ?_
          rcases sp_ite hm with ⟨hc4, hm⟩ | ⟨hc4, hm⟩
          · refine G.offU rfl rfl (dec_t hc4) rfl ?_
            refine G.offU rfl rfl (dec_t hc4) rfl ?_
            refine G.offU rfl rfl (dec_t hc4) rfl ?_
            refine G.offU rfl rfl (dec_t hc4) rfl ?_
            refine G.offU rfl rfl (dec_t hc4) rfl ?_
            refine G.offU rfl rfl (dec_t hc4) rfl ?_
            refine G.yl (yl_pick_t rfl (dec_t hc4) rfl) rfl rfl rfl ?_
            refine G.nil ?_
            exact QA.join true (Sub.of ⟨rfl, rfl, rfl, rfl, rfl, rfl, trivial⟩) ⟨hm, (Sat.pick [] h)⟩
          · refine G.on rfl rfl (dec_f hc4) ?_
            refine G.yl (yl_move rfl) rfl rfl rfl ?_
            refine G.on rfl rfl (dec_f hc4) ?_
            refine G.yl (yl_lenE Try.underlying49 rfl) rfl rfl rfl ?_
            refine G.on rfl rfl (dec_f hc4) ?_
            refine G.yl (yl_move rfl) rfl rfl rfl ?_
            refine G.on rfl rfl (dec_f hc4) ?_
            obtain ⟨hc5, hm⟩ := sp_chk hm
            refine G.yl (yl_subI rfl rfl hc5) rfl rfl rfl ?_
            refine G.on rfl rfl (dec_f hc4) ?_
            refine G.yl (yl_move rfl) rfl rfl rfl ?_
            refine G.on rfl rfl (dec_f hc4) ?_
            refine G.yl (yl_ltI rfl rfl) rfl rfl rfl ?_
            refine G.yl (yl_pick_f rfl (dec_f hc4) rfl) rfl rfl rfl ?_
            refine G.nil ?_
            exact QA.join (decide (((b.length : Int) - at_) < width)) (Sub.of ⟨rfl, rfl, rfl, rfl, rfl, rfl, trivial⟩) ⟨hm, (Sat.pick [] h)⟩
  · rintro t33 w6 ⟨hm, h7⟩
    show C _ _ _ [(0, (.slice a b.length c)), (1, (vI at_)), (2, (vI width)), (6, (.int .u64 0)), (7, (.bool false)), (33, (.bool t33))] _ _
    unfold M_signpostref01_Get_v_k1 at hm
    rcases sp_b hm with ⟨hc8, hm⟩ | ⟨hc8, hm⟩
    · refine C.cond_t rfl hc8 ?_
      refine C.seq ?_
      refine C.region ?_
      refine G.yl (yl_assign rfl) rfl rfl rfl ?_
      refine G.yl (yl_assign rfl) rfl rfl rfl ?_
      refine G.nil ?_
      refine QA.then_normal ?_
      refine C.ret ?_
      refine QA.then_ret ?_
      refine QA.ret2 rfl rfl rfl ?_
      obtain ⟨rfl, rfl⟩ := sp_ret2 hm
      exact ⟨rfl, (Sat.pick [] h7)⟩
    · refine C.cond_f rfl hc8 ?_
      refine C.skip ?_
      refine QA.then_normal ?_
      refine C.seq ?_
      refine C.region ?_
      refine G.yl (yl_assign rfl) rfl rfl rfl ?_
      refine G.nil ?_
      refine QA.then_normal ?_
      refine C.seq ?_
      refine C.seq ?_
      refine C.region ?_
      refine G.yl (yl_assign rfl) rfl rfl rfl ?_
      refine G.nil ?_
      refine QA.then_normal ?_
      refine C.block ?_
      obtain ⟨o, ho9, hm10⟩ := sp_bind hm
      refine C.left (γ := UInt64) (.exit 0) (fun g => match g with | n_2 => [(6, (.int .u64 0)), (7, (.bool false)), (8, (v64 n_2))]) (fun g ww => match g with | n_2 => n_2 = o ∧ Sat W ww []) ?_ ?_
      · refine C.loopO (γ := UInt64 × Int) (fun g => match g with | (n, i) => [(0, (.slice a b.length c)), (1, (vI at_)), (2, (vI width)), (6, (.int .u64 0)), (7, (.bool false)), (8, (v64 n)), (9, (vI i))]) (fun g ww => match g with | (n, i) => Sat W ww []) (fun g => match g with | (n, i) => (n, i)) (0, 0) ho9 (Sub.of ⟨rfl, rfl, rfl, rfl, rfl, rfl, rfl, trivial⟩) (Sat.pick [] h7) ?_
        rintro ⟨n, i⟩ k13 w11 y_ h12 hm hg14
        show C _ _ _ [(0, (.slice a b.length c)), (1, (vI at_)), (2, (vI width)), (6, (.int .u64 0)), (7, (.bool false)), (8, (v64 n)), (9, (vI i))] _ _
        change M_signpostref01_Get_v_b2 at_ b width n i = some y_ at hm
        unfold M_signpostref01_Get_v_b2 at hm
        refine C.seq ?_
        refine C.seq ?_
        refine C.region ?_
        refine G.yl (yl_move rfl) rfl rfl rfl ?_
        refine G.yl (yl_move rfl) rfl rfl rfl ?_
        refine G.yl (yl_ltI rfl rfl) rfl rfl rfl ?_
        refine G.nil ?_
        refine QA.then_normal ?_
        rcases sp_ite hm with ⟨hc15, hm⟩ | ⟨hc15, hm⟩
        · refine C.cond_t rfl (dec_t hc15) ?_
          refine C.skip ?_
          refine QA.then_normal ?_
          refine C.seq ?_
          refine C.block ?_
          refine C.region ?_
          refine G.yl (yl_move rfl) rfl rfl rfl ?_
          refine G.yl (yl_mul64 (b := 256) rfl rfl) rfl rfl rfl ?_
          refine G.yl (yl_move rfl) rfl rfl rfl ?_
          refine G.yl (yl_move rfl) rfl rfl rfl ?_
          refine G.yl (yl_move rfl) rfl rfl rfl ?_
          obtain ⟨hc16, hm⟩ := sp_chk hm
          refine G.yl (yl_addI rfl rfl hc16) rfl rfl rfl ?_
          obtain ⟨x, hy17, hm⟩ := sp_bind hm
          refine G.yl (yl_ixP (l := b) sl49 rfl rfl (View.isA (E := elU8) (hv_b.at_ h12) (by decide) (at?_lt hy17)) rfl (at?_lt hy17)) rfl rfl rfl ?_
          refine G.yl (yl_ld1 (E := elU8) (v := (v8 x)) ag5 rfl (hv_b.at_ h12) (at?_some hy17).2 rfl) rfl rfl rfl ?_
          refine G.yl (yl_8to64 us5 Try.underlying28 rfl) rfl rfl rfl ?_
          refine G.yl (yl_add64 rfl rfl) rfl rfl rfl ?_
          refine G.yl (yl_assign rfl) rfl rfl rfl ?_
          refine G.nil ?_
          refine QA.block_normal ?_
          refine QA.then_normal ?_
          refine C.region ?_
          refine G.yl (yl_move rfl) rfl rfl rfl ?_
          obtain ⟨hc18, hm⟩ := sp_chk hm
          refine G.yl (yl_addI rfl rfl hc18) rfl rfl rfl ?_
          refine G.yl (yl_assign rfl) rfl rfl rfl ?_
          refine G.nil ?_
          obtain rfl := sp_ret1 hm
          exact QA.againO ((n * 256) + x.toUInt64, i + 1) hg14 (Sub.of ⟨rfl, rfl, rfl, rfl, rfl, rfl, rfl, trivial⟩) (Sat.pick [] h12)
        · refine C.cond_f rfl (dec_f hc15) ?_
          refine C.exit ?_
          refine QA.then_exit ?_
          refine QA.then_exit ?_
          obtain rfl := sp_ret1 hm
          exact QA.left n (Sub.of ⟨rfl, rfl, rfl, trivial⟩) ⟨hg14, (Sat.pick [] h12)⟩
      · rintro n_2 w19 ⟨rfl, h20⟩
        have hm := hm10
        show QA _ _ [(6, (.int .u64 0)), (7, (.bool false)), (8, (v64 n_2))] _ _
        refine QA.block_here ?_
        refine QA.then_normal ?_
        refine C.seq ?_
        refine C.region ?_
        refine G.yl (yl_move rfl) rfl rfl rfl ?_
        refine G.yl (yl_assign rfl) rfl rfl rfl ?_
        refine G.yl (yl_assign rfl) rfl rfl rfl ?_
        refine G.nil ?_
        refine QA.then_normal ?_
        refine C.ret ?_
        refine QA.ret2 rfl rfl rfl ?_
        obtain ⟨rfl, rfl⟩ := sp_ret2 hm
        exact ⟨rfl, (Sat.pick [] h20)⟩
set_option maxRecDepth 20000 in
set_option maxHeartbeats 1000000 in
theorem M_signpostref01_Reader_Num_pv_w {W : Base} {w : World} {b : Nat} {a : Option Addr} {c : Nat} {B : List UInt8} {At : Int} {Bad : Bool} {width : Int} (hv27 : V W a (elU8.row B)) (hq28 : B.length ≤ c) (h : Sat W w [blk b [(.slice a B.length c), (vI At), (.bool Bad)] 97]) {r1 : UInt64} {r2 : Int} {r3 : Bool} (hm : M_signpostref01_Reader_Num_pv B At Bad width = some (r1, r2, r3)) :
    Calls Try.prog 114 #[(.pointer (some ⟨b, 0, none⟩)), (vI width)] w (Ret fun v w' => v = (v64 r1) ∧ Sat W w' [blk b [(.slice a B.length c), (vI r2), (.bool r3)] 97]) := by
  unfold M_signpostref01_Reader_Num_pv at hm
  refine C.enter (N := 40) Try.func114 rfl Try.ntmps114 rfl ?_
  show C _ _ _ [(0, (.pointer (some ⟨b, 0, none⟩))), (1, (vI width))] _ _
  refine C.seq ?_
  refine C.region ?_
  refine G.yl (yl_assign rfl) rfl rfl rfl ?_
  refine G.nil ?_
  refine QA.then_normal ?_
  refine C.seq ?_
  refine C.draw (V := fun w' => View w' (some ⟨b, 0, none⟩) [(.slice a B.length c), (vI At), (.bool Bad)]) (nd := [3, 7]) (sp := []) (n := 15) rfl h rfl rfl ?_
  intro w1 h2
  have hS3 : Cls (fun w' => View w' (some ⟨b, 0, none⟩) [(.slice a B.length c), (vI At), (.bool Bad)]) [3, 7] [] #[false, false, false, false, false, false, false, false, false, false, false, false, false, false, false] w1 := Cls.keep (h2.isBlk.view0) (by kernel_rfl)
  refine GH.yl (i := 0) (listed' := #[true, false, false, false, false, false, false, false, false, false, false, false, false, false, false]) rfl (by kernel_rfl) rfl (NP.next NP.body) rfl rfl rfl (fun w' => yl_move rfl) hS3 (fun hS4 => ?_)
  refine GH.yl (i := 1) (listed' := #[true, true, false, false, false, false, false, false, false, false, false, false, false, false, false]) rfl (by kernel_rfl) rfl (NP.next NP.body) rfl rfl rfl (fun w' => yl_nilCheck rfl) hS4 (fun hS5 => ?_)
  refine GH.yl (i := 2) (listed' := #[true, true, true, false, false, false, false, false, false, false, false, false, false, false, false]) rfl (by kernel_rfl) rfl (NP.next NP.body) rfl rfl rfl (fun w' => yl_fieldAddr fo97_0 rfl) hS5 (fun hS6 => ?_)
  refine GH.yr (i := 3) (listed' := #[true, true, true, true, false, false, false, false, false, false, false, false, false, false, false]) rfl (by kernel_rfl) rfl rfl (NP.next NP.body) rfl rfl rfl (fun w' hw' => yl_load (v := (.slice a B.length c)) ag49 rfl (View.at0 (j := 0) hw' rfl)) hS6 (fun hS7 => ?_)
  refine GH.yl (i := 4) (listed' := #[true, true, true, true, true, false, false, false, false, false, false, false, false, false, false]) rfl (by kernel_rfl) rfl (NP.next NP.body) rfl rfl rfl (fun w' => yl_move rfl) hS7 (fun hS8 => ?_)
  refine GH.yl (i := 5) (listed' := #[true, true, true, true, true, true, false, false, false, false, false, false, false, false, false]) rfl (by kernel_rfl) rfl (NP.next NP.body) rfl rfl rfl (fun w' => yl_nilCheck rfl) hS8 (fun hS9 => ?_)
  refine GH.yl (i := 6) (listed' := #[true, true, true, true, true, true, true, false, false, false, false, false, false, false, false]) rfl (by kernel_rfl) rfl (NP.next NP.body) rfl rfl rfl (fun w' => yl_fieldAddr fo97_1 rfl) hS9 (fun hS10 => ?_)
  refine GH.yr (i := 7) (listed' := #[true, true, true, true, true, true, true, true, false, false, false, false, false, false, false]) rfl (by kernel_rfl) rfl rfl (NP.next NP.body) rfl rfl rfl (fun w' hw' => yl_load (v := (vI At)) ag3 rfl (View.at0 (j := 1) hw' rfl)) hS10 (fun hS11 => ?_)
  refine GH.yl (i := 8) (listed' := #[true, true, true, true, true, true, true, true, true, false, false, false, false, false, false]) rfl (by kernel_rfl) rfl (NP.next NP.body) rfl rfl rfl (fun w' => yl_move rfl) hS11 (fun hS12 => ?_)
  obtain ⟨⟨r1_2, r2_2⟩, hy13, hm⟩ := sp_bind hm
  refine GH.does (i := 9) (listed' := #[true, true, true, true, true, true, true, true, true, true, false, false, false, false, false]) rfl (by kernel_rfl) rfl rfl rfl rfl (does_fn 0 rfl rfl rfl en147 h2 (fun U hU hp hr hs => M_signpostref01_Get_v_w (b := B) (at_ := At) (width := width) (hs.v hv27) hq28 hp hy13)) ?_
  rintro _ w14 ⟨U17, hb18, rfl, h16⟩
  have h15 : Sat W w14 [blk b [(.slice a B.length c), (vI At), (.bool Bad)] 97] := hb18 h16
  have hS19 : Cls (fun w' => View w' (some ⟨b, 0, none⟩) [(.slice a B.length c), (vI At), (.bool Bad)]) [3, 7] [] #[true, true, true, true, true, true, true, true, true, true, false, false, false, false, false] w14 := Cls.keep (h15.isBlk.view0) (by kernel_rfl)
  refine ⟨hS19, ?_⟩
  refine GH.yl (i := 10) (listed' := #[true, true, true, true, true, true, true, true, true, true, true, false, false, false, false]) rfl (by kernel_rfl) rfl (NP.next NP.body) rfl rfl rfl (fun w' => yl_move rfl) hS19 (fun hS20 => ?_)
  refine GH.yl (i := 11) (listed' := #[true, true, true, true, true, true, true, true, true, true, true, true, false, false, false]) rfl (by kernel_rfl) rfl (NP.next NP.body) rfl rfl rfl (fun w' => yl_extract rfl rfl) hS20 (fun hS21 => ?_)
  refine GH.yl (i := 12) (listed' := #[true, true, true, true, true, true, true, true, true, true, true, true, true, false, false]) rfl (by kernel_rfl) rfl (NP.next NP.body) rfl rfl rfl (fun w' => yl_extract rfl rfl) hS21 (fun hS22 => ?_)
  refine GH.yl (i := 13) (listed' := #[true, true, true, true, true, true, true, true, true, true, true, true, true, true, false]) rfl (by kernel_rfl) rfl (NP.next NP.body) rfl rfl rfl (fun w' => yl_assign rfl) hS22 (fun hS23 => ?_)
  refine GH.yl (i := 14) (listed' := #[true, true, true, true, true, true, true, true, true, true, true, true, true, true, true]) rfl (by kernel_rfl) rfl (NP.next NP.body) rfl rfl rfl (fun w' => yl_assign rfl) hS23 (fun hS24 => ?_)
  refine GH.done (by kernel_rfl) ?_
  refine QA.then_normal ?_
  refine C.seq ?_
  refine C.join (γ := Bool) (fun g => match g with | t27 => [(0, (.pointer (some ⟨b, 0, none⟩))), (1, (vI width)), (4, (.int .u64 0)), (5, (v64 r1_2)), (27, (.bool t27))]) (fun g ww => match g with | t27 => (M_signpostref01_Reader_Num_pv_k1 At B Bad r1_2 width t27 = some (r1, r2, r3)) ∧ Sat W ww [blk b [(.slice a B.length c), (vI At), (.bool Bad)] 97]) ?_ ?_
  · refine C.region ?_
    refine G.yl (yl_move rfl) rfl rfl rfl ?_
    refine G.yl (yl_nilCheck rfl) rfl rfl rfl ?_
    refine G.yl (yl_fieldAddr fo97_2 rfl) rfl rfl rfl ?_
    refine G.yl (yl_load (v := (.bool Bad)) ag4 rfl (View.at0 (j := 2) h15.isBlk.view0 rfl)) rfl rfl rfl ?_
    refine G.yl (yl_move rfl) rfl rfl rfl ?_
    rcases sp_b hm with ⟨hc25, hm⟩ | ⟨hc25, hm⟩
    · refine G.offU rfl rfl hc25 rfl ?_
      refine G.offU rfl rfl hc25 rfl ?_
      refine G.yl (yl_pick_t rfl hc25 rfl) rfl rfl rfl ?_
      refine G.nil ?_
      exact QA.join true (Sub.of ⟨rfl, rfl, rfl, rfl, rfl, trivial⟩) ⟨hm, (Sat.pick [0] h15)⟩
    · refine G.on rfl rfl hc25 ?_
      refine G.yl (yl_move rfl) rfl rfl rfl ?_
      refine G.on rfl rfl hc25 ?_
      refine G.yl (yl_not rfl) rfl rfl rfl ?_
      refine G.yl (yl_pick_f rfl hc25 rfl) rfl rfl rfl ?_
      refine G.nil ?_
      exact QA.join (!r2_2) (Sub.of ⟨rfl, rfl, rfl, rfl, rfl, trivial⟩) ⟨hm, (Sat.pick [0] h15)⟩
  · rintro t27 w26 ⟨hm, h27⟩
    show C _ _ _ [(0, (.pointer (some ⟨b, 0, none⟩))), (1, (vI width)), (4, (.int .u64 0)), (5, (v64 r1_2)), (27, (.bool t27))] _ _
    unfold M_signpostref01_Reader_Num_pv_k1 at hm
    rcases sp_b hm with ⟨hc28, hm⟩ | ⟨hc28, hm⟩
    · refine C.cond_t rfl hc28 ?_
      refine C.seq ?_
      refine C.region ?_
      refine G.yl (yl_move rfl) rfl rfl rfl ?_
      obtain ⟨_, hy31, hm⟩ := sp_bind hm
      refine G.does (does_fn 1 rfl rfl rfl en146 (Sat.pick [0] h27) (fun U hU hp hr hs => M_signpostref01_Reader_fail_pv_w (B := B) (At := At) (Bad := Bad) (hs.v hv27) hq28 hp hy31)) rfl rfl rfl ?_
      rintro _ w32 ⟨U35, hb36, rfl, h34⟩
      have h33 : Sat W w32 [blk b [(.slice a B.length c), (vI (B.length : Int)), (.bool true)] 97] := hb36 h34
      refine G.nil ?_
      refine QA.then_normal ?_
      refine C.seq ?_
      refine C.region ?_
      refine G.yl (yl_assign rfl) rfl rfl rfl ?_
      refine G.nil ?_
      refine QA.then_normal ?_
      refine C.ret ?_
      refine QA.then_ret ?_
      refine QA.ret1 rfl rfl ?_
      obtain ⟨rfl, rfl, rfl⟩ := sp_ret3 hm
      exact ⟨rfl, (Sat.pick [0] h33)⟩
    · refine C.cond_f rfl hc28 ?_
      refine C.skip ?_
      refine QA.then_normal ?_
      refine C.seq ?_
      refine C.region ?_
      refine G.yl (yl_move rfl) rfl rfl rfl ?_
      refine G.yl (yl_move rfl) rfl rfl rfl ?_
      refine G.yl (yl_nilCheck rfl) rfl rfl rfl ?_
      refine G.yl (yl_fieldAddr fo97_1 rfl) rfl rfl rfl ?_
      refine G.yl (yl_load (v := (vI At)) ag3 rfl (View.at0 (j := 1) h27.isBlk.view0 rfl)) rfl rfl rfl ?_
      refine G.yl (yl_move rfl) rfl rfl rfl ?_
      obtain ⟨hc37, hm⟩ := sp_chk hm
      refine G.yl (yl_addI rfl rfl hc37) rfl rfl rfl ?_
      refine G.yl (yl_nilCheck rfl) rfl rfl rfl ?_
      refine G.yl (yl_fieldAddr fo97_1 rfl) rfl rfl rfl ?_
      refine G.unit (does_store (vs := [(vI (At + width))]) h27 sz3 rfl rfl rfl rfl (List.forall_mem_cons.2 ⟨rfl, (fun _ hh => by cases hh)⟩) (Nat.le_of_ble_eq_true rfl)) rfl rfl ?_
      rintro _ w38 h40
      have h39 : Sat W w38 [blk b [(.slice a B.length c), (vI (At + width)), (.bool Bad)] 97] := h40
      refine G.nil ?_
      refine QA.then_normal ?_
      refine C.seq ?_
      refine C.region ?_
      refine G.yl (yl_move rfl) rfl rfl rfl ?_
      refine G.yl (yl_assign rfl) rfl rfl rfl ?_
      refine G.nil ?_
      refine QA.then_normal ?_
      refine C.ret ?_
      refine QA.ret1 rfl rfl ?_
      obtain ⟨rfl, rfl, rfl⟩ := sp_ret3 hm
      exact ⟨rfl, (Sat.pick [0] h39)⟩
set_option maxRecDepth 20000 in
set_option maxHeartbeats 1000000 in
theorem M_signpostref01_Reader_Text_pv_w {W : Base} {w : World} {b : Nat} {a : Option Addr} {c : Nat} {B : List UInt8} {At : Int} {Bad : Bool} {most : Int} (hv105 : V W a (elU8.row B)) (hq106 : B.length ≤ c) (h : Sat W w [blk b [(.slice a B.length c), (vI At), (.bool Bad)] 97]) {r1 : List UInt8} {r2 : Int} {r3 : Bool} (hm : M_signpostref01_Reader_Text_pv B At Bad most = some (r1, r2, r3)) :
    Calls Try.prog 115 #[(.pointer (some ⟨b, 0, none⟩)), (vI most)] w (Ret fun v w' => v = (.string (str r1)) ∧ Sat W w' [blk b [(.slice a B.length c), (vI r2), (.bool r3)] 97]) := by
  unfold M_signpostref01_Reader_Text_pv at hm
  refine C.enter (N := 28) Try.func115 rfl Try.ntmps115 rfl ?_
  show C _ _ _ [(0, (.pointer (some ⟨b, 0, none⟩))), (1, (vI most))] _ _
  refine C.seq ?_
  refine C.region ?_
  refine G.yl (yl_assign rfl) rfl rfl rfl ?_
  refine G.nil ?_
  refine QA.then_normal ?_
  refine C.seq ?_
  refine C.region ?_
  refine G.yl (yl_move rfl) rfl rfl rfl ?_
  obtain ⟨⟨r1_2, r2_2, r3_2⟩, hy3, hm⟩ := sp_bind hm
  refine G.does (does_fn 1 rfl rfl rfl en114 (Sat.pick [0] h) (fun U hU hp hr hs => M_signpostref01_Reader_Num_pv_w (B := B) (At := At) (Bad := Bad) (width := 2) (hs.v hv105) hq106 hp hy3)) rfl rfl rfl ?_
  rintro _ w4 ⟨U7, hb8, rfl, h6⟩
  have h5 : Sat W w4 [blk b [(.slice a B.length c), (vI r2_2), (.bool r3_2)] 97] := hb8 h6
  obtain ⟨hc9, hm⟩ := sp_chk hm
  refine G.yl (yl_64I us28 Try.underlying3 rfl hc9) rfl rfl rfl ?_
  refine G.yl (yl_assign rfl) rfl rfl rfl ?_
  refine G.nil ?_
  refine QA.then_normal ?_
  refine C.seq ?_
  refine C.join (γ := Bool) (fun g => match g with | t21 => [(0, (.pointer (some ⟨b, 0, none⟩))), (4, (.string (str ([] : List UInt8)))), (5, (vI (r1_2.toNat : Int))), (21, (.bool t21))]) (fun g ww => match g with | t21 => (M_signpostref01_Reader_Text_pv_k1 B r1_2 r2_2 r3_2 t21 = some (r1, r2, r3)) ∧ Sat W ww [blk b [(.slice a B.length c), (vI r2_2), (.bool r3_2)] 97]) ?_ ?_
  · refine C.region ?_
    refine G.yl (yl_move rfl) rfl rfl rfl ?_
    refine G.yl (yl_nilCheck rfl) rfl rfl rfl ?_
    refine G.yl (yl_fieldAddr fo97_2 rfl) rfl rfl rfl ?_
    refine G.yl (yl_load (v := (.bool r3_2)) ag4 rfl (View.at0 (j := 2) h5.isBlk.view0 rfl)) rfl rfl rfl ?_
    refine G.yl (yl_move rfl) rfl rfl rfl ?_
    rcases sp_b hm with ⟨hc10, hm⟩ | ⟨hc10, hm⟩
    · refine G.offU rfl rfl hc10 rfl ?_
      refine G.offU rfl rfl hc10 rfl ?_
      refine G.offU rfl rfl hc10 rfl ?_
      refine G.yl (yl_pick_t rfl hc10 rfl) rfl rfl rfl ?_
      refine G.yl (yl_move rfl) rfl rfl rfl ?_
      refine G.offU rfl rfl rfl rfl ?_
      refine G.offU rfl rfl rfl rfl ?_
      refine G.yl (yl_pick_t rfl rfl rfl) rfl rfl rfl ?_
      refine G.nil ?_
      exact QA.join true (Sub.of ⟨rfl, rfl, rfl, rfl, trivial⟩) ⟨hm, (Sat.pick [0] h5)⟩
    · refine G.on rfl rfl hc10 ?_
      refine G.yl (yl_move rfl) rfl rfl rfl ?_
      refine G.on rfl rfl hc10 ?_
      refine G.yl (yl_move rfl) rfl rfl rfl ?_
      refine G.on rfl rfl hc10 ?_
      refine G.yl (yl_gtI rfl rfl) rfl rfl rfl ?_
      refine G.yl (yl_pick_f rfl hc10 rfl) rfl rfl rfl ?_
      refine G.yl (yl_move rfl) rfl rfl rfl ?_
      rcases sp_ite hm with ⟨hc11, hm⟩ | ⟨hc11, hm⟩
      · refine G.offU rfl rfl (dec_t hc11) rfl ?_
        refine G.offU rfl rfl (dec_t hc11) rfl ?_
        refine G.yl (yl_pick_t rfl (dec_t hc11) rfl) rfl rfl rfl ?_
        refine G.nil ?_
        exact QA.join true (Sub.of ⟨rfl, rfl, rfl, rfl, trivial⟩) ⟨hm, (Sat.pick [0] h5)⟩
      · refine G.on rfl rfl (dec_f hc11) ?_
        refine G.yl (yl_move rfl) rfl rfl rfl ?_
        refine G.on rfl rfl (dec_f hc11) ?_
        refine G.yl (yl_gtI rfl rfl) rfl rfl rfl ?_
        refine G.yl (yl_pick_f rfl (dec_f hc11) rfl) rfl rfl rfl ?_
        refine G.nil ?_
        exact QA.join (decide ((1024 : Int) < (r1_2.toNat : Int))) (Sub.of ⟨rfl, rfl, rfl, rfl, trivial⟩) ⟨hm, (Sat.pick [0] h5)⟩
  · rintro t21 w12 ⟨hm, h13⟩
    show C _ _ _ [(0, (.pointer (some ⟨b, 0, none⟩))), (4, (.string (str ([] : List UInt8)))), (5, (vI (r1_2.toNat : Int))), (21, (.bool t21))] _ _
    unfold M_signpostref01_Reader_Text_pv_k1 at hm
    rcases sp_b hm with ⟨hc14, hm⟩ | ⟨hc14, hm⟩
    · refine C.cond_t rfl hc14 ?_
      refine C.seq ?_
      refine C.region ?_
      refine G.yl (yl_move rfl) rfl rfl rfl ?_
      obtain ⟨_, hy17, hm⟩ := sp_bind hm
      refine G.does (does_fn 1 rfl rfl rfl en146 (Sat.pick [0] h13) (fun U hU hp hr hs => M_signpostref01_Reader_fail_pv_w (B := B) (At := r2_2) (Bad := r3_2) (hs.v hv105) hq106 hp hy17)) rfl rfl rfl ?_
      rintro _ w18 ⟨U21, hb22, rfl, h20⟩
      have h19 : Sat W w18 [blk b [(.slice a B.length c), (vI (B.length : Int)), (.bool true)] 97] := hb22 h20
      refine G.nil ?_
      refine QA.then_normal ?_
      refine C.seq ?_
      refine C.region ?_
      refine G.yl (yl_assign rfl) rfl rfl rfl ?_
      refine G.nil ?_
      refine QA.then_normal ?_
      refine C.ret ?_
      refine QA.then_ret ?_
      refine QA.ret1 rfl rfl ?_
      obtain ⟨rfl, rfl, rfl⟩ := sp_ret3 hm
      exact ⟨rfl, (Sat.pick [0] h19)⟩
    · refine C.cond_f rfl hc14 ?_
      refine C.skip ?_
      refine QA.then_normal ?_
      refine C.seq ?_
      refine C.region ?_
      refine G.yl (yl_move rfl) rfl rfl rfl ?_
      refine G.yl (yl_move rfl) rfl rfl rfl ?_
      obtain ⟨⟨r3_3, r4_2, r5_2⟩, hy25, hm⟩ := sp_bind hm
      refine G.does (does_fn 1 rfl rfl rfl en113 (Sat.pick [0] h13) (fun U hU hp hr hs => M_signpostref01_Reader_Take_pv_w (B := B) (At := r2_2) (Bad := r3_2) (n := (r1_2.toNat : Int)) (hs.v hv105) hq106 hp hy25)) rfl rfl rfl ?_
      rintro _ w28 ⟨U31, hb32, r126, r227, rfl, h30⟩
      have h29 : Sat W w28 [ow elU8 r126 r227 5 r3_3, blk b [(.slice a B.length c), (vI r4_2), (.bool r5_2)] 97] := hb32 h30
      refine G.yl (yl_strE Try.underlying49 Try.underlying5 Try.underlying9 rfl rfl (Sat.own_view h29)) rfl rfl rfl ?_
      refine G.yl (yl_assign rfl) rfl rfl rfl ?_
      refine G.nil ?_
      refine QA.then_normal ?_
      refine C.ret ?_
      refine QA.ret1 rfl rfl ?_
      obtain ⟨rfl, rfl, rfl⟩ := sp_ret3 hm
      exact ⟨rfl, (Sat.pick [1] h29)⟩
set_option maxRecDepth 20000 in
set_option maxHeartbeats 1000000 in
theorem M_signpostref09_Parts_w {W : Base} {w : World} {s : List UInt8}  (h : Sat W w []) {r3 : List (List UInt8)} (hm : M_signpostref09_Parts s = some r3) :
    Calls Try.prog 136 #[(.string (str s))] w (Ret fun v w' => ∃ r1 : Option Addr, ∃ r2 : Nat, v = (.slice r1 r3.length r2) ∧ Sat W w' [ow elStr r1 r2 9 r3]) := by
  unfold M_signpostref09_Parts at hm
  refine C.enter (N := 32) Try.func136 rfl Try.ntmps136 rfl ?_
  show C _ _ _ [(0, (.string (str s)))] _ _
  refine C.seq ?_
  refine C.region ?_
  refine G.yl (yl_assign rfl) rfl rfl rfl ?_
  refine G.nil ?_
  refine QA.then_normal ?_
  refine C.seq ?_
  refine C.region ?_
  refine G.yl (yl_assign rfl) rfl rfl rfl ?_
  refine G.nil ?_
  refine QA.then_normal ?_
  refine C.seq ?_
  refine C.region ?_
  refine G.yl (yl_assign rfl) rfl rfl rfl ?_
  refine G.nil ?_
  refine QA.then_normal ?_
  refine C.seq ?_
  refine C.seq ?_
  refine C.region ?_
  refine G.yl (yl_assign rfl) rfl rfl rfl ?_
  refine G.nil ?_
  refine QA.then_normal ?_
  refine C.block ?_
  obtain ⟨o, ho1, hm2⟩ := sp_bind hm
  refine C.left (γ := Option Addr × Nat × List (List UInt8)) (.exit 0) (fun g => match g with | (a_2, c_2, out_2) => [(2, (.slice none 0 0)), (3, (.slice a_2 out_2.length c_2))]) (fun g ww => match g with | (a_2, c_2, out_2) => out_2 = o ∧ Sat W ww [ow elStr a_2 c_2 9 out_2]) ?_ ?_
  · refine C.loopO (γ := Option Addr × Nat × List (List UInt8) × Int × Int) (fun g => match g with | (a, c, out, from_, i) => [(0, (.string (str s))), (2, (.slice none 0 0)), (3, (.slice a out.length c)), (4, (vI from_)), (5, (vI i))]) (fun g ww => match g with | (a, c, out, from_, i) => Sat W ww [ow elStr a c 9 out]) (fun g => match g with | (a, c, out, from_, i) => (out, from_, i)) (none, 0, ([] : List (List UInt8)), 0, 0) ho1 (Sub.of ⟨rfl, rfl, rfl, rfl, rfl, trivial⟩) (Sat.pick [0] (Sat.own_zero h elStr none 9)) ?_
    rintro ⟨a, c, out, from_, i⟩ k5 w3 y_ h4 hm hg6
    show C _ _ _ [(0, (.string (str s))), (2, (.slice none 0 0)), (3, (.slice a out.length c)), (4, (vI from_)), (5, (vI i))] _ _
    change M_signpostref09_Parts_b1 s out from_ i = some y_ at hm
    unfold M_signpostref09_Parts_b1 at hm
    refine C.seq ?_
    refine C.seq ?_
    refine C.region ?_
    refine G.yl (yl_move rfl) rfl rfl rfl ?_
    refine G.yl (yl_move rfl) rfl rfl rfl ?_
    refine G.yl (yl_slenE Try.underlying9 rfl) rfl rfl rfl ?_
    refine G.yl (yl_leI rfl rfl) rfl rfl rfl ?_
    refine G.nil ?_
    refine QA.then_normal ?_
    rcases sp_ite hm with ⟨hc7, hm⟩ | ⟨hc7, hm⟩
    · refine C.cond_t rfl (dec_t hc7) ?_
      refine C.skip ?_
      refine QA.then_normal ?_
      refine C.seq ?_
      refine C.block ?_
      refine C.join (γ := Bool) (fun g => match g with | t21 => [(0, (.string (str s))), (2, (.slice none 0 0)), (3, (.slice a out.length c)), (4, (vI from_)), (5, (vI i)), (21, (.bool t21))]) (fun g ww => match g with | t21 => (M_signpostref09_Parts_k2 from_ i out s t21 = some y_) ∧ Sat W ww [ow elStr a c 9 out]) ?_ ?_
      · refine C.region ?_
        refine G.yl (yl_move rfl) rfl rfl rfl ?_
        refine G.yl (yl_move rfl) rfl rfl rfl ?_
        refine G.yl (yl_slenE Try.underlying9 rfl) rfl rfl rfl ?_
        refine G.yl (yl_eqI rfl rfl) rfl rfl rfl ?_
        refine G.yl (yl_move rfl) rfl rfl rfl ?_
        rcases sp_ite hm with ⟨hc8, hm⟩ | ⟨hc8, hm⟩
        · refine G.offU rfl rfl (dec_t hc8) rfl ?_
          refine G.offU rfl rfl (dec_t hc8) rfl ?_
          refine G.offU rfl rfl (dec_t hc8) rfl ?_
          refine G.offU rfl rfl (dec_t hc8) rfl ?_
          refine G.yl (yl_pick_t rfl (dec_t hc8) rfl) rfl rfl rfl ?_
          refine G.nil ?_
          exact QA.join true (Sub.of ⟨rfl, rfl, rfl, rfl, rfl, rfl, trivial⟩) ⟨hm, (Sat.pick [0] h4)⟩
        · refine G.on rfl rfl (dec_f hc8) ?_
          refine G.yl (yl_move rfl) rfl rfl rfl ?_
          refine G.on rfl rfl (dec_f hc8) ?_
          refine G.yl (yl_move rfl) rfl rfl rfl ?_
          refine G.on rfl rfl (dec_f hc8) ?_
          obtain ⟨c_3, hy9, hm⟩ := sp_bind hm
          refine G.yl (yl_ixS Try.underlying9 rfl rfl hy9) rfl rfl rfl ?_
          refine G.on rfl rfl (dec_f hc8) ?_
          refine G.yl (yl_eq8 (b := 46) rfl rfl) rfl rfl rfl ?_
          refine G.yl (yl_pick_f rfl (dec_f hc8) rfl) rfl rfl rfl ?_
          refine G.nil ?_
          exact QA.join (decide (c_3 = 46)) (Sub.of ⟨rfl, rfl, rfl, rfl, rfl, rfl, trivial⟩) ⟨hm, (Sat.pick [0] h4)⟩
      · rintro t21 w10 ⟨hm, h11⟩
        show C _ _ _ [(0, (.string (str s))), (2, (.slice none 0 0)), (3, (.slice a out.length c)), (4, (vI from_)), (5, (vI i)), (21, (.bool t21))] _ _
        unfold M_signpostref09_Parts_k2 at hm
        rcases sp_b hm with ⟨hc12, hm⟩ | ⟨hc12, hm⟩
        · refine C.cond_t rfl hc12 ?_
          refine C.seq ?_
          refine C.region ?_
          refine G.yl (yl_move rfl) rfl rfl rfl ?_
          refine G.yl (yl_move rfl) rfl rfl rfl ?_
          refine G.yl (yl_move rfl) rfl rfl rfl ?_
          refine G.yl (yl_move rfl) rfl rfl rfl ?_
          obtain ⟨hc13, hm⟩ := sp_chk hm
          refine G.yl (yl_slLHS Try.underlying9 rfl rfl rfl hc13) rfl rfl rfl ?_
          refine G.does (does_lit (E := elStr) (l := [(s.take i.toNat).drop from_.toNat]) (vs := [(.string (str ((s.take i.toNat).drop from_.toNat)))]) (cs := [(.string (str ((s.take i.toNat).drop from_.toNat)))]) (e := 9) h11 rfl (by kernel_rfl) rfl rfl (by decide)) rfl rfl rfl ?_
          rintro _ w15 ⟨a14, rfl, h16⟩
          obtain ⟨hc17, hm⟩ := sp_chk hm
          refine G.does (does_app (E := elStr) (l := out) (l2 := [(s.take i.toNat).drop from_.toNat]) Try.underlying106 el9 (Sat.pick [1, 0] h16) rfl rfl rfl rfl (by decide) (Sat.own_view h16) hc17 (by decide)) rfl rfl rfl ?_
          rintro _ w20 ⟨a18, c19, rfl, h21⟩
          refine G.yl (yl_assign rfl) rfl rfl rfl ?_
          refine G.nil ?_
          refine QA.then_normal ?_
          refine C.region ?_
          refine G.yl (yl_move rfl) rfl rfl rfl ?_
          obtain ⟨hc22, hm⟩ := sp_chk hm
          refine G.yl (yl_addI rfl rfl hc22) rfl rfl rfl ?_
          refine G.yl (yl_assign rfl) rfl rfl rfl ?_
          refine G.nil ?_
          refine QA.block_normal ?_
          refine QA.then_normal ?_
          refine C.region ?_
          refine G.yl (yl_move rfl) rfl rfl rfl ?_
          obtain ⟨hc23, hm⟩ := sp_chk hm
          refine G.yl (yl_addI rfl rfl hc23) rfl rfl rfl ?_
          refine G.yl (yl_assign rfl) rfl rfl rfl ?_
          refine G.nil ?_
          obtain rfl := sp_ret1 hm
          exact QA.againO (a18, c19, out ++ [(s.take i.toNat).drop from_.toNat], i + 1, i + 1) hg6 (Sub.of ⟨rfl, rfl, rfl, rfl, rfl, trivial⟩) (Sat.pick [0] h21)
        · refine C.cond_f rfl hc12 ?_
          refine C.skip ?_
          refine QA.block_normal ?_
          refine QA.then_normal ?_
          refine C.region ?_
          refine G.yl (yl_move rfl) rfl rfl rfl ?_
          obtain ⟨hc24, hm⟩ := sp_chk hm
          refine G.yl (yl_addI rfl rfl hc24) rfl rfl rfl ?_
          refine G.yl (yl_assign rfl) rfl rfl rfl ?_
          refine G.nil ?_
          obtain rfl := sp_ret1 hm
          exact QA.againO (a, c, out, from_, i + 1) hg6 (Sub.of ⟨rfl, rfl, rfl, rfl, rfl, trivial⟩) (Sat.pick [0] h11)
    · refine C.cond_f rfl (dec_f hc7) ?_
      refine C.exit ?_
      refine QA.then_exit ?_
      refine QA.then_exit ?_
      obtain rfl := sp_ret1 hm
      exact QA.left (a, c, out) (Sub.of ⟨rfl, rfl, trivial⟩) ⟨hg6, (Sat.pick [0] h4)⟩
  · rintro ⟨a_2, c_2, out_2⟩ w25 ⟨rfl, h26⟩
    have hm := hm2
    show QA _ _ [(2, (.slice none 0 0)), (3, (.slice a_2 out_2.length c_2))] _ _
    refine QA.block_here ?_
    refine QA.then_normal ?_
    refine C.seq ?_
    refine C.region ?_
    refine G.yl (yl_move rfl) rfl rfl rfl ?_
    refine G.yl (yl_assign rfl) rfl rfl rfl ?_
    refine G.nil ?_
    refine QA.then_normal ?_
    refine C.ret ?_
    refine QA.ret1 rfl rfl ?_
    obtain rfl := sp_ret1 hm
    exact ⟨a_2, c_2, rfl, (Sat.pick [0] h26)⟩
set_option maxRecDepth 20000 in
set_option maxHeartbeats 1000000 in
theorem M_signpostref09_letter_w {W : Base} {w : World} {b : UInt8}  (h : Sat W w []) {r1 : Bool} (hm : M_signpostref09_letter b = some r1) :
    Calls Try.prog 159 #[(v8 b)] w (Ret fun v w' => v = (.bool r1) ∧ Sat W w' []) := by
  unfold M_signpostref09_letter at hm
  refine C.enter (N := 17) Try.func159 rfl Try.ntmps159 rfl ?_
  show C _ _ _ [(0, (v8 b))] _ _
  refine C.seq ?_
  refine C.region ?_
  refine G.yl (yl_assign rfl) rfl rfl rfl ?_
  refine G.nil ?_
  refine QA.then_normal ?_
  refine C.seq ?_
  refine C.region ?_
  refine G.yl (yl_move rfl) rfl rfl rfl ?_
  refine G.yl (yl_ge8 (b := 97) rfl rfl) rfl rfl rfl ?_
  refine G.yl (yl_move rfl) rfl rfl rfl ?_
  rcases sp_ite hm with ⟨hc1, hm⟩ | ⟨hc1, hm⟩
  · refine G.on rfl rfl (dec_t hc1) ?_
    refine G.yl (yl_move rfl) rfl rfl rfl ?_
    refine G.on rfl rfl (dec_t hc1) ?_
    refine G.yl (yl_le8 (b := 122) rfl rfl) rfl rfl rfl ?_
    refine G.yl (yl_pick_t rfl (dec_t hc1) rfl) rfl rfl rfl ?_
    refine G.yl (yl_move rfl) rfl rfl rfl ?_
    rcases sp_ite hm with ⟨hc2, hm⟩ | ⟨hc2, hm⟩
    · refine G.offU rfl rfl (dec_t hc2) rfl ?_
      refine G.offU rfl rfl (dec_t hc2) rfl ?_
      refine G.offU rfl rfl (dec_t hc2) rfl ?_
      refine G.offUU rfl rfl rfl ?_
      refine G.offUU rfl rfl rfl ?_
      refine G.offU rfl rfl (dec_t hc2) rfl ?_
      refine G.yl (yl_pick_t rfl (dec_t hc2) rfl) rfl rfl rfl ?_
      refine G.yl (yl_assign rfl) rfl rfl rfl ?_
      refine G.nil ?_
      refine QA.then_normal ?_
      refine C.ret ?_
      refine QA.ret1 rfl rfl ?_
      obtain rfl := sp_ret1 hm
      exact ⟨rfl, (Sat.pick [] h)⟩
    · refine G.on rfl rfl (dec_f hc2) ?_
      refine G.yl (yl_move rfl) rfl rfl rfl ?_
      refine G.on rfl rfl (dec_f hc2) ?_
      refine G.yl (yl_ge8 (b := 65) rfl rfl) rfl rfl rfl ?_
      refine G.on rfl rfl (dec_f hc2) ?_
      refine G.yl (yl_move rfl) rfl rfl rfl ?_
      rcases sp_ite hm with ⟨hc3, hm⟩ | ⟨hc3, hm⟩
      · refine G.on rfl rfl (dec_t hc3) ?_
        refine G.yl (yl_move rfl) rfl rfl rfl ?_
        refine G.on rfl rfl (dec_t hc3) ?_
        refine G.yl (yl_le8 (b := 90) rfl rfl) rfl rfl rfl ?_
        refine G.on rfl rfl (dec_f hc2) ?_
        refine G.yl (yl_pick_t rfl (dec_t hc3) rfl) rfl rfl rfl ?_
        refine G.yl (yl_pick_f rfl (dec_f hc2) rfl) rfl rfl rfl ?_
        refine G.yl (yl_assign rfl) rfl rfl rfl ?_
        refine G.nil ?_
        refine QA.then_normal ?_
        refine C.ret ?_
        refine QA.ret1 rfl rfl ?_
        obtain rfl := sp_ret1 hm
        exact ⟨rfl, (Sat.pick [] h)⟩
      · refine G.offU rfl rfl (dec_f hc3) rfl ?_
        refine G.offU rfl rfl (dec_f hc3) rfl ?_
        refine G.on rfl rfl (dec_f hc2) ?_
        refine G.yl (yl_pick_f rfl (dec_f hc3) rfl) rfl rfl rfl ?_
        refine G.yl (yl_pick_f rfl (dec_f hc2) rfl) rfl rfl rfl ?_
        refine G.yl (yl_assign rfl) rfl rfl rfl ?_
        refine G.nil ?_
        refine QA.then_normal ?_
        refine C.ret ?_
        refine QA.ret1 rfl rfl ?_
        obtain rfl := sp_ret1 hm
        exact ⟨rfl, (Sat.pick [] h)⟩
  · refine G.offU rfl rfl (dec_f hc1) rfl ?_
    refine G.offU rfl rfl (dec_f hc1) rfl ?_
    refine G.yl (yl_pick_f rfl (dec_f hc1) rfl) rfl rfl rfl ?_
    refine G.yl (yl_move rfl) rfl rfl rfl ?_
    refine G.on rfl rfl rfl ?_
    refine G.yl (yl_move rfl) rfl rfl rfl ?_
    refine G.on rfl rfl rfl ?_
    refine G.yl (yl_ge8 (b := 65) rfl rfl) rfl rfl rfl ?_
    refine G.on rfl rfl rfl ?_
    refine G.yl (yl_move rfl) rfl rfl rfl ?_
    rcases sp_ite hm with ⟨hc4, hm⟩ | ⟨hc4, hm⟩
    · refine G.on rfl rfl (dec_t hc4) ?_
      refine G.yl (yl_move rfl) rfl rfl rfl ?_
      refine G.on rfl rfl (dec_t hc4) ?_
      refine G.yl (yl_le8 (b := 90) rfl rfl) rfl rfl rfl ?_
      refine G.on rfl rfl rfl ?_
      refine G.yl (yl_pick_t rfl (dec_t hc4) rfl) rfl rfl rfl ?_
      refine G.yl (yl_pick_f rfl rfl rfl) rfl rfl rfl ?_
      refine G.yl (yl_assign rfl) rfl rfl rfl ?_
      refine G.nil ?_
      refine QA.then_normal ?_
      refine C.ret ?_
      refine QA.ret1 rfl rfl ?_
      obtain rfl := sp_ret1 hm
      exact ⟨rfl, (Sat.pick [] h)⟩
    · refine G.offU rfl rfl (dec_f hc4) rfl ?_
      refine G.offU rfl rfl (dec_f hc4) rfl ?_
      refine G.on rfl rfl rfl ?_
      refine G.yl (yl_pick_f rfl (dec_f hc4) rfl) rfl rfl rfl ?_
      refine G.yl (yl_pick_f rfl rfl rfl) rfl rfl rfl ?_
      refine G.yl (yl_assign rfl) rfl rfl rfl ?_
      refine G.nil ?_
      refine QA.then_normal ?_
      refine C.ret ?_
      refine QA.ret1 rfl rfl ?_
      obtain rfl := sp_ret1 hm
      exact ⟨rfl, (Sat.pick [] h)⟩
set_option maxRecDepth 20000 in
set_option maxHeartbeats 1000000 in
theorem M_signpostref09_Part_w {W : Base} {w : World} {s : List UInt8}  (h : Sat W w []) {r1 : Bool} (hm : M_signpostref09_Part s = some r1) :
    Calls Try.prog 137 #[(.string (str s))] w (Ret fun v w' => v = (.bool r1) ∧ Sat W w' []) := by
  unfold M_signpostref09_Part at hm
  refine C.enter (N := 61) Try.func137 rfl Try.ntmps137 rfl ?_
  show C _ _ _ [(0, (.string (str s)))] _ _
  refine C.seq ?_
  refine C.region ?_
  refine G.yl (yl_assign rfl) rfl rfl rfl ?_
  refine G.nil ?_
  refine QA.then_normal ?_
  refine C.seq ?_
  refine C.seq ?_
  refine C.region ?_
  refine G.yl (yl_assign rfl) rfl rfl rfl ?_
  refine G.nil ?_
  refine QA.then_normal ?_
  refine C.block ?_
  obtain ⟨o, ho1, hm2⟩ := sp_bind hm
  refine C.left (γ := Unit) (.exit 0) (fun g => match g with | () => [(0, (.string (str s))), (2, (.bool false))]) (fun g ww => match g with | () => .inl () = o ∧ Sat W ww []) ?_ ?_
  · refine C.loopO (γ := Int) (fun g => match g with | i => [(0, (.string (str s))), (2, (.bool false)), (3, (vI i))]) (fun g ww => match g with | i => Sat W ww []) (fun g => match g with | i => i) 0 ho1 (Sub.of ⟨rfl, rfl, rfl, trivial⟩) (Sat.pick [] h) ?_
    rintro i k5 w3 y_ h4 hm hg6
    show C _ _ _ [(0, (.string (str s))), (2, (.bool false)), (3, (vI i))] _ _
    change M_signpostref09_Part_b1 s i = some y_ at hm
    unfold M_signpostref09_Part_b1 at hm
    refine C.seq ?_
    refine C.seq ?_
    refine C.region ?_
    refine G.yl (yl_move rfl) rfl rfl rfl ?_
    refine G.yl (yl_move rfl) rfl rfl rfl ?_
    refine G.yl (yl_slenE Try.underlying9 rfl) rfl rfl rfl ?_
    refine G.yl (yl_ltI rfl rfl) rfl rfl rfl ?_
    refine G.nil ?_
    refine QA.then_normal ?_
    rcases sp_ite hm with ⟨hc7, hm⟩ | ⟨hc7, hm⟩
    · refine C.cond_t rfl (dec_t hc7) ?_
      refine C.skip ?_
      refine QA.then_normal ?_
      refine C.join (γ := Unit) (fun g => match g with | () => [(0, (.string (str s))), (2, (.bool false)), (3, (vI i))]) (fun g ww => match g with | () => (M_signpostref09_Part_k2 i = some y_) ∧ Sat W ww []) ?_ ?_
      · refine C.block ?_
        refine C.join (γ := Bool) (fun g => match g with | t39 => [(0, (.string (str s))), (2, (.bool false)), (3, (vI i)), (39, (.bool t39))]) (fun g ww => match g with | t39 => (M_signpostref09_Part_k3 i t39 = some y_) ∧ Sat W ww []) ?_ ?_
        · refine C.region ?_
          refine G.yl (yl_move rfl) rfl rfl rfl ?_
          refine G.yl (yl_move rfl) rfl rfl rfl ?_
          obtain ⟨c, hy8, hm⟩ := sp_bind hm
          refine G.yl (yl_ixS Try.underlying9 rfl rfl hy8) rfl rfl rfl ?_
          obtain ⟨r1_2, hy9, hm⟩ := sp_bind hm
          refine G.does (does_fn 0 rfl rfl rfl en159 h4 (fun U hU hp hr hs => M_signpostref09_letter_w (b := c) hp hy9)) rfl rfl rfl ?_
          rintro _ w10 ⟨U13, hb14, rfl, h12⟩
          have h11 : Sat W w10 [] := hb14 h12
          refine G.yl (yl_not rfl) rfl rfl rfl ?_
          refine G.yl (yl_move rfl) rfl rfl rfl ?_
          rcases sp_b hm with ⟨hc15, hm⟩ | ⟨hc15, hm⟩
          · refine G.offU rfl rfl (not_f hc15) rfl ?_
            refine G.offU rfl rfl (not_f hc15) rfl ?_
            refine G.offU rfl rfl (not_f hc15) rfl ?_
            refine G.offU rfl rfl (not_f hc15) rfl ?_
            refine G.offU rfl rfl (not_f hc15) rfl ?_
            refine G.offUU rfl rfl rfl ?_
            refine G.offUU rfl rfl rfl ?_
            refine G.offUU rfl rfl rfl ?_
            refine G.offUU rfl rfl rfl ?_
            refine G.offU rfl rfl (not_f hc15) rfl ?_
            refine G.offU rfl rfl (not_f hc15) rfl ?_
            refine G.yl (yl_pick_f rfl (not_f hc15) rfl) rfl rfl rfl ?_
            refine G.yl (yl_move rfl) rfl rfl rfl ?_
            refine G.offU rfl rfl rfl rfl ?_
            refine G.offU rfl rfl rfl rfl ?_
            refine G.offU rfl rfl rfl rfl ?_
            refine G.offU rfl rfl rfl rfl ?_
            refine G.yl (yl_pick_f rfl rfl rfl) rfl rfl rfl ?_
            refine G.yl (yl_move rfl) rfl rfl rfl ?_
            refine G.offU rfl rfl rfl rfl ?_
            refine G.offU rfl rfl rfl rfl ?_
            refine G.offU rfl rfl rfl rfl ?_
            refine G.offU rfl rfl rfl rfl ?_
            refine G.yl (yl_pick_f rfl rfl rfl) rfl rfl rfl ?_
            refine G.nil ?_
            exact QA.join false (Sub.of ⟨rfl, rfl, rfl, rfl, trivial⟩) ⟨hm, (Sat.pick [] h11)⟩
          · refine G.on rfl rfl (not_t hc15) ?_
            refine G.yl (yl_move rfl) rfl rfl rfl ?_
            refine G.on rfl rfl (not_t hc15) ?_
            refine G.yl (yl_move rfl) rfl rfl rfl ?_
            refine G.on rfl rfl (not_t hc15) ?_
            obtain ⟨c_2, hy16, hm⟩ := sp_bind hm
            refine G.yl (yl_ixS Try.underlying9 rfl rfl hy16) rfl rfl rfl ?_
            refine G.on rfl rfl (not_t hc15) ?_
            refine G.yl (yl_ge8 (b := 48) rfl rfl) rfl rfl rfl ?_
            refine G.on rfl rfl (not_t hc15) ?_
            refine G.yl (yl_move rfl) rfl rfl rfl ?_
            rcases sp_ite hm with ⟨hc17, hm⟩ | ⟨hc17, hm⟩
            · refine G.on rfl rfl (dec_t hc17) ?_
              refine G.yl (yl_move rfl) rfl rfl rfl ?_
              refine G.on rfl rfl (dec_t hc17) ?_
              refine G.yl (yl_move rfl) rfl rfl rfl ?_
              refine G.on rfl rfl (dec_t hc17) ?_
              obtain ⟨c_3, hy18, hm⟩ := sp_bind hm
              refine G.yl (yl_ixS Try.underlying9 rfl rfl hy18) rfl rfl rfl ?_
              refine G.on rfl rfl (dec_t hc17) ?_
              refine G.yl (yl_le8 (b := 57) rfl rfl) rfl rfl rfl ?_
              refine G.on rfl rfl (not_t hc15) ?_
              refine G.yl (yl_pick_t rfl (dec_t hc17) rfl) rfl rfl rfl ?_
              refine G.on rfl rfl (not_t hc15) ?_
              refine G.yl (yl_not rfl) rfl rfl rfl ?_
              refine G.yl (yl_pick_t rfl (not_t hc15) rfl) rfl rfl rfl ?_
              refine G.yl (yl_move rfl) rfl rfl rfl ?_
              rcases sp_ite hm with ⟨hc19, hm⟩ | ⟨hc19, hm⟩
              · refine G.offU rfl rfl (not_f (dec_t hc19)) rfl ?_
                refine G.offU rfl rfl (not_f (dec_t hc19)) rfl ?_
                refine G.offU rfl rfl (not_f (dec_t hc19)) rfl ?_
                refine G.offU rfl rfl (not_f (dec_t hc19)) rfl ?_
                refine G.yl (yl_pick_f rfl (not_f (dec_t hc19)) rfl) rfl rfl rfl ?_
                refine G.yl (yl_move rfl) rfl rfl rfl ?_
                refine G.offU rfl rfl rfl rfl ?_
                refine G.offU rfl rfl rfl rfl ?_
                refine G.offU rfl rfl rfl rfl ?_
                refine G.offU rfl rfl rfl rfl ?_
                refine G.yl (yl_pick_f rfl rfl rfl) rfl rfl rfl ?_
                refine G.nil ?_
                exact QA.join false (Sub.of ⟨rfl, rfl, rfl, rfl, trivial⟩) ⟨hm, (Sat.pick [] h11)⟩
              · refine G.on rfl rfl (not_t (dec_f hc19)) ?_
                refine G.yl (yl_move rfl) rfl rfl rfl ?_
                refine G.on rfl rfl (not_t (dec_f hc19)) ?_
                refine G.yl (yl_move rfl) rfl rfl rfl ?_
                refine G.on rfl rfl (not_t (dec_f hc19)) ?_
                obtain ⟨c_4, hy20, hm⟩ := sp_bind hm
                refine G.yl (yl_ixS Try.underlying9 rfl rfl hy20) rfl rfl rfl ?_
                refine G.on rfl rfl (not_t (dec_f hc19)) ?_
                refine G.yl (yl_ne8 (b := 45) rfl rfl) rfl rfl rfl ?_
                refine G.yl (yl_pick_t rfl (not_t (dec_f hc19)) rfl) rfl rfl rfl ?_
                refine G.yl (yl_move rfl) rfl rfl rfl ?_
                rcases sp_ite hm with ⟨hc21, hm⟩ | ⟨hc21, hm⟩
                · refine G.offU rfl rfl (not_f (dec_t hc21)) rfl ?_
                  refine G.offU rfl rfl (not_f (dec_t hc21)) rfl ?_
                  refine G.offU rfl rfl (not_f (dec_t hc21)) rfl ?_
                  refine G.offU rfl rfl (not_f (dec_t hc21)) rfl ?_
                  refine G.yl (yl_pick_f rfl (not_f (dec_t hc21)) rfl) rfl rfl rfl ?_
                  refine G.nil ?_
                  exact QA.join false (Sub.of ⟨rfl, rfl, rfl, rfl, trivial⟩) ⟨hm, (Sat.pick [] h11)⟩
                · refine G.on rfl rfl (not_t (dec_f hc21)) ?_
                  refine G.yl (yl_move rfl) rfl rfl rfl ?_
                  refine G.on rfl rfl (not_t (dec_f hc21)) ?_
                  refine G.yl (yl_move rfl) rfl rfl rfl ?_
                  refine G.on rfl rfl (not_t (dec_f hc21)) ?_
                  obtain ⟨c_5, hy22, hm⟩ := sp_bind hm
                  refine G.yl (yl_ixS Try.underlying9 rfl rfl hy22) rfl rfl rfl ?_
                  refine G.on rfl rfl (not_t (dec_f hc21)) ?_
                  refine G.yl (yl_ne8 (b := 95) rfl rfl) rfl rfl rfl ?_
                  refine G.yl (yl_pick_t rfl (not_t (dec_f hc21)) rfl) rfl rfl rfl ?_
                  refine G.nil ?_
                  exact QA.join (!(decide (c_5 = 95))) (Sub.of ⟨rfl, rfl, rfl, rfl, trivial⟩) ⟨hm, (Sat.pick [] h11)⟩
            · refine G.offU rfl rfl (dec_f hc17) rfl ?_
              refine G.offU rfl rfl (dec_f hc17) rfl ?_
              refine G.offU rfl rfl (dec_f hc17) rfl ?_
              refine G.offU rfl rfl (dec_f hc17) rfl ?_
              refine G.on rfl rfl (not_t hc15) ?_
              refine G.yl (yl_pick_f rfl (dec_f hc17) rfl) rfl rfl rfl ?_
              refine G.on rfl rfl (not_t hc15) ?_
              refine G.yl (yl_not rfl) rfl rfl rfl ?_
              refine G.yl (yl_pick_t rfl (not_t hc15) rfl) rfl rfl rfl ?_
              refine G.yl (yl_move rfl) rfl rfl rfl ?_
              refine G.on rfl rfl (not_t rfl) ?_
              refine G.yl (yl_move rfl) rfl rfl rfl ?_
              refine G.on rfl rfl (not_t rfl) ?_
              refine G.yl (yl_move rfl) rfl rfl rfl ?_
              refine G.on rfl rfl (not_t rfl) ?_
              obtain ⟨c_6, hy23, hm⟩ := sp_bind hm
              refine G.yl (yl_ixS Try.underlying9 rfl rfl hy23) rfl rfl rfl ?_
              refine G.on rfl rfl (not_t rfl) ?_
              refine G.yl (yl_ne8 (b := 45) rfl rfl) rfl rfl rfl ?_
              refine G.yl (yl_pick_t rfl (not_t rfl) rfl) rfl rfl rfl ?_
              refine G.yl (yl_move rfl) rfl rfl rfl ?_
              rcases sp_ite hm with ⟨hc24, hm⟩ | ⟨hc24, hm⟩
              · refine G.offU rfl rfl (not_f (dec_t hc24)) rfl ?_
                refine G.offU rfl rfl (not_f (dec_t hc24)) rfl ?_
                refine G.offU rfl rfl (not_f (dec_t hc24)) rfl ?_
                refine G.offU rfl rfl (not_f (dec_t hc24)) rfl ?_
                refine G.yl (yl_pick_f rfl (not_f (dec_t hc24)) rfl) rfl rfl rfl ?_
                refine G.nil ?_
                exact QA.join false (Sub.of ⟨rfl, rfl, rfl, rfl, trivial⟩) ⟨hm, (Sat.pick [] h11)⟩
              · refine G.on rfl rfl (not_t (dec_f hc24)) ?_
                refine G.yl (yl_move rfl) rfl rfl rfl ?_
                refine G.on rfl rfl (not_t (dec_f hc24)) ?_
                refine G.yl (yl_move rfl) rfl rfl rfl ?_
                refine G.on rfl rfl (not_t (dec_f hc24)) ?_
                obtain ⟨c_7, hy25, hm⟩ := sp_bind hm
                refine G.yl (yl_ixS Try.underlying9 rfl rfl hy25) rfl rfl rfl ?_
                refine G.on rfl rfl (not_t (dec_f hc24)) ?_
                refine G.yl (yl_ne8 (b := 95) rfl rfl) rfl rfl rfl ?_
                refine G.yl (yl_pick_t rfl (not_t (dec_f hc24)) rfl) rfl rfl rfl ?_
                refine G.nil ?_
                exact QA.join (!(decide (c_7 = 95))) (Sub.of ⟨rfl, rfl, rfl, rfl, trivial⟩) ⟨hm, (Sat.pick [] h11)⟩
        · rintro t39 w26 ⟨hm, h27⟩
          show C _ _ _ [(0, (.string (str s))), (2, (.bool false)), (3, (vI i)), (39, (.bool t39))] _ _
          unfold M_signpostref09_Part_k3 at hm
          rcases sp_b hm with ⟨hc28, hm⟩ | ⟨hc28, hm⟩
          · refine C.cond_t rfl hc28 ?_
            refine C.seq ?_
            refine C.region ?_
            refine G.yl (yl_assign rfl) rfl rfl rfl ?_
            refine G.nil ?_
            refine QA.then_normal ?_
            refine C.ret ?_
            refine QA.block_ret ?_
            refine QA.then_ret ?_
            refine QA.then_ret ?_
            refine QA.past (by simp) ?_
            refine QA.block_ret ?_
            refine QA.then_ret ?_
            refine QA.ret1 rfl rfl ?_
            obtain rfl := sp_ret1 hm
            obtain rfl : .inr false = o := hg6
            have hm : some false = some r1 := hm2
            obtain rfl := sp_ret1 hm
            exact ⟨rfl, (Sat.pick [] h27)⟩
          · refine C.cond_f rfl hc28 ?_
            refine C.skip ?_
            refine QA.block_normal ?_
            exact QA.join () (Sub.of ⟨rfl, rfl, rfl, trivial⟩) ⟨hm, (Sat.pick [] h27)⟩
      · rintro _ w29 ⟨hm, h30⟩
        show C _ _ _ [(0, (.string (str s))), (2, (.bool false)), (3, (vI i))] _ _
        unfold M_signpostref09_Part_k2 at hm
        refine C.region ?_
        refine G.yl (yl_move rfl) rfl rfl rfl ?_
        obtain ⟨hc31, hm⟩ := sp_chk hm
        refine G.yl (yl_addI rfl rfl hc31) rfl rfl rfl ?_
        refine G.yl (yl_assign rfl) rfl rfl rfl ?_
        refine G.nil ?_
        obtain rfl := sp_ret1 hm
        exact QA.againO (i + 1) hg6 (Sub.of ⟨rfl, rfl, rfl, trivial⟩) (Sat.pick [] h30)
    · refine C.cond_f rfl (dec_f hc7) ?_
      refine C.exit ?_
      refine QA.then_exit ?_
      refine QA.then_exit ?_
      obtain rfl := sp_ret1 hm
      exact QA.left () (Sub.of ⟨rfl, rfl, trivial⟩) ⟨hg6, (Sat.pick [] h4)⟩
  · rintro _ w32 ⟨rfl, h33⟩
    have hm := hm2
    show QA _ _ [(0, (.string (str s))), (2, (.bool false))] _ _
    refine QA.block_here ?_
    refine QA.then_normal ?_
    refine C.seq ?_
    refine C.region ?_
    refine G.yl (yl_move rfl) rfl rfl rfl ?_
    refine G.yl (yl_slenE Try.underlying9 rfl) rfl rfl rfl ?_
    refine G.yl (yl_geI rfl rfl) rfl rfl rfl ?_
    refine G.yl (yl_move rfl) rfl rfl rfl ?_
    rcases sp_ite hm with ⟨hc34, hm⟩ | ⟨hc34, hm⟩
    · refine G.on rfl rfl (dec_t hc34) ?_
      refine G.yl (yl_move rfl) rfl rfl rfl ?_
      refine G.on rfl rfl (dec_t hc34) ?_
      refine G.yl (yl_slenE Try.underlying9 rfl) rfl rfl rfl ?_
      refine G.on rfl rfl (dec_t hc34) ?_
      refine G.yl (yl_leI rfl rfl) rfl rfl rfl ?_
      refine G.yl (yl_pick_t rfl (dec_t hc34) rfl) rfl rfl rfl ?_
      refine G.yl (yl_move rfl) rfl rfl rfl ?_
      rcases sp_ite hm with ⟨hc35, hm⟩ | ⟨hc35, hm⟩
      · refine G.on rfl rfl (dec_t hc35) ?_
        refine G.yl (yl_move rfl) rfl rfl rfl ?_
        refine G.on rfl rfl (dec_t hc35) ?_
        obtain ⟨c_8, hy36, hm⟩ := sp_bind hm
        refine G.yl (yl_ixS Try.underlying9 rfl rfl hy36) rfl rfl rfl ?_
        refine G.on rfl rfl (dec_t hc35) ?_
        refine G.yl (yl_ne8 (b := 45) rfl rfl) rfl rfl rfl ?_
        refine G.yl (yl_pick_t rfl (dec_t hc35) rfl) rfl rfl rfl ?_
        refine G.yl (yl_move rfl) rfl rfl rfl ?_
        rcases sp_ite hm with ⟨hc37, hm⟩ | ⟨hc37, hm⟩
        · refine G.offU rfl rfl (not_f (dec_t hc37)) rfl ?_
          refine G.offU rfl rfl (not_f (dec_t hc37)) rfl ?_
          refine G.offU rfl rfl (not_f (dec_t hc37)) rfl ?_
          refine G.offU rfl rfl (not_f (dec_t hc37)) rfl ?_
          refine G.offU rfl rfl (not_f (dec_t hc37)) rfl ?_
          refine G.offU rfl rfl (not_f (dec_t hc37)) rfl ?_
          refine G.yl (yl_pick_f rfl (not_f (dec_t hc37)) rfl) rfl rfl rfl ?_
          refine G.yl (yl_assign rfl) rfl rfl rfl ?_
          refine G.nil ?_
          refine QA.then_normal ?_
          refine C.ret ?_
          refine QA.ret1 rfl rfl ?_
          obtain rfl := sp_ret1 hm
          exact ⟨rfl, (Sat.pick [] h33)⟩
        · refine G.on rfl rfl (not_t (dec_f hc37)) ?_
          refine G.yl (yl_move rfl) rfl rfl rfl ?_
          refine G.on rfl rfl (not_t (dec_f hc37)) ?_
          refine G.yl (yl_move rfl) rfl rfl rfl ?_
          refine G.on rfl rfl (not_t (dec_f hc37)) ?_
          refine G.yl (yl_slenE Try.underlying9 rfl) rfl rfl rfl ?_
          refine G.on rfl rfl (not_t (dec_f hc37)) ?_
          obtain ⟨hc38, hm⟩ := sp_chk hm
          refine G.yl (yl_subI rfl rfl hc38) rfl rfl rfl ?_
          refine G.on rfl rfl (not_t (dec_f hc37)) ?_
          obtain ⟨c_9, hy39, hm⟩ := sp_bind hm
          refine G.yl (yl_ixS Try.underlying9 rfl rfl hy39) rfl rfl rfl ?_
          refine G.on rfl rfl (not_t (dec_f hc37)) ?_
          refine G.yl (yl_ne8 (b := 45) rfl rfl) rfl rfl rfl ?_
          refine G.yl (yl_pick_t rfl (not_t (dec_f hc37)) rfl) rfl rfl rfl ?_
          refine G.yl (yl_assign rfl) rfl rfl rfl ?_
          refine G.nil ?_
          refine QA.then_normal ?_
          refine C.ret ?_
          refine QA.ret1 rfl rfl ?_
          obtain rfl := sp_ret1 hm
          exact ⟨rfl, (Sat.pick [] h33)⟩
      · refine G.offU rfl rfl (dec_f hc35) rfl ?_
        refine G.offU rfl rfl (dec_f hc35) rfl ?_
        refine G.offU rfl rfl (dec_f hc35) rfl ?_
        refine G.yl (yl_pick_f rfl (dec_f hc35) rfl) rfl rfl rfl ?_
        refine G.yl (yl_move rfl) rfl rfl rfl ?_
        refine G.offU rfl rfl rfl rfl ?_
        refine G.offU rfl rfl rfl rfl ?_
        refine G.offU rfl rfl rfl rfl ?_
        refine G.offU rfl rfl rfl rfl ?_
        refine G.offU rfl rfl rfl rfl ?_
        refine G.offU rfl rfl rfl rfl ?_
        refine G.yl (yl_pick_f rfl rfl rfl) rfl rfl rfl ?_
        refine G.yl (yl_assign rfl) rfl rfl rfl ?_
        refine G.nil ?_
        refine QA.then_normal ?_
        refine C.ret ?_
        refine QA.ret1 rfl rfl ?_
        obtain rfl := sp_ret1 hm
        exact ⟨rfl, (Sat.pick [] h33)⟩
    · refine G.offU rfl rfl (dec_f hc34) rfl ?_
      refine G.offU rfl rfl (dec_f hc34) rfl ?_
      refine G.offU rfl rfl (dec_f hc34) rfl ?_
      refine G.yl (yl_pick_f rfl (dec_f hc34) rfl) rfl rfl rfl ?_
      refine G.yl (yl_move rfl) rfl rfl rfl ?_
      refine G.offU rfl rfl rfl rfl ?_
      refine G.offU rfl rfl rfl rfl ?_
      refine G.offU rfl rfl rfl rfl ?_
      refine G.yl (yl_pick_f rfl rfl rfl) rfl rfl rfl ?_
      refine G.yl (yl_move rfl) rfl rfl rfl ?_
      refine G.offU rfl rfl rfl rfl ?_
      refine G.offU rfl rfl rfl rfl ?_
      refine G.offU rfl rfl rfl rfl ?_
      refine G.offU rfl rfl rfl rfl ?_
      refine G.offU rfl rfl rfl rfl ?_
      refine G.offU rfl rfl rfl rfl ?_
      refine G.yl (yl_pick_f rfl rfl rfl) rfl rfl rfl ?_
      refine G.yl (yl_assign rfl) rfl rfl rfl ?_
      refine G.nil ?_
      refine QA.then_normal ?_
      refine C.ret ?_
      refine QA.ret1 rfl rfl ?_
      obtain rfl := sp_ret1 hm
      exact ⟨rfl, (Sat.pick [] h33)⟩
set_option maxRecDepth 20000 in
set_option maxHeartbeats 1000000 in
theorem M_signpostref09_Good_w {W : Base} {w : World} {s : List UInt8}  (h : Sat W w []) {r1 : Bool} (hm : M_signpostref09_Good s = some r1) :
    Calls Try.prog 94 #[(.string (str s))] w (Ret fun v w' => v = (.bool r1) ∧ Sat W w' []) := by
  unfold M_signpostref09_Good at hm
  refine C.enter (N := 23) Try.func94 rfl Try.ntmps94 rfl ?_
  show C _ _ _ [(0, (.string (str s)))] _ _
  refine C.seq ?_
  refine C.region ?_
  refine G.yl (yl_assign rfl) rfl rfl rfl ?_
  refine G.nil ?_
  refine QA.then_normal ?_
  refine C.seq ?_
  refine C.region ?_
  refine G.yl (yl_move rfl) rfl rfl rfl ?_
  obtain ⟨r3_2, hy1, hm⟩ := sp_bind hm
  refine G.does (does_fn 0 rfl rfl rfl en136 h (fun U hU hp hr hs => M_signpostref09_Parts_w (s := s) hp hy1)) rfl rfl rfl ?_
  rintro _ w4 ⟨U7, hb8, r12, r23, rfl, h6⟩
  have h5 : Sat W w4 [ow elStr r12 r23 9 r3_2] := hb8 h6
  refine G.yl (yl_assign rfl) rfl rfl rfl ?_
  refine G.nil ?_
  refine QA.then_normal ?_
  refine C.seq ?_
  refine C.seq ?_
  refine C.region ?_
  refine G.yl (yl_assign rfl) rfl rfl rfl ?_
  refine G.nil ?_
  refine QA.then_normal ?_
  refine C.block ?_
  obtain ⟨o, ho9, hm10⟩ := sp_bind hm
  refine C.left (γ := Unit) (.exit 0) (fun g => match g with | () => [(0, (.string (str s))), (2, (.bool false))]) (fun g ww => match g with | () => .inl () = o ∧ Sat W ww []) ?_ ?_
  · refine C.loopO (γ := Int) (fun g => match g with | i => [(0, (.string (str s))), (2, (.bool false)), (3, (.slice r12 r3_2.length r23)), (4, (vI i))]) (fun g ww => match g with | i => Sat W ww [ow elStr r12 r23 9 r3_2]) (fun g => match g with | i => i) 0 ho9 (Sub.of ⟨rfl, rfl, rfl, rfl, trivial⟩) (Sat.pick [0] h5) ?_
    rintro i k13 w11 y_ h12 hm hg14
    show C _ _ _ [(0, (.string (str s))), (2, (.bool false)), (3, (.slice r12 r3_2.length r23)), (4, (vI i))] _ _
    change M_signpostref09_Good_b1 r3_2 i = some y_ at hm
    unfold M_signpostref09_Good_b1 at hm
    refine C.seq ?_
    refine C.seq ?_
    refine C.region ?_
    refine G.yl (yl_move rfl) rfl rfl rfl ?_
    refine G.yl (yl_move rfl) rfl rfl rfl ?_
    refine G.yl (yl_lenE Try.underlying106 rfl) rfl rfl rfl ?_
    refine G.yl (yl_ltI rfl rfl) rfl rfl rfl ?_
    refine G.nil ?_
    refine QA.then_normal ?_
    rcases sp_ite hm with ⟨hc15, hm⟩ | ⟨hc15, hm⟩
    · refine C.cond_t rfl (dec_t hc15) ?_
      refine C.skip ?_
      refine QA.then_normal ?_
      refine C.seq ?_
      refine C.block ?_
      refine C.seq ?_
      refine C.region ?_
      refine G.yl (yl_move rfl) rfl rfl rfl ?_
      refine G.yl (yl_move rfl) rfl rfl rfl ?_
      obtain ⟨x, hy16, hm⟩ := sp_bind hm
      refine G.yl (yl_ixP (l := r3_2) sl106 rfl rfl (View.isA (E := elStr) (Sat.own_view h12) (by decide) (at?_lt hy16)) rfl (at?_lt hy16)) rfl rfl rfl ?_
      refine G.yl (yl_ld1 (E := elStr) (v := (.string (str x))) ag9 rfl (Sat.own_view h12) (at?_some hy16).2 rfl) rfl rfl rfl ?_
      obtain ⟨r1_2, hy17, hm⟩ := sp_bind hm
      refine G.does (does_fn 0 rfl rfl rfl en137 h12 (fun U hU hp hr hs => M_signpostref09_Part_w (s := x) hp hy17)) rfl rfl rfl ?_
      rintro _ w18 ⟨U21, hb22, rfl, h20⟩
      have h19 : Sat W w18 [ow elStr r12 r23 9 r3_2] := hb22 h20
      refine G.yl (yl_not rfl) rfl rfl rfl ?_
      refine G.nil ?_
      refine QA.then_normal ?_
      rcases sp_b hm with ⟨hc23, hm⟩ | ⟨hc23, hm⟩
      · refine C.cond_f rfl (not_f hc23) ?_
        refine C.skip ?_
        refine QA.block_normal ?_
        refine QA.then_normal ?_
        refine C.region ?_
        refine G.yl (yl_move rfl) rfl rfl rfl ?_
        obtain ⟨hc24, hm⟩ := sp_chk hm
        refine G.yl (yl_addI rfl rfl hc24) rfl rfl rfl ?_
        refine G.yl (yl_assign rfl) rfl rfl rfl ?_
        refine G.nil ?_
        obtain rfl := sp_ret1 hm
        exact QA.againO (i + 1) hg14 (Sub.of ⟨rfl, rfl, rfl, rfl, trivial⟩) (Sat.pick [0] h19)
      · refine C.cond_t rfl (not_t hc23) ?_
        refine C.seq ?_
        refine C.region ?_
        refine G.yl (yl_assign rfl) rfl rfl rfl ?_
        refine G.nil ?_
        refine QA.then_normal ?_
        refine C.ret ?_
        refine QA.block_ret ?_
        refine QA.then_ret ?_
        refine QA.then_ret ?_
        refine QA.past (by simp) ?_
        refine QA.block_ret ?_
        refine QA.then_ret ?_
        refine QA.ret1 rfl rfl ?_
        obtain rfl := sp_ret1 hm
        obtain rfl : .inr false = o := hg14
        have hm : some false = some r1 := hm10
        obtain rfl := sp_ret1 hm
        exact ⟨rfl, (Sat.pick [] h19)⟩
    · refine C.cond_f rfl (dec_f hc15) ?_
      refine C.exit ?_
      refine QA.then_exit ?_
      refine QA.then_exit ?_
      obtain rfl := sp_ret1 hm
      exact QA.left () (Sub.of ⟨rfl, rfl, trivial⟩) ⟨hg14, (Sat.pick [] h12)⟩
  · rintro _ w25 ⟨rfl, h26⟩
    have hm := hm10
    show QA _ _ [(0, (.string (str s))), (2, (.bool false))] _ _
    refine QA.block_here ?_
    refine QA.then_normal ?_
    refine C.seq ?_
    refine C.region ?_
    refine G.yl (yl_move rfl) rfl rfl rfl ?_
    refine G.yl (yl_slenE Try.underlying9 rfl) rfl rfl rfl ?_
    obtain ⟨hc27, hm⟩ := sp_chk hm
    refine G.yl (yl_addI rfl rfl hc27) rfl rfl rfl ?_
    refine G.yl (yl_leI rfl rfl) rfl rfl rfl ?_
    refine G.yl (yl_assign rfl) rfl rfl rfl ?_
    refine G.nil ?_
    refine QA.then_normal ?_
    refine C.ret ?_
    refine QA.ret1 rfl rfl ?_
    obtain rfl := sp_ret1 hm
    exact ⟨rfl, (Sat.pick [] h26)⟩
set_option maxRecDepth 20000 in
set_option maxHeartbeats 1000000 in
theorem M_signpostref09_Fold_w {W : Base} {w : World} {s : List UInt8}  (h : Sat W w []) {r1 : List UInt8} (hm : M_signpostref09_Fold s = some r1) :
    Calls Try.prog 95 #[(.string (str s))] w (Ret fun v w' => v = (.string (str r1)) ∧ Sat W w' []) := by
  unfold M_signpostref09_Fold at hm
  refine C.enter (N := 36) Try.func95 rfl Try.ntmps95 rfl ?_
  show C _ _ _ [(0, (.string (str s)))] _ _
  refine C.seq ?_
  refine C.region ?_
  refine G.yl (yl_assign rfl) rfl rfl rfl ?_
  refine G.nil ?_
  refine QA.then_normal ?_
  refine C.seq ?_
  refine C.region ?_
  refine G.yl (yl_move rfl) rfl rfl rfl ?_
  obtain ⟨hc1, hm⟩ := sp_chk hm
  refine G.does (does_bytes h Try.underlying9 Try.underlying49 Try.underlying5 el5 rfl hc1) rfl rfl rfl ?_
  rintro _ w4 ⟨a2, c3, rfl, h5⟩
  refine G.yl (yl_assign rfl) rfl rfl rfl ?_
  refine G.nil ?_
  refine QA.then_normal ?_
  refine C.seq ?_
  refine C.seq ?_
  refine C.region ?_
  refine G.yl (yl_assign rfl) rfl rfl rfl ?_
  refine G.nil ?_
  refine QA.then_normal ?_
  refine C.block ?_
  obtain ⟨o, ho8, hm9⟩ := sp_bind hm
  refine C.left (γ := List UInt8) (.exit 0) (fun g => match g with | b_2 => [(2, (.string (str ([] : List UInt8)))), (3, (.slice a2 s.length c3))]) (fun g ww => match g with | b_2 => b_2 = o ∧ (b_2.length = s.length) ∧ Sat W ww [ow elU8 a2 c3 5 b_2]) ?_ ?_
  · refine C.loopO (γ := List UInt8 × Int) (fun g => match g with | (b, i) => [(2, (.string (str ([] : List UInt8)))), (3, (.slice a2 s.length c3)), (4, (vI i))]) (fun g ww => match g with | (b, i) => (b.length = s.length) ∧ Sat W ww [ow elU8 a2 c3 5 b]) (fun g => match g with | (b, i) => (b, i)) (s, 0) ho8 (Sub.of ⟨rfl, rfl, rfl, trivial⟩) ⟨(by simp [copyL_length]), (Sat.pick [0] h5)⟩ ?_
    rintro ⟨b, i⟩ k12 w10 y_ ⟨hl6, h11⟩ hm hg13
    show C _ _ _ [(2, (.string (str ([] : List UInt8)))), (3, (.slice a2 s.length c3)), (4, (vI i))] _ _
    change M_signpostref09_Fold_b1 s b i = some y_ at hm
    unfold M_signpostref09_Fold_b1 at hm
    refine C.seq ?_
    refine C.seq ?_
    refine C.region ?_
    refine G.yl (yl_move rfl) rfl rfl rfl ?_
    refine G.yl (yl_move rfl) rfl rfl rfl ?_
    refine G.yl (yl_lenE Try.underlying49 rfl) rfl rfl rfl ?_
    refine G.yl (yl_ltI rfl rfl) rfl rfl rfl ?_
    refine G.nil ?_
    refine QA.then_normal ?_
    rcases sp_ite hm with ⟨hc14, hm⟩ | ⟨hc14, hm⟩
    · refine C.cond_t rfl (dec_t hc14) ?_
      refine C.skip ?_
      refine QA.then_normal ?_
      refine C.seq ?_
      refine C.block ?_
      refine C.join (γ := Bool) (fun g => match g with | t24 => [(2, (.string (str ([] : List UInt8)))), (3, (.slice a2 s.length c3)), (4, (vI i)), (24, (.bool t24))]) (fun g ww => match g with | t24 => (M_signpostref09_Fold_k2 b i t24 = some y_) ∧ Sat W ww [ow elU8 a2 c3 5 b]) ?_ ?_
      · refine C.region ?_
        refine G.yl (yl_move rfl) rfl rfl rfl ?_
        refine G.yl (yl_move rfl) rfl rfl rfl ?_
        obtain ⟨x, hy15, hm⟩ := sp_bind hm
        refine G.yl (yl_ixP (l := b) sl49 rfl rfl (View.isA (E := elU8) (Sat.own_view h11) (by decide) (at?_lt hy15)) (by simp [copyL_length, hl6]) (at?_lt hy15)) rfl rfl rfl ?_
        refine G.yl (yl_ld1 (E := elU8) (v := (v8 x)) ag5 rfl (Sat.own_view h11) (at?_some hy15).2 rfl) rfl rfl rfl ?_
        refine G.yl (yl_ge8 (b := 65) rfl rfl) rfl rfl rfl ?_
        refine G.yl (yl_move rfl) rfl rfl rfl ?_
        rcases sp_ite hm with ⟨hc16, hm⟩ | ⟨hc16, hm⟩
        · refine G.on rfl rfl (dec_t hc16) ?_
          refine G.yl (yl_move rfl) rfl rfl rfl ?_
          refine G.on rfl rfl (dec_t hc16) ?_
          refine G.yl (yl_move rfl) rfl rfl rfl ?_
          refine G.on rfl rfl (dec_t hc16) ?_
          refine G.yl (yl_ixP (l := b) sl49 rfl rfl (View.isA (E := elU8) (Sat.own_view h11) (by decide) (at?_lt hy15)) (by simp [copyL_length, hl6]) (at?_lt hy15)) rfl rfl rfl ?_
          refine G.on rfl rfl (dec_t hc16) ?_
          refine G.yl (yl_ld1 (E := elU8) (v := (v8 x)) ag5 rfl (Sat.own_view h11) (at?_some hy15).2 rfl) rfl rfl rfl ?_
          refine G.on rfl rfl (dec_t hc16) ?_
          refine G.yl (yl_le8 (b := 90) rfl rfl) rfl rfl rfl ?_
          refine G.yl (yl_pick_t rfl (dec_t hc16) rfl) rfl rfl rfl ?_
          refine G.nil ?_
          exact QA.join (decide (x ≤ 90)) (Sub.of ⟨rfl, rfl, rfl, rfl, trivial⟩) ⟨hm, (Sat.pick [0] h11)⟩
        · refine G.offU rfl rfl (dec_f hc16) rfl ?_
          refine G.offU rfl rfl (dec_f hc16) rfl ?_
          refine G.offU rfl rfl (dec_f hc16) rfl ?_
          refine G.offU rfl rfl (dec_f hc16) rfl ?_
          refine G.offU rfl rfl (dec_f hc16) rfl ?_
          refine G.yl (yl_pick_f rfl (dec_f hc16) rfl) rfl rfl rfl ?_
          refine G.nil ?_
          exact QA.join false (Sub.of ⟨rfl, rfl, rfl, rfl, trivial⟩) ⟨hm, (Sat.pick [0] h11)⟩
      · rintro t24 w17 ⟨hm, h18⟩
        show C _ _ _ [(2, (.string (str ([] : List UInt8)))), (3, (.slice a2 s.length c3)), (4, (vI i)), (24, (.bool t24))] _ _
        unfold M_signpostref09_Fold_k2 at hm
        rcases sp_b hm with ⟨hc19, hm⟩ | ⟨hc19, hm⟩
        · refine C.cond_t rfl hc19 ?_
          refine C.region ?_
          refine G.yl (yl_move rfl) rfl rfl rfl ?_
          refine G.yl (yl_move rfl) rfl rfl rfl ?_
          refine G.yl (yl_move rfl) rfl rfl rfl ?_
          refine G.yl (yl_move rfl) rfl rfl rfl ?_
          obtain ⟨x_2, hy20, hm⟩ := sp_bind hm
          refine G.yl (yl_ixP (l := b) sl49 rfl rfl (View.isA (E := elU8) (Sat.own_view h18) (by decide) (at?_lt hy20)) (by simp [copyL_length, hl6]) (at?_lt hy20)) rfl rfl rfl ?_
          refine G.yl (yl_ld1 (E := elU8) (v := (v8 x_2)) ag5 rfl (Sat.own_view h18) (at?_some hy20).2 rfl) rfl rfl rfl ?_
          refine G.yl (yl_add8 (b := 97) rfl rfl) rfl rfl rfl ?_
          refine G.yl (yl_sub8 (b := 65) rfl rfl) rfl rfl rfl ?_
          refine G.yl (yl_ixP (l := b) sl49 rfl rfl (View.isA (E := elU8) (Sat.own_view h18) (by decide) (at?_lt hy20)) (by simp [copyL_length, hl6]) (at?_lt hy20)) rfl rfl rfl ?_
          refine G.unit (does_stE (E := elU8) (r := (x_2 + 97) - 65) h18 sz5 rfl rfl (by decide) rfl (List.getElem?_eq_some_iff.1 (at?_some hy20).2).1) rfl rfl ?_
          rintro _ w21 h22
          refine G.nil ?_
          refine QA.block_normal ?_
          refine QA.then_normal ?_
          refine C.region ?_
          refine G.yl (yl_move rfl) rfl rfl rfl ?_
          obtain ⟨hc23, hm⟩ := sp_chk hm
          refine G.yl (yl_addI rfl rfl hc23) rfl rfl rfl ?_
          refine G.yl (yl_assign rfl) rfl rfl rfl ?_
          refine G.nil ?_
          obtain rfl := sp_ret1 hm
          exact QA.againO (b.set i.toNat ((x_2 + 97) - 65), i + 1) hg13 (Sub.of ⟨rfl, (look_eq rfl (by simp [copyL_length, hl6])), rfl, trivial⟩) ⟨(by simp [copyL_length, hl6]), (Sat.pick [0] h22)⟩
        · refine C.cond_f rfl hc19 ?_
          refine C.skip ?_
          refine QA.block_normal ?_
          refine QA.then_normal ?_
          refine C.region ?_
          refine G.yl (yl_move rfl) rfl rfl rfl ?_
          obtain ⟨hc24, hm⟩ := sp_chk hm
          refine G.yl (yl_addI rfl rfl hc24) rfl rfl rfl ?_
          refine G.yl (yl_assign rfl) rfl rfl rfl ?_
          refine G.nil ?_
          obtain rfl := sp_ret1 hm
          exact QA.againO (b, i + 1) hg13 (Sub.of ⟨rfl, (look_eq rfl (by simp [copyL_length, hl6])), rfl, trivial⟩) ⟨(by simp [copyL_length, hl6]), (Sat.pick [0] h18)⟩
    · refine C.cond_f rfl (dec_f hc14) ?_
      refine C.exit ?_
      refine QA.then_exit ?_
      refine QA.then_exit ?_
      obtain rfl := sp_ret1 hm
      exact QA.left b (Sub.of ⟨rfl, (look_eq rfl (by simp [copyL_length, hl6])), trivial⟩) ⟨hg13, (by simp [copyL_length, hl6]), (Sat.pick [0] h11)⟩
  · rintro b_2 w25 ⟨rfl, hl7, h26⟩
    have hm := hm9
    show QA _ _ [(2, (.string (str ([] : List UInt8)))), (3, (.slice a2 s.length c3))] _ _
    refine QA.block_here ?_
    refine QA.then_normal ?_
    refine C.seq ?_
    refine C.region ?_
    refine G.yl (yl_move rfl) rfl rfl rfl ?_
    refine G.yl (yl_strE (l := b_2) Try.underlying49 Try.underlying5 Try.underlying9 rfl (by simp [copyL_length, hl7]) (Sat.own_view h26)) rfl rfl rfl ?_
    refine G.yl (yl_assign rfl) rfl rfl rfl ?_
    refine G.nil ?_
    refine QA.then_normal ?_
    refine C.ret ?_
    refine QA.ret1 rfl rfl ?_
    obtain rfl := sp_ret1 hm
    exact ⟨rfl, (Sat.pick [] h26)⟩
end Go.Proofs.Ytgabplankmljfaa
