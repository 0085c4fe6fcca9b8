/-
  That the functions of the program compute what their Lean functions say, part 0. No condition.
-/
import Derived.Test.YtlkilokdbkjbmaaDoorServiceJoinsFct
namespace Go.Proofs.YtlkilokdbkjbmaaDoor
open Go Go.RowKit
set_option linter.unusedVariables false
set_option linter.unusedSimpArgs false
set_option linter.unnecessarySimpa false
set_option maxRecDepth 20000 in
set_option maxHeartbeats 1000000 in
theorem M_label_parts_w {W : Base} {w : World} {s : List UInt8}  (h : Sat W w [])  (hm : M_label_parts s = some ()) :
    Calls Tryd.prog 20 #[(.string (str s))] w (Ret fun v w' => ∃ r1 : Nat, v = (.func (.func 30) #[] #[(.pointer (some ⟨r1, 0, none⟩))]) ∧ Sat W w' [blk r1 [(.string (str s))] 9]) := by
  unfold M_label_parts at hm
  refine C.enter (N := 4) Tryd.func20 rfl Tryd.ntmps20 rfl ?_
  show C _ _ _ [(0, (.string (str s)))] _ _
  refine C.seq ?_
  refine C.region ?_
  refine G.does (does_box (cs := [(.string (str s))]) h rfl rfl) rfl rfl rfl ?_
  rintro _ w2 ⟨b1, rfl, h3⟩
  refine G.yl (yl_assign rfl) rfl rfl rfl ?_
  refine G.nil ?_
  refine QA.then_normal ?_
  refine C.seq ?_
  refine C.region ?_
  refine G.yl (yl_func rfl rfl) rfl rfl rfl ?_
  refine G.yl (yl_assign rfl) rfl rfl rfl ?_
  refine G.nil ?_
  refine QA.then_normal ?_
  refine C.ret ?_
  refine QA.ret1 rfl rfl ?_
  exact ⟨b1, rfl, (Sat.pick [0] h3)⟩
set_option maxRecDepth 20000 in
set_option maxHeartbeats 1000000 in
theorem M_stringslite_IndexByte_w {W : Base} {w : World} {s : List UInt8} {c : UInt8}  (h : Sat W w [])  (hm : M_stringslite_IndexByte s c = some ()) :
    Calls Tryd.prog 45 #[(.string (str s)), (v8 c)] w (Ret fun v w' => v = (vI (Lib.indexByte s c)) ∧ Sat W w' []) := by
  unfold M_stringslite_IndexByte at hm
  refine C.enter (N := 8) Tryd.func45 rfl Tryd.ntmps45 rfl ?_
  show C _ _ _ [(0, (.string (str s))), (1, (v8 c))] _ _
  refine C.seq ?_
  refine C.region ?_
  refine G.yl (yl_assign rfl) rfl rfl rfl ?_
  refine G.nil ?_
  refine QA.then_normal ?_
  refine C.seq ?_
  refine C.region ?_
  refine G.yl (yl_move rfl) rfl rfl rfl ?_
  refine G.yl (yl_move rfl) rfl rfl rfl ?_
  refine G.yl (yl_ixbS (b := c) rfl rfl rfl Tryd.func49 ex49) rfl rfl rfl ?_
  refine G.yl (yl_assign rfl) rfl rfl rfl ?_
  refine G.nil ?_
  refine QA.then_normal ?_
  refine C.ret ?_
  refine QA.ret1 rfl rfl ?_
  exact ⟨rfl, (Sat.pick [] h)⟩
set_option maxRecDepth 20000 in
set_option maxHeartbeats 1000000 in
theorem M_stringslite_Index_w {W : Base} {w : World} {s : List UInt8}  (h : Sat W w []) {r1 : Int} (hm : M_stringslite_Index s = some r1) :
    Calls Tryd.prog 39 #[(.string (str s)), (.string (str ([46] : List UInt8)))] w (Ret fun v w' => v = (vI r1) ∧ Sat W w' []) := by
  unfold M_stringslite_Index at hm
  refine C.enter (N := 143) Tryd.func39 rfl Tryd.ntmps39 rfl ?_
  show C _ _ _ [(0, (.string (str s))), (1, (.string (str ([46] : List UInt8))))] _ _
  refine C.seq ?_
  refine C.region ?_
  refine G.yl (yl_assign rfl) rfl rfl rfl ?_
  refine G.nil ?_
  refine QA.then_normal ?_
  refine C.seq ?_
  refine C.region ?_
  refine G.yl (yl_move rfl) rfl rfl rfl ?_
  refine G.yl (yl_slenE Tryd.underlying9 rfl) rfl rfl rfl ?_
  refine G.yl (yl_assign rfl) rfl rfl rfl ?_
  refine G.nil ?_
  refine QA.then_normal ?_
  refine C.seq ?_
  refine C.block ?_
  refine C.seq ?_
  refine C.region ?_
  refine G.yl (yl_move rfl) rfl rfl rfl ?_
  refine G.yl (yl_eqI rfl rfl) rfl rfl rfl ?_
  refine G.yl (yl_move rfl) rfl rfl rfl ?_
  refine G.on rfl rfl (by decide) ?_
  refine G.yl (yl_move rfl) rfl rfl rfl ?_
  refine G.on rfl rfl (by decide) ?_
  refine G.yl (yl_move rfl) rfl rfl rfl ?_
  refine G.on rfl rfl (by decide) ?_
  refine G.yl (yl_eqS rfl rfl) rfl rfl rfl ?_
  refine G.yl (yl_pick_f rfl (by decide) rfl) rfl rfl rfl ?_
  refine G.yl (yl_assign rfl) rfl rfl rfl ?_
  refine G.nil ?_
  refine QA.then_normal ?_
  rcases sp_ite hm with ⟨hc1, hm⟩ | ⟨hc1, hm⟩
  · refine C.cond_t rfl (dec_t hc1) ?_
    refine C.seq ?_
    refine C.region ?_
    refine G.yl (yl_assign rfl) rfl rfl rfl ?_
    refine G.nil ?_
    refine QA.then_normal ?_
    refine C.ret ?_
    refine QA.block_ret ?_
    refine QA.then_ret ?_
    refine QA.ret1 rfl rfl ?_
    obtain rfl := sp_ret1 hm
    exact ⟨rfl, (Sat.pick [] h)⟩
  · refine C.cond_f rfl (dec_f hc1) ?_
    refine C.seq ?_
    refine C.region ?_
    refine G.yl (yl_move rfl) rfl rfl rfl ?_
    refine G.yl (yl_eqI rfl rfl) rfl rfl rfl ?_
    refine G.yl (yl_assign rfl) rfl rfl rfl ?_
    refine G.nil ?_
    refine QA.then_normal ?_
    refine C.cond_t rfl (by decide) ?_
    refine C.seq ?_
    refine C.region ?_
    refine G.yl (yl_move rfl) rfl rfl rfl ?_
    refine G.yl (yl_move rfl) rfl rfl rfl ?_
    obtain ⟨c, hy2, hm⟩ := sp_bind hm
    refine G.yl (yl_ixS Tryd.underlying9 rfl rfl hy2) rfl rfl rfl ?_
    obtain ⟨_, hy3, hm⟩ := sp_bind hm
    refine G.does (does_fn 0 rfl rfl rfl en45 h (fun U hU hp hr hs => M_stringslite_IndexByte_w (s := s) (c := c) hp hy3)) rfl rfl rfl ?_
    rintro _ w4 ⟨U7, hb8, rfl, h6⟩
    have h5 : Sat W w4 [] := hb8 h6
    refine G.yl (yl_assign rfl) rfl rfl rfl ?_
    refine G.nil ?_
    refine QA.then_normal ?_
    refine C.ret ?_
    refine QA.block_ret ?_
    refine QA.then_ret ?_
    refine QA.ret1 rfl rfl ?_
    obtain rfl := sp_ret1 hm
    exact ⟨rfl, (Sat.pick [] h5)⟩
set_option maxRecDepth 20000 in
set_option maxHeartbeats 1000000 in
theorem M_stringslite_Cut_w {W : Base} {w : World} {s : List UInt8}  (h : Sat W w []) {r1 : List UInt8} {r2 : List UInt8} {r3 : Bool} (hm : M_stringslite_Cut s = some (r1, r2, r3)) :
    Calls Tryd.prog 40 #[(.string (str s)), (.string (str ([46] : List UInt8)))] w (Ret fun v w' => v = (.tuple #[(.string (str r1)), (.string (str r2)), (.bool r3)]) ∧ Sat W w' []) := by
  unfold M_stringslite_Cut at hm
  refine C.enter (N := 23) Tryd.func40 rfl Tryd.ntmps40 rfl ?_
  show C _ _ _ [(0, (.string (str s))), (1, (.string (str ([46] : List UInt8))))] _ _
  refine C.seq ?_
  refine C.region ?_
  refine G.yl (yl_assign rfl) rfl rfl rfl ?_
  refine G.yl (yl_assign rfl) rfl rfl rfl ?_
  refine G.yl (yl_assign rfl) rfl rfl rfl ?_
  refine G.nil ?_
  refine QA.then_normal ?_
  refine C.seq ?_
  refine C.seq ?_
  refine C.region ?_
  refine G.yl (yl_move rfl) rfl rfl rfl ?_
  refine G.yl (yl_move rfl) rfl rfl rfl ?_
  obtain ⟨r1_2, hy1, hm⟩ := sp_bind hm
  refine G.does (does_fn 0 rfl rfl rfl en39 h (fun U hU hp hr hs => M_stringslite_Index_w (s := s) hp hy1)) rfl rfl rfl ?_
  rintro _ w2 ⟨U5, hb6, rfl, h4⟩
  have h3 : Sat W w2 [] := hb6 h4
  refine G.yl (yl_assign rfl) rfl rfl rfl ?_
  refine G.nil ?_
  refine QA.then_normal ?_
  refine C.seq ?_
  refine C.region ?_
  refine G.yl (yl_move rfl) rfl rfl rfl ?_
  refine G.yl (yl_geI rfl rfl) rfl rfl rfl ?_
  refine G.nil ?_
  refine QA.then_normal ?_
  rcases sp_ite hm with ⟨hc7, hm⟩ | ⟨hc7, hm⟩
  · refine C.cond_t rfl (dec_t hc7) ?_
    refine C.seq ?_
    refine C.draw (V := fun w' => True) (nd := []) (sp := []) (n := 12) rfl h3 rfl rfl ?_
    intro w8 h9
    have hS10 : Cls (fun w' => True) [] [] #[false, false, false, false, false, false, false, false, false, false, false, false] w8 := Cls.keep (trivial) (by kernel_rfl)
    refine GH.yl (i := 0) (listed' := #[true, false, false, false, false, false, false, false, false, false, false, false]) rfl (by kernel_rfl) rfl (NP.next (NP.next NP.body)) rfl rfl rfl (fun w' => yl_move rfl) hS10 (fun hS11 => ?_)
    refine GH.yl (i := 1) (listed' := #[true, true, false, false, false, false, false, false, false, false, false, false]) rfl (by kernel_rfl) rfl (NP.next (NP.next NP.body)) rfl rfl rfl (fun w' => yl_move rfl) hS11 (fun hS12 => ?_)
    obtain ⟨hc13, hm⟩ := sp_chk hm
    refine GH.yl (i := 2) (listed' := #[true, true, true, false, false, false, false, false, false, false, false, false]) rfl (by kernel_rfl) rfl (NP.next (NP.next NP.body)) rfl rfl rfl (fun w' => yl_slHS Tryd.underlying9 rfl rfl hc13) hS12 (fun hS14 => ?_)
    refine GH.yl (i := 3) (listed' := #[true, true, true, true, false, false, false, false, false, false, false, false]) rfl (by kernel_rfl) rfl (NP.next (NP.next NP.body)) rfl rfl rfl (fun w' => yl_move rfl) hS14 (fun hS15 => ?_)
    refine GH.yl (i := 4) (listed' := #[true, true, true, true, true, false, false, false, false, false, false, false]) rfl (by kernel_rfl) rfl (NP.next (NP.next NP.body)) rfl rfl rfl (fun w' => yl_move rfl) hS15 (fun hS16 => ?_)
    refine GH.yl (i := 5) (listed' := #[true, true, true, true, true, true, false, false, false, false, false, false]) rfl (by kernel_rfl) rfl (NP.next (NP.next NP.body)) rfl rfl rfl (fun w' => yl_move rfl) hS16 (fun hS17 => ?_)
    refine GH.yl (i := 6) (listed' := #[true, true, true, true, true, true, true, false, false, false, false, false]) rfl (by kernel_rfl) rfl (NP.next (NP.next NP.body)) rfl rfl rfl (fun w' => yl_slenE Tryd.underlying9 rfl) hS17 (fun hS18 => ?_)
    obtain ⟨hc19, hm⟩ := sp_chk hm
    refine GH.yl (i := 7) (listed' := #[true, true, true, true, true, true, true, true, false, false, false, false]) rfl (by kernel_rfl) rfl (NP.next (NP.next NP.body)) rfl rfl rfl (fun w' => yl_addI rfl rfl hc19) hS18 (fun hS20 => ?_)
    obtain ⟨hc21, hm⟩ := sp_chk hm
    refine GH.yl (i := 8) (listed' := #[true, true, true, true, true, true, true, true, true, false, false, false]) rfl (by kernel_rfl) rfl (NP.next (NP.next NP.body)) rfl rfl rfl (fun w' => yl_slLS Tryd.underlying9 rfl rfl hc21) hS20 (fun hS22 => ?_)
    refine GH.yl (i := 9) (listed' := #[true, true, true, true, true, true, true, true, true, true, false, false]) rfl (by kernel_rfl) rfl (NP.next (NP.next NP.body)) rfl rfl rfl (fun w' => yl_assign rfl) hS22 (fun hS23 => ?_)
    refine GH.yl (i := 10) (listed' := #[true, true, true, true, true, true, true, true, true, true, true, false]) rfl (by kernel_rfl) rfl (NP.next (NP.next NP.body)) rfl rfl rfl (fun w' => yl_assign rfl) hS23 (fun hS24 => ?_)
    refine GH.yl (i := 11) (listed' := #[true, true, true, true, true, true, true, true, true, true, true, true]) rfl (by kernel_rfl) rfl (NP.next (NP.next NP.body)) rfl rfl rfl (fun w' => yl_assign rfl) hS24 (fun hS25 => ?_)
    refine GH.done (by kernel_rfl) ?_
    refine QA.then_normal ?_
    refine C.ret ?_
    refine QA.then_ret ?_
    refine QA.ret3 rfl rfl rfl rfl ?_
    obtain ⟨rfl, rfl, rfl⟩ := sp_ret3 hm
    exact ⟨rfl, (Sat.pick [] h9)⟩
  · refine C.cond_f rfl (dec_f hc7) ?_
    refine C.skip ?_
    refine QA.then_normal ?_
    refine C.seq ?_
    refine C.region ?_
    refine G.yl (yl_move rfl) rfl rfl rfl ?_
    refine G.yl (yl_assign rfl) rfl rfl rfl ?_
    refine G.yl (yl_assign rfl) rfl rfl rfl ?_
    refine G.yl (yl_assign rfl) rfl rfl rfl ?_
    refine G.nil ?_
    refine QA.then_normal ?_
    refine C.ret ?_
    refine QA.ret3 rfl rfl rfl rfl ?_
    obtain ⟨rfl, rfl, rfl⟩ := sp_ret3 hm
    exact ⟨rfl, (Sat.pick [] h3)⟩
set_option maxRecDepth 20000 in
set_option maxHeartbeats 1000000 in
theorem M_strings_Cut_w {W : Base} {w : World} {s : List UInt8}  (h : Sat W w []) {r1 : List UInt8} {r2 : List UInt8} {r3 : Bool} (hm : M_strings_Cut s = some (r1, r2, r3)) :
    Calls Tryd.prog 31 #[(.string (str s)), (.string (str ([46] : List UInt8)))] w (Ret fun v w' => v = (.tuple #[(.string (str r1)), (.string (str r2)), (.bool r3)]) ∧ Sat W w' []) := by
  unfold M_strings_Cut at hm
  refine C.enter (N := 13) Tryd.func31 rfl Tryd.ntmps31 rfl ?_
  show C _ _ _ [(0, (.string (str s))), (1, (.string (str ([46] : List UInt8))))] _ _
  refine C.seq ?_
  refine C.region ?_
  refine G.yl (yl_assign rfl) rfl rfl rfl ?_
  refine G.yl (yl_assign rfl) rfl rfl rfl ?_
  refine G.yl (yl_assign rfl) rfl rfl rfl ?_
  refine G.nil ?_
  refine QA.then_normal ?_
  refine C.seq ?_
  refine C.region ?_
  refine G.yl (yl_move rfl) rfl rfl rfl ?_
  refine G.yl (yl_move rfl) rfl rfl rfl ?_
  obtain ⟨⟨r1_2, r2_2, r3_2⟩, hy1, hm⟩ := sp_bind hm
  refine G.does (does_fn 0 rfl rfl rfl en40 h (fun U hU hp hr hs => M_stringslite_Cut_w (s := s) hp hy1)) rfl rfl rfl ?_
  rintro _ w2 ⟨U5, hb6, rfl, h4⟩
  have h3 : Sat W w2 [] := hb6 h4
  refine G.yl (yl_extract rfl rfl) rfl rfl rfl ?_
  refine G.yl (yl_extract rfl rfl) rfl rfl rfl ?_
  refine G.yl (yl_extract rfl rfl) rfl rfl rfl ?_
  refine G.yl (yl_assign rfl) rfl rfl rfl ?_
  refine G.yl (yl_assign rfl) rfl rfl rfl ?_
  refine G.yl (yl_assign rfl) rfl rfl rfl ?_
  refine G.nil ?_
  refine QA.then_normal ?_
  refine C.ret ?_
  refine QA.ret3 rfl rfl rfl rfl ?_
  obtain ⟨rfl, rfl, rfl⟩ := sp_ret3 hm
  exact ⟨rfl, (Sat.pick [] h3)⟩
set_option maxRecDepth 20000 in
set_option maxHeartbeats 1000000 in
theorem M_label_parts_1_p_it {W : Base} {w : World} {b : Nat} {x : List UInt8}  :
    IterOk Tryd.prog 30 [(.pointer (some ⟨b, 0, none⟩))] (fun (x : List UInt8) => [(.string (str x))]) (@fun σ_ ρ_ f_ z_ => M_label_parts_1_p f_ x z_) [blk b [(.string (str x))] 9] W w := by
  intro σ_ ρ_ f_ z_ o_ B_ X_ l_ hm hyld_ u_ hch_ h
  change M_label_parts_1_p f_ x z_ = some o_ at hm
  replace h : Sat W u_ [blk b [(.string (str x))] 9, B_ z_] := h
  unfold M_label_parts_1_p at hm
  refine C.enter (N := 21) Tryd.func30 rfl Tryd.ntmps30 rfl ?_
  show C _ _ _ [(0, (.func (.yield l_) #[] #[])), (1, (.pointer (some ⟨b, 0, none⟩)))] _ _
  refine C.block ?_
  obtain ⟨o, ho1, hm2⟩ := sp_bind hm
  refine C.loopO (γ := σ_ × List UInt8) (fun g => match g with | (z, t1) => [(0, (.func (.yield l_) #[] #[])), (1, (.pointer (some ⟨b, 0, none⟩)))]) (fun g ww => match g with | (z, t1) => Sat W ww [B_ z, blk b [(.string (str t1))] 9]) (fun g => match g with | (z, t1) => (z, t1)) (z_, x) ho1 (Sub.of ⟨rfl, rfl, trivial⟩) (Sat.pick [1, 0] h) ?_
  rintro ⟨z, t1⟩ k5 w3 y_ h4 hm hg6
  show C _ _ _ [(0, (.func (.yield l_) #[] #[])), (1, (.pointer (some ⟨b, 0, none⟩)))] _ _
  change M_label_parts_1_p_b1 f_ z t1 = some y_ at hm
  unfold M_label_parts_1_p_b1 at hm
  refine C.block ?_
  refine C.seq ?_
  refine C.region ?_
  refine G.yl (yl_load (v := (.string (str t1))) ag9 rfl (View.at0 (j := 0) (Sat.pick [1] h4).isBlk.view0 rfl)) rfl rfl rfl ?_
  obtain ⟨⟨r1, r2, r3⟩, hy7, hm⟩ := sp_bind hm
  refine G.does (does_fn 0 rfl rfl rfl en31 h4 (fun U hU hp hr hs => M_strings_Cut_w (s := t1) hp hy7)) rfl rfl rfl ?_
  rintro _ w8 ⟨U11, hb12, rfl, h10⟩
  have h9 : Sat W w8 [B_ z, blk b [(.string (str t1))] 9] := hb12 h10
  refine G.yl (yl_move rfl) rfl rfl rfl ?_
  refine G.yl (yl_extract rfl rfl) rfl rfl rfl ?_
  refine G.yl (yl_extract rfl rfl) rfl rfl rfl ?_
  refine G.yl (yl_extract rfl rfl) rfl rfl rfl ?_
  refine G.yl (yl_assign rfl) rfl rfl rfl ?_
  refine G.yl (yl_assign rfl) rfl rfl rfl ?_
  refine G.yl (yl_assign rfl) rfl rfl rfl ?_
  refine G.nil ?_
  refine QA.then_normal ?_
  refine C.seq ?_
  refine C.seq ?_
  refine C.region ?_
  refine G.yl (yl_move rfl) rfl rfl rfl ?_
  refine G.yl (yl_move rfl) rfl rfl rfl ?_
  obtain ⟨y__2, hy13, hm⟩ := sp_bind hm
  rcases y__2 with z_2 | x_2
  · refine G.yield_go hyld_ rfl rfl hy13 h9 rfl rfl (fun w14 h15 => ?_)
    refine G.yl (yl_not rfl) rfl rfl rfl ?_
    refine G.yl (yl_move rfl) rfl rfl rfl ?_
    refine G.on rfl rfl (not_f rfl) ?_
    refine G.yl (yl_move rfl) rfl rfl rfl ?_
    refine G.on rfl rfl (not_f rfl) ?_
    refine G.yl (yl_not rfl) rfl rfl rfl ?_
    refine G.yl (yl_pick_f rfl (not_f rfl) rfl) rfl rfl rfl ?_
    refine G.nil ?_
    refine QA.then_normal ?_
    rcases sp_b hm with ⟨hc16, hm⟩ | ⟨hc16, hm⟩
    · refine C.cond_f rfl (not_f hc16) ?_
      refine C.skip ?_
      refine QA.then_normal ?_
      refine C.region ?_
      refine G.yl (yl_move rfl) rfl rfl rfl ?_
      refine G.unit (does_store (vs := [(.string (str r2))]) (Sat.pick [1, 0] h15) sz9 rfl rfl rfl rfl (List.forall_mem_cons.2 ⟨rfl, (fun _ hh => by cases hh)⟩) (Nat.le_of_ble_eq_true rfl)) rfl rfl ?_
      rintro _ w17 h19
      have h18 : Sat W w17 [blk b [(.string (str r2))] 9, B_ z_2] := h19
      refine G.nil ?_
      refine QA.block_normal ?_
      obtain rfl := sp_ret1 hm
      exact QA.againO (z_2, r2) hg6 (Sub.of ⟨rfl, rfl, trivial⟩) (Sat.pick [1, 0] h18)
    · refine C.cond_t rfl (not_t hc16) ?_
      refine C.ret ?_
      refine QA.then_ret ?_
      refine QA.block_ret ?_
      refine QA.then_ret ?_
      refine QA.block_ret ?_
      refine QA.ret0 rfl ?_
      obtain rfl := sp_ret1 hm
      obtain rfl : (.inl z_2) = o := hg6
      have hm : some (.inl z_2) = some o_ := hm2
      obtain rfl := sp_ret1 hm
      exact .inl ⟨_, rfl, Sat.one h15⟩
  · refine G.yield_stop hyld_ rfl rfl hy13 h9 rfl rfl (fun w20 h21 => ?_)
    refine G.yl (yl_not rfl) rfl rfl rfl ?_
    refine G.yl (yl_move rfl) rfl rfl rfl ?_
    refine G.offU rfl rfl (not_t rfl) rfl ?_
    refine G.offU rfl rfl (not_t rfl) rfl ?_
    refine G.yl (yl_pick_t rfl (not_t rfl) rfl) rfl rfl rfl ?_
    refine G.nil ?_
    refine QA.then_normal ?_
    refine C.cond_t rfl rfl ?_
    refine C.ret ?_
    refine QA.then_ret ?_
    refine QA.block_ret ?_
    refine QA.then_ret ?_
    refine QA.block_ret ?_
    refine QA.ret0 rfl ?_
    obtain rfl := sp_ret1 hm
    obtain rfl : (.inr x_2) = o := hg6
    have hm : some (.inr x_2) = some o_ := hm2
    obtain rfl := sp_ret1 hm
    exact .inr ⟨_, rfl, Sat.one h21⟩
set_option maxRecDepth 20000 in
set_option maxHeartbeats 1000000 in
theorem M_label_plain_w {W : Base} {w : World} {c : UInt8}  (h : Sat W w []) {r1 : Bool} (hm : M_label_plain c = some r1) :
    Calls Tryd.prog 32 #[(v8 c)] w (Ret fun v w' => v = (.bool r1) ∧ Sat W w' []) := by
  unfold M_label_plain at hm
  refine C.enter (N := 30) Tryd.func32 rfl Tryd.ntmps32 rfl ?_
  show C _ _ _ [(0, (v8 c))] _ _
  refine C.seq ?_
  refine C.region ?_
  refine G.yl (yl_assign rfl) rfl rfl rfl ?_
  refine G.nil ?_
  refine QA.then_normal ?_
  refine C.seq ?_
  refine C.block ?_
  refine C.seq ?_
  refine C.block ?_
  refine C.block ?_
  refine C.block ?_
  refine C.seq ?_
  refine C.join (γ := Unit) (fun g => match g with | () => [(0, (v8 c)), (2, (.bool false))]) (fun g ww => match g with | () => (M_label_plain_k1 c = some r1) ∧ Sat W ww []) ?_ ?_
  · refine C.seq ?_
    refine C.region ?_
    refine G.yl (yl_move rfl) rfl rfl rfl ?_
    refine G.yl (yl_ge8 (b := 97) rfl rfl) rfl rfl rfl ?_
    refine G.yl (yl_move rfl) rfl rfl rfl ?_
    rcases sp_ite hm with ⟨hc1, hm⟩ | ⟨hc1, hm⟩
    · refine G.on rfl rfl (dec_t hc1) ?_
      refine G.yl (yl_move rfl) rfl rfl rfl ?_
      refine G.on rfl rfl (dec_t hc1) ?_
      refine G.yl (yl_le8 (b := 122) rfl rfl) rfl rfl rfl ?_
      refine G.yl (yl_pick_t rfl (dec_t hc1) rfl) rfl rfl rfl ?_
      refine G.yl (yl_assign rfl) rfl rfl rfl ?_
      refine G.nil ?_
      refine QA.then_normal ?_
      rcases sp_ite hm with ⟨hc2, hm⟩ | ⟨hc2, hm⟩
      · refine C.cond_t rfl (dec_t hc2) ?_
        refine C.exit ?_
        refine QA.then_exit ?_
        refine QA.then_exit ?_
        refine QA.block_here ?_
        refine QA.block_normal ?_
        refine QA.block_normal ?_
        refine QA.then_normal ?_
        refine C.seq ?_
        refine C.seq ?_
        refine C.region ?_
        refine G.yl (yl_assign rfl) rfl rfl rfl ?_
        refine G.nil ?_
        refine QA.then_normal ?_
        refine C.ret ?_
        refine QA.then_ret ?_
        refine QA.block_ret ?_
        refine QA.then_ret ?_
        refine QA.ret1 rfl rfl ?_
        obtain rfl := sp_ret1 hm
        exact ⟨rfl, (Sat.pick [] h)⟩
      · refine C.cond_f rfl (dec_f hc2) ?_
        refine C.skip ?_
        exact QA.join () (Sub.of ⟨rfl, rfl, trivial⟩) ⟨hm, (Sat.pick [] h)⟩
    · refine G.offU rfl rfl (dec_f hc1) rfl ?_
      refine G.offU rfl rfl (dec_f hc1) rfl ?_
      refine G.yl (yl_pick_f rfl (dec_f hc1) rfl) rfl rfl rfl ?_
      refine G.yl (yl_assign rfl) rfl rfl rfl ?_
      refine G.nil ?_
      refine QA.then_normal ?_
      refine C.cond_f rfl rfl ?_
      refine C.skip ?_
      exact QA.join () (Sub.of ⟨rfl, rfl, trivial⟩) ⟨hm, (Sat.pick [] h)⟩
  · rintro _ w3 ⟨hm, h4⟩
    show C _ _ _ [(0, (v8 c)), (2, (.bool false))] _ _
    unfold M_label_plain_k1 at hm
    refine C.join (γ := Unit) (fun g => match g with | () => [(0, (v8 c)), (2, (.bool false))]) (fun g ww => match g with | () => (M_label_plain_k2 c = some r1) ∧ Sat W ww []) ?_ ?_
    · refine C.seq ?_
      refine C.region ?_
      refine G.yl (yl_move rfl) rfl rfl rfl ?_
      refine G.yl (yl_ge8 (b := 65) rfl rfl) rfl rfl rfl ?_
      refine G.yl (yl_move rfl) rfl rfl rfl ?_
      rcases sp_ite hm with ⟨hc5, hm⟩ | ⟨hc5, hm⟩
      · refine G.on rfl rfl (dec_t hc5) ?_
        refine G.yl (yl_move rfl) rfl rfl rfl ?_
        refine G.on rfl rfl (dec_t hc5) ?_
        refine G.yl (yl_le8 (b := 90) rfl rfl) rfl rfl rfl ?_
        refine G.yl (yl_pick_t rfl (dec_t hc5) rfl) rfl rfl rfl ?_
        refine G.yl (yl_assign rfl) rfl rfl rfl ?_
        refine G.nil ?_
        refine QA.then_normal ?_
        rcases sp_ite hm with ⟨hc6, hm⟩ | ⟨hc6, hm⟩
        · refine C.cond_t rfl (dec_t hc6) ?_
          refine C.exit ?_
          refine QA.then_exit ?_
          refine QA.then_exit ?_
          refine QA.block_other rfl ?_
          refine QA.block_here ?_
          refine QA.block_normal ?_
          refine QA.then_normal ?_
          refine C.seq ?_
          refine C.seq ?_
          refine C.region ?_
          refine G.yl (yl_assign rfl) rfl rfl rfl ?_
          refine G.nil ?_
          refine QA.then_normal ?_
          refine C.ret ?_
          refine QA.then_ret ?_
          refine QA.block_ret ?_
          refine QA.then_ret ?_
          refine QA.ret1 rfl rfl ?_
          obtain rfl := sp_ret1 hm
          exact ⟨rfl, (Sat.pick [] h4)⟩
        · refine C.cond_f rfl (dec_f hc6) ?_
          refine C.skip ?_
          exact QA.join () (Sub.of ⟨rfl, rfl, trivial⟩) ⟨hm, (Sat.pick [] h4)⟩
      · refine G.offU rfl rfl (dec_f hc5) rfl ?_
        refine G.offU rfl rfl (dec_f hc5) rfl ?_
        refine G.yl (yl_pick_f rfl (dec_f hc5) rfl) rfl rfl rfl ?_
        refine G.yl (yl_assign rfl) rfl rfl rfl ?_
        refine G.nil ?_
        refine QA.then_normal ?_
        refine C.cond_f rfl rfl ?_
        refine C.skip ?_
        exact QA.join () (Sub.of ⟨rfl, rfl, trivial⟩) ⟨hm, (Sat.pick [] h4)⟩
    · rintro _ w7 ⟨hm, h8⟩
      show C _ _ _ [(0, (v8 c)), (2, (.bool false))] _ _
      unfold M_label_plain_k2 at hm
      refine C.seq ?_
      refine C.region ?_
      refine G.yl (yl_move rfl) rfl rfl rfl ?_
      refine G.yl (yl_ge8 (b := 48) rfl rfl) rfl rfl rfl ?_
      refine G.yl (yl_move rfl) rfl rfl rfl ?_
      rcases sp_ite hm with ⟨hc9, hm⟩ | ⟨hc9, hm⟩
      · refine G.on rfl rfl (dec_t hc9) ?_
        refine G.yl (yl_move rfl) rfl rfl rfl ?_
        refine G.on rfl rfl (dec_t hc9) ?_
        refine G.yl (yl_le8 (b := 57) rfl rfl) rfl rfl rfl ?_
        refine G.yl (yl_pick_t rfl (dec_t hc9) rfl) rfl rfl rfl ?_
        refine G.yl (yl_assign rfl) rfl rfl rfl ?_
        refine G.nil ?_
        refine QA.then_normal ?_
        rcases sp_ite hm with ⟨hc10, hm⟩ | ⟨hc10, hm⟩
        · refine C.cond_t rfl (dec_t hc10) ?_
          refine C.exit ?_
          refine QA.then_exit ?_
          refine QA.block_other rfl ?_
          refine QA.block_other rfl ?_
          refine QA.block_here ?_
          refine QA.then_normal ?_
          refine C.seq ?_
          refine C.seq ?_
          refine C.region ?_
          refine G.yl (yl_assign rfl) rfl rfl rfl ?_
          refine G.nil ?_
          refine QA.then_normal ?_
          refine C.ret ?_
          refine QA.then_ret ?_
          refine QA.block_ret ?_
          refine QA.then_ret ?_
          refine QA.ret1 rfl rfl ?_
          obtain rfl := sp_ret1 hm
          exact ⟨rfl, (Sat.pick [] h8)⟩
        · refine C.cond_f rfl (dec_f hc10) ?_
          refine C.skip ?_
          refine QA.then_normal ?_
          refine C.exit ?_
          refine QA.block_other rfl ?_
          refine QA.block_other rfl ?_
          refine QA.block_other rfl ?_
          refine QA.then_exit ?_
          refine QA.block_here ?_
          refine QA.then_normal ?_
          refine C.seq ?_
          refine C.region ?_
          refine G.yl (yl_move rfl) rfl rfl rfl ?_
          refine G.yl (yl_eq8 (b := 45) rfl rfl) rfl rfl rfl ?_
          refine G.yl (yl_move rfl) rfl rfl rfl ?_
          rcases sp_ite hm with ⟨hc11, hm⟩ | ⟨hc11, hm⟩
          · refine G.offU rfl rfl (dec_t hc11) rfl ?_
            refine G.offU rfl rfl (dec_t hc11) rfl ?_
            refine G.yl (yl_pick_t rfl (dec_t hc11) rfl) rfl rfl rfl ?_
            refine G.yl (yl_assign rfl) rfl rfl rfl ?_
            refine G.nil ?_
            refine QA.then_normal ?_
            refine C.ret ?_
            refine QA.ret1 rfl rfl ?_
            obtain rfl := sp_ret1 hm
            exact ⟨rfl, (Sat.pick [] h8)⟩
          · refine G.on rfl rfl (dec_f hc11) ?_
            refine G.yl (yl_move rfl) rfl rfl rfl ?_
            refine G.on rfl rfl (dec_f hc11) ?_
            refine G.yl (yl_eq8 (b := 95) rfl rfl) rfl rfl rfl ?_
            refine G.yl (yl_pick_f rfl (dec_f hc11) rfl) rfl rfl rfl ?_
            refine G.yl (yl_assign rfl) rfl rfl rfl ?_
            refine G.nil ?_
            refine QA.then_normal ?_
            refine C.ret ?_
            refine QA.ret1 rfl rfl ?_
            obtain rfl := sp_ret1 hm
            exact ⟨rfl, (Sat.pick [] h8)⟩
      · refine G.offU rfl rfl (dec_f hc9) rfl ?_
        refine G.offU rfl rfl (dec_f hc9) rfl ?_
        refine G.yl (yl_pick_f rfl (dec_f hc9) rfl) rfl rfl rfl ?_
        refine G.yl (yl_assign rfl) rfl rfl rfl ?_
        refine G.nil ?_
        refine QA.then_normal ?_
        refine C.cond_f rfl rfl ?_
        refine C.skip ?_
        refine QA.then_normal ?_
        refine C.exit ?_
        refine QA.block_other rfl ?_
        refine QA.block_other rfl ?_
        refine QA.block_other rfl ?_
        refine QA.then_exit ?_
        refine QA.block_here ?_
        refine QA.then_normal ?_
        refine C.seq ?_
        refine C.region ?_
        refine G.yl (yl_move rfl) rfl rfl rfl ?_
        refine G.yl (yl_eq8 (b := 45) rfl rfl) rfl rfl rfl ?_
        refine G.yl (yl_move rfl) rfl rfl rfl ?_
        rcases sp_ite hm with ⟨hc12, hm⟩ | ⟨hc12, hm⟩
        · refine G.offU rfl rfl (dec_t hc12) rfl ?_
          refine G.offU rfl rfl (dec_t hc12) rfl ?_
          refine G.yl (yl_pick_t rfl (dec_t hc12) rfl) rfl rfl rfl ?_
          refine G.yl (yl_assign rfl) rfl rfl rfl ?_
          refine G.nil ?_
          refine QA.then_normal ?_
          refine C.ret ?_
          refine QA.ret1 rfl rfl ?_
          obtain rfl := sp_ret1 hm
          exact ⟨rfl, (Sat.pick [] h8)⟩
        · refine G.on rfl rfl (dec_f hc12) ?_
          refine G.yl (yl_move rfl) rfl rfl rfl ?_
          refine G.on rfl rfl (dec_f hc12) ?_
          refine G.yl (yl_eq8 (b := 95) rfl rfl) rfl rfl rfl ?_
          refine G.yl (yl_pick_f rfl (dec_f hc12) rfl) rfl rfl rfl ?_
          refine G.yl (yl_assign rfl) rfl rfl rfl ?_
          refine G.nil ?_
          refine QA.then_normal ?_
          refine C.ret ?_
          refine QA.ret1 rfl rfl ?_
          obtain rfl := sp_ret1 hm
          exact ⟨rfl, (Sat.pick [] h8)⟩
set_option maxRecDepth 20000 in
set_option maxHeartbeats 1000000 in
theorem M_label_Part_w {W : Base} {w : World} {s : List UInt8}  (h : Sat W w []) {r1 : Bool} (hm : M_label_Part s = some r1) :
    Calls Tryd.prog 21 #[(.string (str s))] w (Ret fun v w' => v = (.bool r1) ∧ Sat W w' []) := by
  unfold M_label_Part at hm
  refine C.enter (N := 37) Tryd.func21 rfl Tryd.ntmps21 rfl ?_
  show C _ _ _ [(0, (.string (str s)))] _ _
  refine C.seq ?_
  refine C.region ?_
  refine G.yl (yl_assign rfl) rfl rfl rfl ?_
  refine G.nil ?_
  refine QA.then_normal ?_
  refine C.seq ?_
  refine C.join (γ := Bool) (fun g => match g with | t25 => [(0, (.string (str s))), (2, (.bool false)), (25, (.bool t25))]) (fun g ww => match g with | t25 => (M_label_Part_k1 s t25 = some r1) ∧ Sat W ww []) ?_ ?_
  · refine C.region ?_
    refine G.yl (yl_move rfl) rfl rfl rfl ?_
    refine G.yl (yl_slenE Tryd.underlying9 rfl) rfl rfl rfl ?_
    refine G.yl (yl_ltI rfl rfl) rfl rfl rfl ?_
    refine G.yl (yl_move rfl) rfl rfl rfl ?_
    rcases sp_ite hm with ⟨hc1, hm⟩ | ⟨hc1, hm⟩
    · refine G.offU rfl rfl (dec_t hc1) rfl ?_
      refine G.offU rfl rfl (dec_t hc1) rfl ?_
      refine G.offU rfl rfl (dec_t hc1) rfl ?_
      refine G.yl (yl_pick_t rfl (dec_t hc1) rfl) rfl rfl rfl ?_
      refine G.yl (yl_move rfl) rfl rfl rfl ?_
      refine G.offU rfl rfl rfl rfl ?_
      refine G.offU rfl rfl rfl rfl ?_
      refine G.offU rfl rfl rfl rfl ?_
      refine G.yl (yl_pick_t rfl rfl rfl) rfl rfl rfl ?_
      refine G.yl (yl_move rfl) rfl rfl rfl ?_
      refine G.offU rfl rfl rfl rfl ?_
      refine G.offU rfl rfl rfl rfl ?_
      refine G.offU rfl rfl rfl rfl ?_
      refine G.offU rfl rfl rfl rfl ?_
      refine G.offU rfl rfl rfl rfl ?_
      refine G.offU rfl rfl rfl rfl ?_
      refine G.yl (yl_pick_t rfl rfl rfl) rfl rfl rfl ?_
      refine G.nil ?_
      exact QA.join true (Sub.of ⟨rfl, rfl, rfl, trivial⟩) ⟨hm, (Sat.pick [] h)⟩
    · refine G.on rfl rfl (dec_f hc1) ?_
      refine G.yl (yl_move rfl) rfl rfl rfl ?_
      refine G.on rfl rfl (dec_f hc1) ?_
      refine G.yl (yl_slenE Tryd.underlying9 rfl) rfl rfl rfl ?_
      refine G.on rfl rfl (dec_f hc1) ?_
      refine G.yl (yl_gtI rfl rfl) rfl rfl rfl ?_
      refine G.yl (yl_pick_f rfl (dec_f hc1) rfl) rfl rfl rfl ?_
      refine G.yl (yl_move rfl) rfl rfl rfl ?_
      rcases sp_ite hm with ⟨hc2, hm⟩ | ⟨hc2, hm⟩
      · refine G.offU rfl rfl (dec_t hc2) rfl ?_
        refine G.offU rfl rfl (dec_t hc2) rfl ?_
        refine G.offU rfl rfl (dec_t hc2) rfl ?_
        refine G.yl (yl_pick_t rfl (dec_t hc2) rfl) rfl rfl rfl ?_
        refine G.yl (yl_move rfl) rfl rfl rfl ?_
        refine G.offU rfl rfl rfl rfl ?_
        refine G.offU rfl rfl rfl rfl ?_
        refine G.offU rfl rfl rfl rfl ?_
        refine G.offU rfl rfl rfl rfl ?_
        refine G.offU rfl rfl rfl rfl ?_
        refine G.offU rfl rfl rfl rfl ?_
        refine G.yl (yl_pick_t rfl rfl rfl) rfl rfl rfl ?_
        refine G.nil ?_
        exact QA.join true (Sub.of ⟨rfl, rfl, rfl, trivial⟩) ⟨hm, (Sat.pick [] h)⟩
      · refine G.on rfl rfl (dec_f hc2) ?_
        refine G.yl (yl_move rfl) rfl rfl rfl ?_
        refine G.on rfl rfl (dec_f hc2) ?_
        obtain ⟨c, hy3, hm⟩ := sp_bind hm
        refine G.yl (yl_ixS Tryd.underlying9 rfl rfl hy3) rfl rfl rfl ?_
        refine G.on rfl rfl (dec_f hc2) ?_
        refine G.yl (yl_eq8 (b := 45) rfl rfl) rfl rfl rfl ?_
        refine G.yl (yl_pick_f rfl (dec_f hc2) rfl) rfl rfl rfl ?_
        refine G.yl (yl_move rfl) rfl rfl rfl ?_
        rcases sp_ite hm with ⟨hc4, hm⟩ | ⟨hc4, hm⟩
        · refine G.offU rfl rfl (dec_t hc4) rfl ?_
          refine G.offU rfl rfl (dec_t hc4) rfl ?_
          refine G.offU rfl rfl (dec_t hc4) rfl ?_
          refine G.offU rfl rfl (dec_t hc4) rfl ?_
          refine G.offU rfl rfl (dec_t hc4) rfl ?_
          refine G.offU rfl rfl (dec_t hc4) rfl ?_
          refine G.yl (yl_pick_t rfl (dec_t hc4) rfl) rfl rfl rfl ?_
          refine G.nil ?_
          exact QA.join true (Sub.of ⟨rfl, rfl, rfl, trivial⟩) ⟨hm, (Sat.pick [] h)⟩
        · refine G.on rfl rfl (dec_f hc4) ?_
          refine G.yl (yl_move rfl) rfl rfl rfl ?_
          refine G.on rfl rfl (dec_f hc4) ?_
          refine G.yl (yl_move rfl) rfl rfl rfl ?_
          refine G.on rfl rfl (dec_f hc4) ?_
          refine G.yl (yl_slenE Tryd.underlying9 rfl) rfl rfl rfl ?_
          refine G.on rfl rfl (dec_f hc4) ?_
          obtain ⟨hc5, hm⟩ := sp_chk hm
          refine G.yl (yl_subI rfl rfl hc5) rfl rfl rfl ?_
          refine G.on rfl rfl (dec_f hc4) ?_
          obtain ⟨c_2, hy6, hm⟩ := sp_bind hm
          refine G.yl (yl_ixS Tryd.underlying9 rfl rfl hy6) rfl rfl rfl ?_
          refine G.on rfl rfl (dec_f hc4) ?_
          refine G.yl (yl_eq8 (b := 45) rfl rfl) rfl rfl rfl ?_
          refine G.yl (yl_pick_f rfl (dec_f hc4) rfl) rfl rfl rfl ?_
          refine G.nil ?_
          exact QA.join (decide (c_2 = 45)) (Sub.of ⟨rfl, rfl, rfl, trivial⟩) ⟨hm, (Sat.pick [] h)⟩
  · rintro t25 w7 ⟨hm, h8⟩
    show C _ _ _ [(0, (.string (str s))), (2, (.bool false)), (25, (.bool t25))] _ _
    unfold M_label_Part_k1 at hm
    rcases sp_b hm with ⟨hc9, hm⟩ | ⟨hc9, hm⟩
    · refine C.cond_t rfl hc9 ?_
      refine C.seq ?_
      refine C.region ?_
      refine G.yl (yl_assign rfl) rfl rfl rfl ?_
      refine G.nil ?_
      refine QA.then_normal ?_
      refine C.ret ?_
      refine QA.then_ret ?_
      refine QA.ret1 rfl rfl ?_
      obtain rfl := sp_ret1 hm
      exact ⟨rfl, (Sat.pick [] h8)⟩
    · refine C.cond_f rfl hc9 ?_
      refine C.skip ?_
      refine QA.then_normal ?_
      refine C.seq ?_
      refine C.seq ?_
      refine C.region ?_
      refine G.yl (yl_move rfl) rfl rfl rfl ?_
      obtain ⟨hc10, hm⟩ := sp_chk hm
      refine G.does (does_bytes h8 Tryd.underlying9 Tryd.underlying44 Tryd.underlying5 el5 rfl hc10) rfl rfl rfl ?_
      rintro _ w13 ⟨a11, c12, rfl, h14⟩
      refine G.yl (yl_lenE Tryd.underlying44 rfl) rfl rfl rfl ?_
      refine G.yl (yl_move rfl) rfl rfl rfl ?_
      refine G.nil ?_
      refine QA.then_normal ?_
      refine C.block ?_
      obtain ⟨o, ho15, hm16⟩ := sp_bind hm
      refine C.left (γ := Unit) (.exit 0) (fun g => match g with | () => [(2, (.bool false))]) (fun g ww => match g with | () => .inl () = o ∧ Sat W ww []) ?_ ?_
      · refine C.loopO (γ := Int) (fun g => match g with | t29 => [(2, (.bool false)), (27, (.slice a11 s.length c12)), (28, (vI (s.length : Int))), (29, (vI t29))]) (fun g ww => match g with | t29 => Sat W ww [ow elU8 a11 c12 5 s]) (fun g => match g with | t29 => t29) 0 ho15 (Sub.of ⟨rfl, rfl, rfl, rfl, trivial⟩) (Sat.pick [0] h14) ?_
        rintro t29 k19 w17 y_ h18 hm hg20
        show C _ _ _ [(2, (.bool false)), (27, (.slice a11 s.length c12)), (28, (vI (s.length : Int))), (29, (vI t29))] _ _
        change M_label_Part_b2 s t29 = some y_ at hm
        unfold M_label_Part_b2 at hm
        refine C.seq ?_
        refine C.region ?_
        refine G.yl (yl_ltI rfl rfl) rfl rfl rfl ?_
        refine G.nil ?_
        refine QA.then_normal ?_
        refine C.seq ?_
        rcases sp_ite hm with ⟨hc21, hm⟩ | ⟨hc21, hm⟩
        · refine C.cond_t rfl (dec_t hc21) ?_
          refine C.skip ?_
          refine QA.then_normal ?_
          refine C.seq ?_
          refine C.block ?_
          refine C.seq ?_
          refine C.region ?_
          obtain ⟨x, hy22, hm⟩ := sp_bind hm
          refine G.yl (yl_ixP (l := s) sl44 rfl rfl (View.isA (E := elU8) (Sat.own_view h18) (by decide) (at?_lt hy22)) rfl (at?_lt hy22)) rfl rfl rfl ?_
          refine G.yl (yl_ld1 (E := elU8) (v := (v8 x)) ag5 rfl (Sat.own_view h18) (at?_some hy22).2 rfl) rfl rfl rfl ?_
          refine G.yl (yl_assign rfl) rfl rfl rfl ?_
          refine G.nil ?_
          refine QA.then_normal ?_
          refine C.seq ?_
          refine C.region ?_
          refine G.yl (yl_move rfl) rfl rfl rfl ?_
          obtain ⟨r1_2, hy23, hm⟩ := sp_bind hm
          refine G.does (does_fn 0 rfl rfl rfl en32 h18 (fun U hU hp hr hs => M_label_plain_w (c := x) hp hy23)) rfl rfl rfl ?_
          rintro _ w24 ⟨U27, hb28, rfl, h26⟩
          have h25 : Sat W w24 [ow elU8 a11 c12 5 s] := hb28 h26
          refine G.yl (yl_not rfl) rfl rfl rfl ?_
          refine G.nil ?_
          refine QA.then_normal ?_
          rcases sp_b hm with ⟨hc29, hm⟩ | ⟨hc29, hm⟩
          · refine C.cond_f rfl (not_f hc29) ?_
            refine C.skip ?_
            refine QA.block_normal ?_
            refine QA.then_normal ?_
            refine C.region ?_
            obtain ⟨hc30, hm⟩ := sp_chk hm
            refine G.yl (yl_addI rfl rfl hc30) rfl rfl rfl ?_
            refine G.yl (yl_move rfl) rfl rfl rfl ?_
            refine G.nil ?_
            obtain rfl := sp_ret1 hm
            exact QA.againO (t29 + 1) hg20 (Sub.of ⟨rfl, rfl, rfl, rfl, trivial⟩) (Sat.pick [0] h25)
          · refine C.cond_t rfl (not_t hc29) ?_
            refine C.seq ?_
            refine C.region ?_
            refine G.yl (yl_assign rfl) rfl rfl rfl ?_
            refine G.nil ?_
            refine QA.then_normal ?_
            refine C.ret ?_
            refine QA.block_ret ?_
            refine QA.then_ret ?_
            refine QA.then_ret ?_
            refine QA.past (by simp) ?_
            refine QA.block_ret ?_
            refine QA.then_ret ?_
            refine QA.ret1 rfl rfl ?_
            obtain rfl := sp_ret1 hm
            obtain rfl : .inr false = o := hg20
            have hm : some false = some r1 := hm16
            obtain rfl := sp_ret1 hm
            exact ⟨rfl, (Sat.pick [] h25)⟩
        · refine C.cond_f rfl (dec_f hc21) ?_
          refine C.exit ?_
          refine QA.then_exit ?_
          refine QA.then_exit ?_
          obtain rfl := sp_ret1 hm
          exact QA.left () (Sub.of ⟨rfl, trivial⟩) ⟨hg20, (Sat.pick [] h18)⟩
      · rintro _ w31 ⟨rfl, h32⟩
        have hm := hm16
        show QA _ _ [(2, (.bool false))] _ _
        refine QA.block_here ?_
        refine QA.then_normal ?_
        refine C.seq ?_
        refine C.region ?_
        refine G.yl (yl_assign rfl) rfl rfl rfl ?_
        refine G.nil ?_
        refine QA.then_normal ?_
        refine C.ret ?_
        refine QA.ret1 rfl rfl ?_
        obtain rfl := sp_ret1 hm
        exact ⟨rfl, (Sat.pick [] h32)⟩
set_option maxRecDepth 20000 in
set_option maxHeartbeats 1000000 in
theorem M_label_Good_w {W : Base} {w : World} {s : List UInt8}  (h : Sat W w []) {r1 : Bool} (hm : M_label_Good s = some r1) :
    Calls Tryd.prog 12 #[(.string (str s))] w (Ret fun v w' => v = (.bool r1) ∧ Sat W w' []) := by
  unfold M_label_Good at hm
  refine C.enterM (N := 13) Tryd.func12 rfl Tryd.ntmps12 rfl ?_
  show C _ _ _ [(0, (.string (str s)))] _ _
  refine C.seq ?_
  refine C.region ?_
  refine G.does (does_alloc (cs := [(.bool false)]) h z4 rfl) rfl rfl rfl ?_
  rintro _ w2 ⟨b1, rfl, h3⟩
  refine G.nil ?_
  refine QA.then_normal ?_
  refine C.seq ?_
  refine C.seq ?_
  refine C.region ?_
  refine G.yl (yl_move rfl) rfl rfl rfl ?_
  refine G.yl (yl_slenE Tryd.underlying9 rfl) rfl rfl rfl ?_
  refine G.yl (yl_gtI rfl rfl) rfl rfl rfl ?_
  refine G.nil ?_
  refine QA.then_normal ?_
  rcases sp_ite hm with ⟨hc4, hm⟩ | ⟨hc4, hm⟩
  · refine C.cond_t rfl (dec_t hc4) ?_
    refine C.seq ?_
    refine C.region ?_
    refine G.unit (does_store (vs := [(.bool false)]) h3 sz4 rfl rfl rfl rfl (List.forall_mem_cons.2 ⟨rfl, (fun _ hh => by cases hh)⟩) (Nat.le_of_ble_eq_true rfl)) rfl rfl ?_
    rintro _ w5 h7
    have h6 : Sat W w5 [blk b1 [(.bool false)] 4] := h7
    refine G.nil ?_
    refine QA.then_normal ?_
    refine C.ret ?_
    refine QA.then_ret ?_
    refine QA.out (.inl rfl) ?_
    refine QA.ret_c rfl (InCell.one (v := (.bool false)) rfl ag4 (View.at0 (j := 0) h6.isBlk.view0 rfl)) ?_
    obtain rfl := sp_ret1 hm
    exact ⟨rfl, (Sat.pick [] h6)⟩
  · refine C.cond_f rfl (dec_f hc4) ?_
    refine C.skip ?_
    refine QA.then_normal ?_
    refine C.seq ?_
    refine C.seq ?_
    refine C.region ?_
    refine G.yl (yl_move rfl) rfl rfl rfl ?_
    obtain ⟨_, hy8, hm⟩ := sp_bind hm
    refine G.does (does_fn 0 rfl rfl rfl en20 h3 (fun U hU hp hr hs => M_label_parts_w (s := s) hp hy8)) rfl rfl rfl ?_
    rintro _ w10 ⟨U13, hb14, r19, rfl, h12⟩
    have h11 : Sat W w10 [blk r19 [(.string (str s))] 9, blk b1 [(.bool false)] 4] := hb14 h12
    refine G.nil ?_
    refine QA.then_normal ?_
    refine C.block ?_
    obtain ⟨o, ho15, hm16⟩ := sp_bind hm
    refine C.rangeFunc (γ := Unit) (δ := Unit) (σ := Unit) (ρ := Unit) (M := @fun σ_ ρ_ f_ z_ => M_label_parts_1_p f_ s z_) (f := (fun (_ : Unit) x => M_label_Good_r1 x)) (enc := (fun (x : List UInt8) => [(.string (str x))])) (K := [blk r19 [(.string (str s))] 9]) (l := []) (fun g => match g with | () => [blk b1 [(.bool false)] 4]) (fun g => match g with | () => True) (fun g => match g with | () => ()) (fun d => match d with | () => [blk b1 [(.bool false)] 4]) (fun d => match d with | () => True) (fun d => match d with | () => ()) (fun d => match d with | () => .ret) (fun x => [(2, (.pointer (some ⟨b1, 0, none⟩))), (9, (.string (str x))), (3, (.string (str x)))]) () ho15 trivial rfl en30 (Sat.pick [0, 0] h11) (fun V w1 hs hc => M_label_parts_1_p_it (x := s)) (fun _ => rfl) rfl ?_ ?_ ?_ ?_
    · intro rd_ x u_
      refine C.sub (A := [(2, (.pointer (some ⟨b1, 0, none⟩))), (9, (.string (str x)))]) (Sub.of ⟨rfl, rfl, trivial⟩) ?_
      refine C.region ?_
      refine G.yl (yl_assign rfl) rfl rfl rfl ?_
      refine G.nil ?_
      exact fun a_ ha_ => ⟨rfl, ha_.sub (Sub.of ⟨rfl, rfl, rfl, trivial⟩), rfl⟩
    · intro W w1_ hs_
      rintro rd_ _ x y_ u_ R_ _ h_ hm
      replace h_ : Sat W u_ [blk b1 [(.bool false)] 4, R_] := h_
      change M_label_Good_r1 x = some y_ at hm
      unfold M_label_Good_r1 at hm
      refine C.block ?_
      refine C.seq ?_
      refine C.region ?_
      refine G.yl (yl_move rfl) rfl rfl rfl ?_
      obtain ⟨r1_2, hy17, hm⟩ := sp_bind hm
      refine G.does (does_fn 0 rfl rfl rfl en21 h_ (fun U hU hp hr hs => M_label_Part_w (s := x) hp hy17)) rfl rfl rfl ?_
      rintro _ w18 ⟨U21, hb22, rfl, h20⟩
      have h19 : Sat W w18 [blk b1 [(.bool false)] 4, R_] := hb22 h20
      refine G.yl (yl_not rfl) rfl rfl rfl ?_
      refine G.nil ?_
      refine QA.then_normal ?_
      rcases sp_b hm with ⟨hc23, hm⟩ | ⟨hc23, hm⟩
      · refine C.cond_f rfl (not_f hc23) ?_
        refine C.skip ?_
        refine QA.block_normal ?_
        obtain rfl := sp_ret1 hm
        exact fun _ _ => .inl ⟨rfl, (), rfl, trivial, (Sat.pick [0, 0] h19)⟩
      · refine C.cond_t rfl (not_t hc23) ?_
        refine C.seq ?_
        refine C.region ?_
        refine G.unit (does_store (vs := [(.bool false)]) h19 sz4 rfl rfl rfl rfl (List.forall_mem_cons.2 ⟨rfl, (fun _ hh => by cases hh)⟩) (Nat.le_of_ble_eq_true rfl)) rfl rfl ?_
        rintro _ w24 h26
        have h25 : Sat W w24 [blk b1 [(.bool false)] 4, R_] := h26
        refine G.nil ?_
        refine QA.then_normal ?_
        refine C.ret ?_
        refine QA.block_ret ?_
        obtain rfl := sp_ret1 hm
        exact fun _ _ => .inr ⟨(), rfl, trivial, rfl, rfl, (Sat.pick [0, 0] h25)⟩
    · rintro D _ w27 ho29 _ h28
      subst ho29
      have hm := hm16
      replace h28 : Sat W w27 [obj D (.deferred (some [])), blk b1 [(.bool false)] 4] := h28
      refine QA.block_normal ?_
      refine QA.then_normal ?_
      refine C.seq ?_
      refine C.region ?_
      refine G.unit (does_store (vs := [(.bool true)]) (Sat.pick [1, 0] h28) sz4 rfl rfl rfl rfl (List.forall_mem_cons.2 ⟨rfl, (fun _ hh => by cases hh)⟩) (Nat.le_of_ble_eq_true rfl)) rfl rfl ?_
      rintro _ w30 h32
      have h31 : Sat W w30 [blk b1 [(.bool true)] 4, obj D (.deferred (some []))] := h32
      refine G.nil ?_
      refine QA.then_normal ?_
      refine C.ret ?_
      refine QA.outM (.inl rfl) (Sat.obj_at (Sat.pick [1, 0] h31)) ?_
      have h33 := (Sat.obj_put (Sat.pick [1, 0] h31) (.deferred none)).tail
      replace h33 : Sat W (World.putObj w30 D (.deferred none)) [blk b1 [(.bool true)] 4] := h33
      refine QA.out (.inl rfl) ?_
      refine QA.ret_c rfl (InCell.one (v := (.bool true)) rfl ag4 (View.at0 (j := 0) h33.isBlk.view0 rfl)) ?_
      obtain rfl := sp_ret1 hm
      exact ⟨rfl, (Sat.pick [] h33)⟩
    · intro D d_ w2_ hod_ hfx_ hd_
      subst hod_
      have hm := hm16
      replace hd_ : Sat W w2_ [obj D (.deferred (some [])), blk b1 [(.bool false)] 4] := hd_
      show QA _ .ret _ _ _
      refine QA.block_ret ?_
      refine QA.then_ret ?_
      refine QA.outM (.inl rfl) (Sat.obj_at (Sat.pick [0, 0] hd_)) ?_
      have h37 := (Sat.obj_put (Sat.pick [0, 0] hd_) (.deferred none)).tail
      replace h37 : Sat W (World.putObj w2_ D (.deferred none)) [blk b1 [(.bool false)] 4] := h37
      refine QA.out (.inl rfl) ?_
      refine QA.ret_c rfl (InCell.one (v := (.bool false)) rfl ag4 (View.at0 (j := 0) h37.isBlk.view0 rfl)) ?_
      obtain rfl := sp_ret1 hm
      exact ⟨rfl, (Sat.pick [] h37)⟩
set_option maxRecDepth 20000 in
set_option maxHeartbeats 1000000 in
theorem M_label_Fold_w {W : Base} {w : World} {s : List UInt8}  (h : Sat W w []) {r1 : List UInt8} (hm : M_label_Fold s = some r1) :
    Calls Tryd.prog 14 #[(.string (str s))] w (Ret fun v w' => v = (.string (str r1)) ∧ Sat W w' []) := by
  unfold M_label_Fold at hm
  refine C.enter (N := 29) Tryd.func14 rfl Tryd.ntmps14 rfl ?_
  show C _ _ _ [(0, (.string (str s)))] _ _
  refine C.seq ?_
  refine C.region ?_
  refine G.yl (yl_assign rfl) rfl rfl rfl ?_
  refine G.nil ?_
  refine QA.then_normal ?_
  refine C.seq ?_
  refine C.region ?_
  refine G.yl (yl_move rfl) rfl rfl rfl ?_
  obtain ⟨hc1, hm⟩ := sp_chk hm
  refine G.does (does_bytes h Tryd.underlying9 Tryd.underlying44 Tryd.underlying5 el5 rfl hc1) rfl rfl rfl ?_
  rintro _ w4 ⟨a2, c3, rfl, h5⟩
  refine G.yl (yl_assign rfl) rfl rfl rfl ?_
  refine G.nil ?_
  refine QA.then_normal ?_
  refine C.seq ?_
  refine C.seq ?_
  refine C.region ?_
  refine G.yl (yl_move rfl) rfl rfl rfl ?_
  refine G.yl (yl_lenE Tryd.underlying44 rfl) rfl rfl rfl ?_
  refine G.yl (yl_move rfl) rfl rfl rfl ?_
  refine G.nil ?_
  refine QA.then_normal ?_
  refine C.block ?_
  obtain ⟨o, ho8, hm9⟩ := sp_bind hm
  refine C.left (γ := List UInt8) (.exit 0) (fun g => match g with | b_2 => [(2, (.string (str ([] : List UInt8)))), (3, (.slice a2 s.length c3))]) (fun g ww => match g with | b_2 => b_2 = o ∧ (b_2.length = s.length) ∧ Sat W ww [ow elU8 a2 c3 5 b_2]) ?_ ?_
  · refine C.loopO (γ := List UInt8 × Int) (fun g => match g with | (b, t10) => [(2, (.string (str ([] : List UInt8)))), (3, (.slice a2 s.length c3)), (8, (.slice a2 s.length c3)), (9, (vI (s.length : Int))), (10, (vI t10))]) (fun g ww => match g with | (b, t10) => (b.length = s.length) ∧ Sat W ww [ow elU8 a2 c3 5 b]) (fun g => match g with | (b, t10) => (b, t10)) (s, 0) ho8 (Sub.of ⟨rfl, rfl, rfl, rfl, rfl, trivial⟩) ⟨(by simp [copyL_length]), (Sat.pick [0] h5)⟩ ?_
    rintro ⟨b, t10⟩ k12 w10 y_ ⟨hl6, h11⟩ hm hg13
    show C _ _ _ [(2, (.string (str ([] : List UInt8)))), (3, (.slice a2 s.length c3)), (8, (.slice a2 s.length c3)), (9, (vI (s.length : Int))), (10, (vI t10))] _ _
    change M_label_Fold_b1 s b t10 = some y_ at hm
    unfold M_label_Fold_b1 at hm
    refine C.seq ?_
    refine C.region ?_
    refine G.yl (yl_ltI rfl rfl) rfl rfl rfl ?_
    refine G.nil ?_
    refine QA.then_normal ?_
    refine C.seq ?_
    rcases sp_ite hm with ⟨hc14, hm⟩ | ⟨hc14, hm⟩
    · refine C.cond_t rfl (dec_t hc14) ?_
      refine C.skip ?_
      refine QA.then_normal ?_
      refine C.seq ?_
      refine C.block ?_
      refine C.seq ?_
      refine C.region ?_
      refine G.yl (yl_move rfl) rfl rfl rfl ?_
      obtain ⟨x, hy15, hm⟩ := sp_bind hm
      refine G.yl (yl_ixP (l := b) sl44 rfl rfl (View.isA (E := elU8) (Sat.own_view h11) (by decide) (at?_lt hy15)) (by simp [copyL_length, hl6]) (at?_lt hy15)) rfl rfl rfl ?_
      refine G.yl (yl_ld1 (E := elU8) (v := (v8 x)) ag5 rfl (Sat.own_view h11) (at?_some hy15).2 rfl) rfl rfl rfl ?_
      refine G.yl (yl_assign rfl) rfl rfl rfl ?_
      refine G.yl (yl_assign rfl) rfl rfl rfl ?_
      refine G.nil ?_
      refine QA.then_normal ?_
      refine C.join (γ := Bool) (fun g => match g with | t20 => [(2, (.string (str ([] : List UInt8)))), (3, (.slice a2 s.length c3)), (4, (vI t10)), (5, (v8 x)), (8, (.slice a2 s.length c3)), (9, (vI (s.length : Int))), (10, (vI t10)), (20, (.bool t20))]) (fun g ww => match g with | t20 => (M_label_Fold_k2 b t10 x t20 = some y_) ∧ Sat W ww [ow elU8 a2 c3 5 b]) ?_ ?_
      · refine C.region ?_
        refine G.yl (yl_move rfl) rfl rfl rfl ?_
        refine G.yl (yl_ge8 (b := 65) rfl rfl) rfl rfl rfl ?_
        refine G.yl (yl_move rfl) rfl rfl rfl ?_
        rcases sp_ite hm with ⟨hc16, hm⟩ | ⟨hc16, hm⟩
        · refine G.on rfl rfl (dec_t hc16) ?_
          refine G.yl (yl_move rfl) rfl rfl rfl ?_
          refine G.on rfl rfl (dec_t hc16) ?_
          refine G.yl (yl_le8 (b := 90) rfl rfl) rfl rfl rfl ?_
          refine G.yl (yl_pick_t rfl (dec_t hc16) rfl) rfl rfl rfl ?_
          refine G.nil ?_
          exact QA.join (decide (x ≤ 90)) (Sub.of ⟨rfl, rfl, rfl, rfl, rfl, rfl, rfl, rfl, trivial⟩) ⟨hm, (Sat.pick [0] h11)⟩
        · refine G.offU rfl rfl (dec_f hc16) rfl ?_
          refine G.offU rfl rfl (dec_f hc16) rfl ?_
          refine G.yl (yl_pick_f rfl (dec_f hc16) rfl) rfl rfl rfl ?_
          refine G.nil ?_
          exact QA.join false (Sub.of ⟨rfl, rfl, rfl, rfl, rfl, rfl, rfl, rfl, trivial⟩) ⟨hm, (Sat.pick [0] h11)⟩
      · rintro t20 w17 ⟨hm, h18⟩
        show C _ _ _ [(2, (.string (str ([] : List UInt8)))), (3, (.slice a2 s.length c3)), (4, (vI t10)), (5, (v8 x)), (8, (.slice a2 s.length c3)), (9, (vI (s.length : Int))), (10, (vI t10)), (20, (.bool t20))] _ _
        unfold M_label_Fold_k2 at hm
        rcases sp_b hm with ⟨hc19, hm⟩ | ⟨hc19, hm⟩
        · refine C.cond_t rfl hc19 ?_
          refine C.region ?_
          refine G.yl (yl_move rfl) rfl rfl rfl ?_
          refine G.yl (yl_move rfl) rfl rfl rfl ?_
          refine G.yl (yl_move rfl) rfl rfl rfl ?_
          refine G.yl (yl_or8 (b := 32) rfl rfl) rfl rfl rfl ?_
          obtain ⟨x_2, hy20, hm⟩ := sp_bind hm
          refine G.yl (yl_ixP (l := b) sl44 rfl rfl (View.isA (E := elU8) (Sat.own_view h18) (by decide) (at?_lt hy20)) (by simp [copyL_length, hl6]) (at?_lt hy20)) rfl rfl rfl ?_
          refine G.unit (does_stE (E := elU8) (r := x ||| 32) h18 sz5 rfl rfl (by decide) rfl (List.getElem?_eq_some_iff.1 (at?_some hy20).2).1) rfl rfl ?_
          rintro _ w21 h22
          refine G.nil ?_
          refine QA.block_normal ?_
          refine QA.then_normal ?_
          refine C.region ?_
          obtain ⟨hc23, hm⟩ := sp_chk hm
          refine G.yl (yl_addI rfl rfl hc23) rfl rfl rfl ?_
          refine G.yl (yl_move rfl) rfl rfl rfl ?_
          refine G.nil ?_
          obtain rfl := sp_ret1 hm
          exact QA.againO (b.set t10.toNat (x ||| 32), t10 + 1) hg13 (Sub.of ⟨rfl, (look_eq rfl (by simp [copyL_length, hl6])), (look_eq rfl (by simp [copyL_length, hl6])), rfl, rfl, trivial⟩) ⟨(by simp [copyL_length, hl6]), (Sat.pick [0] h22)⟩
        · refine C.cond_f rfl hc19 ?_
          refine C.skip ?_
          refine QA.block_normal ?_
          refine QA.then_normal ?_
          refine C.region ?_
          obtain ⟨hc24, hm⟩ := sp_chk hm
          refine G.yl (yl_addI rfl rfl hc24) rfl rfl rfl ?_
          refine G.yl (yl_move rfl) rfl rfl rfl ?_
          refine G.nil ?_
          obtain rfl := sp_ret1 hm
          exact QA.againO (b, t10 + 1) hg13 (Sub.of ⟨rfl, (look_eq rfl (by simp [copyL_length, hl6])), (look_eq rfl (by simp [copyL_length, hl6])), rfl, rfl, trivial⟩) ⟨(by simp [copyL_length, hl6]), (Sat.pick [0] h18)⟩
    · refine C.cond_f rfl (dec_f hc14) ?_
      refine C.exit ?_
      refine QA.then_exit ?_
      refine QA.then_exit ?_
      obtain rfl := sp_ret1 hm
      exact QA.left b (Sub.of ⟨rfl, (look_eq rfl (by simp [copyL_length, hl6])), trivial⟩) ⟨hg13, (by simp [copyL_length, hl6]), (Sat.pick [0] h11)⟩
  · rintro b_2 w25 ⟨rfl, hl7, h26⟩
    have hm := hm9
    show QA _ _ [(2, (.string (str ([] : List UInt8)))), (3, (.slice a2 s.length c3))] _ _
    refine QA.block_here ?_
    refine QA.then_normal ?_
    refine C.seq ?_
    refine C.region ?_
    refine G.yl (yl_move rfl) rfl rfl rfl ?_
    refine G.yl (yl_strE (l := b_2) Tryd.underlying44 Tryd.underlying5 Tryd.underlying9 rfl (by simp [copyL_length, hl7]) (Sat.own_view h26)) rfl rfl rfl ?_
    refine G.yl (yl_assign rfl) rfl rfl rfl ?_
    refine G.nil ?_
    refine QA.then_normal ?_
    refine C.ret ?_
    refine QA.ret1 rfl rfl ?_
    obtain rfl := sp_ret1 hm
    exact ⟨rfl, (Sat.pick [] h26)⟩
set_option maxRecDepth 20000 in
set_option maxHeartbeats 1000000 in
theorem M_label_Parts_w {W : Base} {w : World} {s : List UInt8}  (h : Sat W w []) {r3 : List (List UInt8)} (hm : M_label_Parts s = some r3) :
    Calls Tryd.prog 13 #[(.string (str s))] w (Ret fun v w' => ∃ r1 : Option Addr, ∃ r2 : Nat, v = (.slice r1 r3.length r2) ∧ Sat W w' [ow elStr r1 r2 9 r3]) := by
  unfold M_label_Parts at hm
  refine C.enterM (N := 12) Tryd.func13 rfl Tryd.ntmps13 rfl ?_
  show C _ _ _ [(0, (.string (str s)))] _ _
  refine C.seq ?_
  refine C.region ?_
  refine G.does (does_alloc (cs := [(.slice none 0 0)]) h z35 rfl) rfl rfl rfl ?_
  rintro _ w2 ⟨b1, rfl, h3⟩
  refine G.nil ?_
  refine QA.then_normal ?_
  refine C.seq ?_
  refine C.seq ?_
  refine C.region ?_
  refine G.yl (yl_move rfl) rfl rfl rfl ?_
  obtain ⟨_, hy4, hm⟩ := sp_bind hm
  refine G.does (does_fn 0 rfl rfl rfl en20 h3 (fun U hU hp hr hs => M_label_parts_w (s := s) hp hy4)) rfl rfl rfl ?_
  rintro _ w6 ⟨U9, hb10, r15, rfl, h8⟩
  have h7 : Sat W w6 [blk r15 [(.string (str s))] 9, blk b1 [(.slice none 0 0)] 35] := hb10 h8
  refine G.nil ?_
  refine QA.then_normal ?_
  refine C.block ?_
  obtain ⟨o, ho11, hm12⟩ := sp_bind hm
  refine C.rangeFunc (γ := Option Addr × Nat × List (List UInt8)) (δ := Empty) (σ := List (List UInt8)) (ρ := Empty) (M := @fun σ_ ρ_ f_ z_ => M_label_parts_1_p f_ s z_) (f := (fun (y_ : List (List UInt8)) x => M_label_Parts_r1 y_ x)) (enc := (fun (x : List UInt8) => [(.string (str x))])) (K := [blk r15 [(.string (str s))] 9]) (l := []) (fun g => match g with | (a, c, out) => [blk b1 [(.slice a out.length c)] 35, ow elStr a c 9 out]) (fun g => match g with | (a, c, out) => True) (fun g => match g with | (a, c, out) => out) (fun d => nomatch d) (fun d => nomatch d) (fun d => nomatch d) (fun d => nomatch d) (fun x => [(2, (.pointer (some ⟨b1, 0, none⟩))), (6, (.string (str x))), (3, (.string (str x)))]) (none, 0, ([] : List (List UInt8))) ho11 trivial rfl en30 (Sat.pick [1, 1, 0] (Sat.own_zero h7 elStr none 9)) (fun V w1 hs hc => M_label_parts_1_p_it (x := s)) (fun _ => rfl) rfl ?_ ?_ ?_ ?_
  · intro rd_ x u_
    refine C.sub (A := [(2, (.pointer (some ⟨b1, 0, none⟩))), (6, (.string (str x)))]) (Sub.of ⟨rfl, rfl, trivial⟩) ?_
    refine C.region ?_
    refine G.yl (yl_assign rfl) rfl rfl rfl ?_
    refine G.nil ?_
    exact fun a_ ha_ => ⟨rfl, ha_.sub (Sub.of ⟨rfl, rfl, rfl, trivial⟩), rfl⟩
  · intro W w1_ hs_
    rintro rd_ ⟨a, c, out⟩ x y_ u_ R_ _ h_ hm
    replace h_ : Sat W u_ [blk b1 [(.slice a out.length c)] 35, ow elStr a c 9 out, R_] := h_
    change M_label_Parts_r1 out x = some y_ at hm
    unfold M_label_Parts_r1 at hm
    refine C.block ?_
    refine C.region ?_
    refine G.yl (yl_load (v := (.slice a out.length c)) ag35 rfl (View.at0 (j := 0) h_.isBlk.view0 rfl)) rfl rfl rfl ?_
    refine G.yl (yl_move rfl) rfl rfl rfl ?_
    refine G.does (does_lit (E := elStr) (l := [x]) (vs := [(.string (str x))]) (cs := [(.string (str x))]) (e := 9) h_ rfl (by kernel_rfl) rfl rfl (by decide)) rfl rfl rfl ?_
    rintro _ w14 ⟨a13, rfl, h15⟩
    obtain ⟨hc16, hm⟩ := sp_chk hm
    refine G.does (does_app (E := elStr) (l := out) (l2 := [x]) Tryd.underlying35 el9 (Sat.pick [2, 0, 0, 0] h15) rfl rfl rfl rfl (by decide) (Sat.own_view h15) hc16 (by decide)) rfl rfl rfl ?_
    rintro _ w19 ⟨a17, c18, rfl, h20⟩
    refine G.unit (does_store (vs := [(.slice a17 ((out ++ [x]).length) c18)]) (Sat.pick [2, 0, 0, 0] h20) sz35 rfl rfl rfl rfl (List.forall_mem_cons.2 ⟨rfl, (fun _ hh => by cases hh)⟩) (Nat.le_of_ble_eq_true rfl)) rfl rfl ?_
    rintro _ w21 h23
    have h22 : Sat W w21 [blk b1 [(.slice a17 ((out ++ [x]).length) c18)] 35, ow elStr a17 c18 9 (out ++ [x]), ow elStr a13 1 9 [x], R_] := h23
    refine G.nil ?_
    refine QA.block_normal ?_
    obtain rfl := sp_ret1 hm
    exact fun _ _ => .inl ⟨rfl, (a17, c18, out ++ [x]), rfl, trivial, (Sat.pick [0, 0, 1] h22)⟩
  · rintro D ⟨a, c, out⟩ w24 ho26 _ h25
    subst ho26
    have hm := hm12
    replace h25 : Sat W w24 [obj D (.deferred (some [])), blk b1 [(.slice a out.length c)] 35, ow elStr a c 9 out] := h25
    refine QA.block_normal ?_
    refine QA.then_normal ?_
    refine C.seq ?_
    refine C.region ?_
    refine G.yl (yl_load (v := (.slice a out.length c)) ag35 rfl (View.at0 (j := 0) (Sat.pick [1] h25).isBlk.view0 rfl)) rfl rfl rfl ?_
    refine G.unit (does_store (vs := [(.slice a out.length c)]) (Sat.pick [1, 0, 0] h25) sz35 rfl rfl rfl rfl (List.forall_mem_cons.2 ⟨rfl, (fun _ hh => by cases hh)⟩) (Nat.le_of_ble_eq_true rfl)) rfl rfl ?_
    rintro _ w27 h29
    have h28 : Sat W w27 [blk b1 [(.slice a out.length c)] 35, obj D (.deferred (some [])), ow elStr a c 9 out] := h29
    refine G.nil ?_
    refine QA.then_normal ?_
    refine C.ret ?_
    refine QA.outM (.inl rfl) (Sat.obj_at (Sat.pick [1, 0, 0] h28)) ?_
    have h30 := (Sat.obj_put (Sat.pick [1, 0, 0] h28) (.deferred none)).tail
    replace h30 : Sat W (World.putObj w27 D (.deferred none)) [blk b1 [(.slice a out.length c)] 35, ow elStr a c 9 out] := h30
    refine QA.out (.inl rfl) ?_
    refine QA.ret_c rfl (InCell.one (v := (.slice a out.length c)) rfl ag35 (View.at0 (j := 0) h30.isBlk.view0 rfl)) ?_
    obtain rfl := sp_ret1 hm
    exact ⟨a, c, rfl, (Sat.pick [1] h30)⟩
  · intro D d_ w2_ hod_ hfx_ hd_
    exact nomatch d_
set_option maxRecDepth 20000 in
set_option maxHeartbeats 1000000 in
theorem M_service_Good_1_w {W : Base} {w : World} {p : List UInt8}  (h : Sat W w []) {r1 : Bool} (hm : M_service_Good_1 p = some r1) :
    Calls Tryd.prog 15 #[(.string (str p))] w (Ret fun v w' => v = (.bool r1) ∧ Sat W w' []) := by
  unfold M_service_Good_1 at hm
  refine C.enter (N := 9) Tryd.func15 rfl Tryd.ntmps15 rfl ?_
  show C _ _ _ [(0, (.string (str p)))] _ _
  refine C.seq ?_
  refine C.region ?_
  refine G.yl (yl_assign rfl) rfl rfl rfl ?_
  refine G.nil ?_
  refine QA.then_normal ?_
  refine C.seq ?_
  refine C.region ?_
  refine G.yl (yl_move rfl) rfl rfl rfl ?_
  refine G.yl (yl_eqS rfl rfl) rfl rfl rfl ?_
  refine G.yl (yl_move rfl) rfl rfl rfl ?_
  rcases sp_ite hm with ⟨hc1, hm⟩ | ⟨hc1, hm⟩
  · refine G.offU rfl rfl (dec_t hc1) rfl ?_
    refine G.offU rfl rfl (dec_t hc1) rfl ?_
    refine G.yl (yl_pick_t rfl (dec_t hc1) rfl) rfl rfl rfl ?_
    refine G.yl (yl_assign rfl) rfl rfl rfl ?_
    refine G.nil ?_
    refine QA.then_normal ?_
    refine C.ret ?_
    refine QA.ret1 rfl rfl ?_
    obtain rfl := sp_ret1 hm
    exact ⟨rfl, (Sat.pick [] h)⟩
  · refine G.on rfl rfl (dec_f hc1) ?_
    refine G.yl (yl_move rfl) rfl rfl rfl ?_
    refine G.on rfl rfl (dec_f hc1) ?_
    refine G.yl (yl_eqS rfl rfl) rfl rfl rfl ?_
    refine G.yl (yl_pick_f rfl (dec_f hc1) rfl) rfl rfl rfl ?_
    refine G.yl (yl_assign rfl) rfl rfl rfl ?_
    refine G.nil ?_
    refine QA.then_normal ?_
    refine C.ret ?_
    refine QA.ret1 rfl rfl ?_
    obtain rfl := sp_ret1 hm
    exact ⟨rfl, (Sat.pick [] h)⟩
set_option maxRecDepth 20000 in
set_option maxHeartbeats 1000000 in
theorem M_service_Good_w {W : Base} {w : World} {s : List UInt8}  (h : Sat W w []) {r1 : Bool} (hm : M_service_Good s = some r1) :
    Calls Tryd.prog 8 #[(.string (str s))] w (Ret fun v w' => v = (.bool r1) ∧ Sat W w' []) := by
  unfold M_service_Good at hm
  refine C.enter (N := 35) Tryd.func8 rfl Tryd.ntmps8 rfl ?_
  show C _ _ _ [(0, (.string (str s)))] _ _
  refine C.seq ?_
  refine C.region ?_
  refine G.yl (yl_assign rfl) rfl rfl rfl ?_
  refine G.nil ?_
  refine QA.then_normal ?_
  refine C.seq ?_
  refine C.seq ?_
  refine C.region ?_
  refine G.yl (yl_move rfl) rfl rfl rfl ?_
  obtain ⟨r1_2, hy1, hm⟩ := sp_bind hm
  refine G.does (does_fn 0 rfl rfl rfl en12 h (fun U hU hp hr hs => M_label_Good_w (s := s) hp hy1)) rfl rfl rfl ?_
  rintro _ w2 ⟨U5, hb6, rfl, h4⟩
  have h3 : Sat W w2 [] := hb6 h4
  refine G.yl (yl_not rfl) rfl rfl rfl ?_
  refine G.nil ?_
  refine QA.then_normal ?_
  rcases sp_b hm with ⟨hc7, hm⟩ | ⟨hc7, hm⟩
  · refine C.cond_f rfl (not_f hc7) ?_
    refine C.skip ?_
    refine QA.then_normal ?_
    refine C.seq ?_
    refine C.region ?_
    refine G.yl (yl_move rfl) rfl rfl rfl ?_
    obtain ⟨r1_3, hy8, hm⟩ := sp_bind hm
    refine G.does (does_fn 0 rfl rfl rfl en14 h3 (fun U hU hp hr hs => M_label_Fold_w (s := s) hp hy8)) rfl rfl rfl ?_
    rintro _ w9 ⟨U12, hb13, rfl, h11⟩
    have h10 : Sat W w9 [] := hb13 h11
    obtain ⟨r3_2, hy14, hm⟩ := sp_bind hm
    refine G.does (does_fn 0 rfl rfl rfl en13 h10 (fun U hU hp hr hs => M_label_Parts_w (s := r1_3) hp hy14)) rfl rfl rfl ?_
    rintro _ w17 ⟨U20, hb21, r115, r216, rfl, h19⟩
    have h18 : Sat W w17 [ow elStr r115 r216 9 r3_2] := hb21 h19
    refine G.yl (yl_assign rfl) rfl rfl rfl ?_
    refine G.nil ?_
    refine QA.then_normal ?_
    refine C.seq ?_
    refine C.region ?_
    refine G.yl (yl_assign rfl) rfl rfl rfl ?_
    refine G.nil ?_
    refine QA.then_normal ?_
    refine C.seq ?_
    refine C.region ?_
    refine G.yl (yl_move rfl) rfl rfl rfl ?_
    refine G.yl (yl_lenE Tryd.underlying35 rfl) rfl rfl rfl ?_
    refine G.yl (yl_geI rfl rfl) rfl rfl rfl ?_
    refine G.yl (yl_move rfl) rfl rfl rfl ?_
    rcases sp_ite hm with ⟨hc22, hm⟩ | ⟨hc22, hm⟩
    · refine G.on rfl rfl (dec_t hc22) ?_
      refine G.yl (yl_move rfl) rfl rfl rfl ?_
      refine G.on rfl rfl (dec_t hc22) ?_
      obtain ⟨x, hy23, hm⟩ := sp_bind hm
      refine G.yl (yl_ixP (l := r3_2) sl35 rfl rfl (View.isA (E := elStr) (Sat.own_view h18) (by decide) (at?_lt hy23)) rfl (at?_lt hy23)) rfl rfl rfl ?_
      refine G.on rfl rfl (dec_t hc22) ?_
      refine G.yl (yl_ld1 (E := elStr) (v := (.string (str x))) ag9 rfl (Sat.own_view h18) (at?_some hy23).2 rfl) rfl rfl rfl ?_
      refine G.on rfl rfl (dec_t hc22) ?_
      refine G.yl (yl_slenE Tryd.underlying9 rfl) rfl rfl rfl ?_
      refine G.on rfl rfl (dec_t hc22) ?_
      refine G.yl (yl_gtI rfl rfl) rfl rfl rfl ?_
      refine G.yl (yl_pick_t rfl (dec_t hc22) rfl) rfl rfl rfl ?_
      refine G.yl (yl_move rfl) rfl rfl rfl ?_
      rcases sp_ite hm with ⟨hc24, hm⟩ | ⟨hc24, hm⟩
      · refine G.on rfl rfl (dec_t hc24) ?_
        refine G.yl (yl_move rfl) rfl rfl rfl ?_
        refine G.on rfl rfl (dec_t hc24) ?_
        refine G.yl (yl_ixP (l := r3_2) sl35 rfl rfl (View.isA (E := elStr) (Sat.own_view h18) (by decide) (at?_lt hy23)) rfl (at?_lt hy23)) rfl rfl rfl ?_
        refine G.on rfl rfl (dec_t hc24) ?_
        refine G.yl (yl_ld1 (E := elStr) (v := (.string (str x))) ag9 rfl (Sat.own_view h18) (at?_some hy23).2 rfl) rfl rfl rfl ?_
        refine G.on rfl rfl (dec_t hc24) ?_
        obtain ⟨c, hy25, hm⟩ := sp_bind hm
        refine G.yl (yl_ixS Tryd.underlying9 rfl rfl hy25) rfl rfl rfl ?_
        refine G.on rfl rfl (dec_t hc24) ?_
        refine G.yl (yl_eq8 (b := 95) rfl rfl) rfl rfl rfl ?_
        refine G.yl (yl_pick_t rfl (dec_t hc24) rfl) rfl rfl rfl ?_
        refine G.yl (yl_move rfl) rfl rfl rfl ?_
        rcases sp_ite hm with ⟨hc26, hm⟩ | ⟨hc26, hm⟩
        · refine G.on rfl rfl (dec_t hc26) ?_
          refine G.yl (yl_move rfl) rfl rfl rfl ?_
          refine G.on rfl rfl (dec_t hc26) ?_
          refine G.yl (yl_move rfl) rfl rfl rfl ?_
          refine G.on rfl rfl (dec_t hc26) ?_
          obtain ⟨x_2, hy27, hm⟩ := sp_bind hm
          refine G.yl (yl_ixP (l := r3_2) sl35 rfl rfl (View.isA (E := elStr) (Sat.own_view h18) (by decide) (at?_lt hy27)) rfl (at?_lt hy27)) rfl rfl rfl ?_
          refine G.on rfl rfl (dec_t hc26) ?_
          refine G.yl (yl_ld1 (E := elStr) (v := (.string (str x_2))) ag9 rfl (Sat.own_view h18) (at?_some hy27).2 rfl) rfl rfl rfl ?_
          refine G.on rfl rfl (dec_t hc26) ?_
          obtain ⟨r1_4, hy28, hm⟩ := sp_bind hm
          refine G.does (does_fn 0 rfl rfl rfl en15 h18 (fun U hU hp hr hs => M_service_Good_1_w (p := x_2) hp hy28)) rfl rfl rfl ?_
          rintro _ w29 ⟨U32, hb33, rfl, h31⟩
          have h30 : Sat W w29 [ow elStr r115 r216 9 r3_2] := hb33 h31
          refine G.yl (yl_pick_t rfl (dec_t hc26) rfl) rfl rfl rfl ?_
          refine G.yl (yl_assign rfl) rfl rfl rfl ?_
          refine G.nil ?_
          refine QA.then_normal ?_
          refine C.ret ?_
          refine QA.ret1 rfl rfl ?_
          obtain rfl := sp_ret1 hm
          exact ⟨rfl, (Sat.pick [] h30)⟩
        · refine G.offU rfl rfl (dec_f hc26) rfl ?_
          refine G.offU rfl rfl (dec_f hc26) rfl ?_
          refine G.offU rfl rfl (dec_f hc26) rfl ?_
          refine G.offU rfl rfl (dec_f hc26) rfl ?_
          refine G.offU rfl rfl (dec_f hc26) rfl ?_
          refine G.yl (yl_pick_f rfl (dec_f hc26) rfl) rfl rfl rfl ?_
          refine G.yl (yl_assign rfl) rfl rfl rfl ?_
          refine G.nil ?_
          refine QA.then_normal ?_
          refine C.ret ?_
          refine QA.ret1 rfl rfl ?_
          obtain rfl := sp_ret1 hm
          exact ⟨rfl, (Sat.pick [] h18)⟩
      · refine G.offU rfl rfl (dec_f hc24) rfl ?_
        refine G.offU rfl rfl (dec_f hc24) rfl ?_
        refine G.offU rfl rfl (dec_f hc24) rfl ?_
        refine G.offU rfl rfl (dec_f hc24) rfl ?_
        refine G.offU rfl rfl (dec_f hc24) rfl ?_
        refine G.yl (yl_pick_f rfl (dec_f hc24) rfl) rfl rfl rfl ?_
        refine G.yl (yl_move rfl) rfl rfl rfl ?_
        refine G.offU rfl rfl rfl rfl ?_
        refine G.offU rfl rfl rfl rfl ?_
        refine G.offU rfl rfl rfl rfl ?_
        refine G.offU rfl rfl rfl rfl ?_
        refine G.offU rfl rfl rfl rfl ?_
        refine G.yl (yl_pick_f rfl rfl rfl) rfl rfl rfl ?_
        refine G.yl (yl_assign rfl) rfl rfl rfl ?_
        refine G.nil ?_
        refine QA.then_normal ?_
        refine C.ret ?_
        refine QA.ret1 rfl rfl ?_
        obtain rfl := sp_ret1 hm
        exact ⟨rfl, (Sat.pick [] h18)⟩
    · refine G.offU rfl rfl (dec_f hc22) rfl ?_
      refine G.offU rfl rfl (dec_f hc22) rfl ?_
      refine G.offU rfl rfl (dec_f hc22) rfl ?_
      refine G.offU rfl rfl (dec_f hc22) rfl ?_
      refine G.offU rfl rfl (dec_f hc22) rfl ?_
      refine G.yl (yl_pick_f rfl (dec_f hc22) rfl) rfl rfl rfl ?_
      refine G.yl (yl_move rfl) rfl rfl rfl ?_
      refine G.offU rfl rfl rfl rfl ?_
      refine G.offU rfl rfl rfl rfl ?_
      refine G.offU rfl rfl rfl rfl ?_
      refine G.offU rfl rfl rfl rfl ?_
      refine G.offU rfl rfl rfl rfl ?_
      refine G.yl (yl_pick_f rfl rfl rfl) rfl rfl rfl ?_
      refine G.yl (yl_move rfl) rfl rfl rfl ?_
      refine G.offU rfl rfl rfl rfl ?_
      refine G.offU rfl rfl rfl rfl ?_
      refine G.offU rfl rfl rfl rfl ?_
      refine G.offU rfl rfl rfl rfl ?_
      refine G.offU rfl rfl rfl rfl ?_
      refine G.yl (yl_pick_f rfl rfl rfl) rfl rfl rfl ?_
      refine G.yl (yl_assign rfl) rfl rfl rfl ?_
      refine G.nil ?_
      refine QA.then_normal ?_
      refine C.ret ?_
      refine QA.ret1 rfl rfl ?_
      obtain rfl := sp_ret1 hm
      exact ⟨rfl, (Sat.pick [] h18)⟩
  · refine C.cond_t rfl (not_t hc7) ?_
    refine C.seq ?_
    refine C.region ?_
    refine G.yl (yl_assign rfl) rfl rfl rfl ?_
    refine G.nil ?_
    refine QA.then_normal ?_
    refine C.ret ?_
    refine QA.then_ret ?_
    refine QA.ret1 rfl rfl ?_
    obtain rfl := sp_ret1 hm
    exact ⟨rfl, (Sat.pick [] h3)⟩
set_option maxRecDepth 20000 in
set_option maxHeartbeats 1000000 in
theorem M_strings_Index_w {W : Base} {w : World} {s : List UInt8}  (h : Sat W w []) {r1 : Int} (hm : M_strings_Index s = some r1) :
    Calls Tryd.prog 29 #[(.string (str s)), (.string (str ([46] : List UInt8)))] w (Ret fun v w' => v = (vI r1) ∧ Sat W w' []) := by
  unfold M_strings_Index at hm
  refine C.enter (N := 8) Tryd.func29 rfl Tryd.ntmps29 rfl ?_
  show C _ _ _ [(0, (.string (str s))), (1, (.string (str ([46] : List UInt8))))] _ _
  refine C.seq ?_
  refine C.region ?_
  refine G.yl (yl_assign rfl) rfl rfl rfl ?_
  refine G.nil ?_
  refine QA.then_normal ?_
  refine C.seq ?_
  refine C.region ?_
  refine G.yl (yl_move rfl) rfl rfl rfl ?_
  refine G.yl (yl_move rfl) rfl rfl rfl ?_
  obtain ⟨r1_2, hy1, hm⟩ := sp_bind hm
  refine G.does (does_fn 0 rfl rfl rfl en39 h (fun U hU hp hr hs => M_stringslite_Index_w (s := s) hp hy1)) rfl rfl rfl ?_
  rintro _ w2 ⟨U5, hb6, rfl, h4⟩
  have h3 : Sat W w2 [] := hb6 h4
  refine G.yl (yl_assign rfl) rfl rfl rfl ?_
  refine G.nil ?_
  refine QA.then_normal ?_
  refine C.ret ?_
  refine QA.ret1 rfl rfl ?_
  obtain rfl := sp_ret1 hm
  exact ⟨rfl, (Sat.pick [] h3)⟩
set_option maxRecDepth 20000 in
set_option maxHeartbeats 1000000 in
theorem M_strings_genSplit_w {W : Base} {w : World} {s : List UInt8}  (h : Sat W w []) {r3 : List (List UInt8)} (hm : M_strings_genSplit s = some r3) :
    Calls Tryd.prog 19 #[(.string (str s)), (.string (str ([46] : List UInt8))), (vI 0), (vI 3)] w (Ret fun v w' => ∃ r1 : Option Addr, ∃ r2 : Nat, v = (.slice r1 r3.length r2) ∧ Sat W w' [ow elStr r1 r2 9 r3]) := by
  unfold M_strings_genSplit at hm
  refine C.enter (N := 66) Tryd.func19 rfl Tryd.ntmps19 rfl ?_
  show C _ _ _ [(0, (.string (str s))), (1, (.string (str ([46] : List UInt8)))), (2, (vI 0)), (3, (vI 3))] _ _
  refine C.seq ?_
  refine C.region ?_
  refine G.yl (yl_assign rfl) rfl rfl rfl ?_
  refine G.nil ?_
  refine QA.then_normal ?_
  refine C.seq ?_
  refine C.seq ?_
  refine C.region ?_
  refine G.yl (yl_move rfl) rfl rfl rfl ?_
  refine G.yl (yl_eqI rfl rfl) rfl rfl rfl ?_
  refine G.nil ?_
  refine QA.then_normal ?_
  refine C.cond_f rfl (by decide) ?_
  refine C.skip ?_
  refine QA.then_normal ?_
  refine C.seq ?_
  refine C.seq ?_
  refine C.region ?_
  refine G.yl (yl_move rfl) rfl rfl rfl ?_
  refine G.yl (yl_eqS rfl rfl) rfl rfl rfl ?_
  refine G.nil ?_
  refine QA.then_normal ?_
  refine C.cond_f rfl (by decide) ?_
  refine C.skip ?_
  refine QA.then_normal ?_
  refine C.seq ?_
  refine C.seq ?_
  refine C.region ?_
  refine G.yl (yl_move rfl) rfl rfl rfl ?_
  refine G.yl (yl_ltI rfl rfl) rfl rfl rfl ?_
  refine G.nil ?_
  refine QA.then_normal ?_
  refine C.cond_f rfl (by decide) ?_
  refine C.skip ?_
  refine QA.then_normal ?_
  refine C.seq ?_
  refine C.region ?_
  refine G.yl (yl_move rfl) rfl rfl rfl ?_
  refine G.yl (yl_move rfl) rfl rfl rfl ?_
  refine G.yl (yl_slenE Tryd.underlying9 rfl) rfl rfl rfl ?_
  obtain ⟨hc1, hm⟩ := sp_chk hm
  refine G.yl (yl_addI rfl rfl hc1) rfl rfl rfl ?_
  refine G.yl (yl_min rfl rfl rfl) rfl rfl rfl ?_
  refine G.yl (yl_assign rfl) rfl rfl rfl ?_
  refine G.nil ?_
  refine QA.then_normal ?_
  refine C.seq ?_
  refine C.region ?_
  refine G.yl (yl_move rfl) rfl rfl rfl ?_
  obtain ⟨hc2, hm⟩ := sp_chk hm
  refine G.does (does_mk (E := elStr) (r := ([] : List UInt8)) (e := 9) h Tryd.underlying35 el9 z9 rfl rfl rfl hc2 (by decide)) rfl rfl rfl ?_
  rintro _ w4 ⟨a3, rfl, h5⟩
  refine G.yl (yl_assign rfl) rfl rfl rfl ?_
  refine G.nil ?_
  refine QA.then_normal ?_
  refine C.seq ?_
  refine C.region ?_
  refine G.yl (yl_move rfl) rfl rfl rfl ?_
  obtain ⟨hc6, hm⟩ := sp_chk hm
  refine G.yl (yl_subI rfl rfl hc6) rfl rfl rfl ?_
  refine G.yl (yl_assign rfl) rfl rfl rfl ?_
  refine G.nil ?_
  refine QA.then_normal ?_
  refine C.seq ?_
  refine C.region ?_
  refine G.yl (yl_assign rfl) rfl rfl rfl ?_
  refine G.nil ?_
  refine QA.then_normal ?_
  refine C.seq ?_
  refine C.block ?_
  obtain ⟨o, ho9, hm10⟩ := sp_bind hm
  refine C.left (γ := List UInt8 × List (List UInt8) × Int) (.exit 0) (fun g => match g with | (s_3, a_2, i_2) => [(0, (.string (str s_3))), (8, (.slice none 0 0)), (9, (.slice a3 ((List.replicate ((min 3 ((s.length : Int) + 1)).toNat) ([] : List UInt8)).length) ((min 3 ((s.length : Int) + 1)).toNat))), (10, (vI i_2))]) (fun g ww => match g with | (s_3, a_2, i_2) => (s_3, a_2, i_2) = o ∧ (a_2.length = (List.replicate ((min 3 ((s.length : Int) + 1)).toNat) ([] : List UInt8)).length) ∧ Sat W ww [ow elStr a3 ((min 3 ((s.length : Int) + 1)).toNat) 9 a_2]) ?_ ?_
  · refine C.loopO (γ := List UInt8 × List (List UInt8) × Int) (fun g => match g with | (s_2, a, i) => [(0, (.string (str s_2))), (1, (.string (str ([46] : List UInt8)))), (2, (vI 0)), (3, (vI ((min 3 ((s.length : Int) + 1)) - 1))), (8, (.slice none 0 0)), (9, (.slice a3 ((List.replicate ((min 3 ((s.length : Int) + 1)).toNat) ([] : List UInt8)).length) ((min 3 ((s.length : Int) + 1)).toNat))), (10, (vI i))]) (fun g ww => match g with | (s_2, a, i) => (a.length = (List.replicate ((min 3 ((s.length : Int) + 1)).toNat) ([] : List UInt8)).length) ∧ Sat W ww [ow elStr a3 ((min 3 ((s.length : Int) + 1)).toNat) 9 a]) (fun g => match g with | (s_2, a, i) => (s_2, a, i)) (s, List.replicate ((min 3 ((s.length : Int) + 1)).toNat) ([] : List UInt8), 0) ho9 (Sub.of ⟨rfl, rfl, rfl, rfl, rfl, rfl, rfl, trivial⟩) ⟨(by simp [copyL_length]), (Sat.pick [0] h5)⟩ ?_
    rintro ⟨s_2, a, i⟩ k13 w11 y_ ⟨hl7, h12⟩ hm hg14
    show C _ _ _ [(0, (.string (str s_2))), (1, (.string (str ([46] : List UInt8)))), (2, (vI 0)), (3, (vI ((min 3 ((s.length : Int) + 1)) - 1))), (8, (.slice none 0 0)), (9, (.slice a3 ((List.replicate ((min 3 ((s.length : Int) + 1)).toNat) ([] : List UInt8)).length) ((min 3 ((s.length : Int) + 1)).toNat))), (10, (vI i))] _ _
    change M_strings_genSplit_b1 s s_2 a i = some y_ at hm
    unfold M_strings_genSplit_b1 at hm
    refine C.seq ?_
    refine C.seq ?_
    refine C.region ?_
    refine G.yl (yl_move rfl) rfl rfl rfl ?_
    refine G.yl (yl_move rfl) rfl rfl rfl ?_
    refine G.yl (yl_ltI rfl rfl) rfl rfl rfl ?_
    refine G.nil ?_
    refine QA.then_normal ?_
    rcases sp_ite hm with ⟨hc15, hm⟩ | ⟨hc15, hm⟩
    · refine C.cond_t rfl (dec_t hc15) ?_
      refine C.skip ?_
      refine QA.then_normal ?_
      refine C.block ?_
      refine C.seq ?_
      refine C.region ?_
      refine G.yl (yl_move rfl) rfl rfl rfl ?_
      refine G.yl (yl_move rfl) rfl rfl rfl ?_
      obtain ⟨r1_2, hy16, hm⟩ := sp_bind hm
      refine G.does (does_fn 0 rfl rfl rfl en29 h12 (fun U hU hp hr hs => M_strings_Index_w (s := s_2) hp hy16)) rfl rfl rfl ?_
      rintro _ w17 ⟨U20, hb21, rfl, h19⟩
      have h18 : Sat W w17 [ow elStr a3 ((min 3 ((s.length : Int) + 1)).toNat) 9 a] := hb21 h19
      refine G.yl (yl_assign rfl) rfl rfl rfl ?_
      refine G.nil ?_
      refine QA.then_normal ?_
      refine C.seq ?_
      refine C.seq ?_
      refine C.region ?_
      refine G.yl (yl_move rfl) rfl rfl rfl ?_
      refine G.yl (yl_ltI rfl rfl) rfl rfl rfl ?_
      refine G.nil ?_
      refine QA.then_normal ?_
      rcases sp_ite hm with ⟨hc22, hm⟩ | ⟨hc22, hm⟩
      · refine C.cond_t rfl (dec_t hc22) ?_
        refine C.exit ?_
        refine QA.then_exit ?_
        refine QA.block_other rfl ?_
        refine QA.then_exit ?_
        obtain rfl := sp_ret1 hm
        exact QA.left (s_2, a, i) (Sub.of ⟨rfl, rfl, (look_eq rfl (by simp [copyL_length, hl7])), rfl, trivial⟩) ⟨hg14, (by simp [copyL_length, hl7]), (Sat.pick [0] h18)⟩
      · refine C.cond_f rfl (dec_f hc22) ?_
        refine C.skip ?_
        refine QA.then_normal ?_
        refine C.seq ?_
        refine C.region ?_
        refine G.yl (yl_move rfl) rfl rfl rfl ?_
        refine G.yl (yl_move rfl) rfl rfl rfl ?_
        refine G.yl (yl_move rfl) rfl rfl rfl ?_
        refine G.yl (yl_move rfl) rfl rfl rfl ?_
        refine G.yl (yl_move rfl) rfl rfl rfl ?_
        obtain ⟨hc23, hm⟩ := sp_chk hm
        refine G.yl (yl_addI rfl rfl hc23) rfl rfl rfl ?_
        obtain ⟨hc24, hm⟩ := sp_chk hm
        refine G.yl (yl_slHS Tryd.underlying9 rfl rfl hc24) rfl rfl rfl ?_
        obtain ⟨x, hy25, hm⟩ := sp_bind hm
        refine G.yl (yl_ixP (l := a) sl35 rfl rfl (View.isA (E := elStr) (Sat.own_view h18) (by decide) (at?_lt hy25)) (by simp [copyL_length, hl7]) (at?_lt hy25)) rfl rfl rfl ?_
        refine G.unit (does_stE (E := elStr) (r := s_2.take ((r1_2 + 0).toNat)) h18 sz9 rfl rfl (by decide) rfl (List.getElem?_eq_some_iff.1 (at?_some hy25).2).1) rfl rfl ?_
        rintro _ w26 h27
        refine G.nil ?_
        refine QA.then_normal ?_
        refine C.seq ?_
        refine C.region ?_
        refine G.yl (yl_move rfl) rfl rfl rfl ?_
        refine G.yl (yl_move rfl) rfl rfl rfl ?_
        refine G.yl (yl_move rfl) rfl rfl rfl ?_
        refine G.yl (yl_slenE Tryd.underlying9 rfl) rfl rfl rfl ?_
        obtain ⟨hc28, hm⟩ := sp_chk hm
        refine G.yl (yl_addI rfl rfl hc28) rfl rfl rfl ?_
        obtain ⟨hc29, hm⟩ := sp_chk hm
        refine G.yl (yl_slLS Tryd.underlying9 rfl rfl hc29) rfl rfl rfl ?_
        refine G.yl (yl_assign rfl) rfl rfl rfl ?_
        refine G.nil ?_
        refine QA.then_normal ?_
        refine C.region ?_
        refine G.yl (yl_move rfl) rfl rfl rfl ?_
        obtain ⟨hc30, hm⟩ := sp_chk hm
        refine G.yl (yl_addI rfl rfl hc30) rfl rfl rfl ?_
        refine G.yl (yl_assign rfl) rfl rfl rfl ?_
        refine G.nil ?_
        refine QA.block_normal ?_
        obtain rfl := sp_ret1 hm
        exact QA.againO (s_2.drop ((r1_2 + 1).toNat), a.set i.toNat (s_2.take ((r1_2 + 0).toNat)), i + 1) hg14 (Sub.of ⟨rfl, rfl, rfl, rfl, rfl, (look_eq rfl (by simp [copyL_length, hl7])), rfl, trivial⟩) ⟨(by simp [copyL_length, hl7]), (Sat.pick [0] h27)⟩
    · refine C.cond_f rfl (dec_f hc15) ?_
      refine C.exit ?_
      refine QA.then_exit ?_
      refine QA.then_exit ?_
      obtain rfl := sp_ret1 hm
      exact QA.left (s_2, a, i) (Sub.of ⟨rfl, rfl, (look_eq rfl (by simp [copyL_length, hl7])), rfl, trivial⟩) ⟨hg14, (by simp [copyL_length, hl7]), (Sat.pick [0] h12)⟩
  · rintro ⟨s_3, a_2, i_2⟩ w31 ⟨rfl, hl8, h32⟩
    have hm := hm10
    show QA _ _ [(0, (.string (str s_3))), (8, (.slice none 0 0)), (9, (.slice a3 ((List.replicate ((min 3 ((s.length : Int) + 1)).toNat) ([] : List UInt8)).length) ((min 3 ((s.length : Int) + 1)).toNat))), (10, (vI i_2))] _ _
    refine QA.block_here ?_
    refine QA.then_normal ?_
    refine C.seq ?_
    refine C.region ?_
    refine G.yl (yl_move rfl) rfl rfl rfl ?_
    refine G.yl (yl_move rfl) rfl rfl rfl ?_
    refine G.yl (yl_move rfl) rfl rfl rfl ?_
    obtain ⟨x_2, hy33, hm⟩ := sp_bind hm
    refine G.yl (yl_ixP (l := a_2) sl35 rfl rfl (View.isA (E := elStr) (Sat.own_view h32) (by decide) (at?_lt hy33)) (by simp [copyL_length, hl8]) (at?_lt hy33)) rfl rfl rfl ?_
    refine G.unit (does_stE (E := elStr) (r := s_3) h32 sz9 rfl rfl (by decide) rfl (List.getElem?_eq_some_iff.1 (at?_some hy33).2).1) rfl rfl ?_
    rintro _ w34 h35
    refine G.nil ?_
    refine QA.then_normal ?_
    refine C.seq ?_
    refine C.region ?_
    refine G.yl (yl_move rfl) rfl rfl rfl ?_
    refine G.yl (yl_move rfl) rfl rfl rfl ?_
    obtain ⟨hc36, hm⟩ := sp_chk hm
    refine G.yl (yl_addI rfl rfl hc36) rfl rfl rfl ?_
    obtain ⟨hc37, hm⟩ := sp_chk hm
    refine G.yl (yl_slH (E := elStr) (l := a_2.set i_2.toNat s_3) sl35 rfl rfl (by simp [copyL_length, hl8]) (by simpa [copyL_length, hl8] using hc37) (Sat.own_cap h35).1) rfl rfl rfl ?_
    refine G.yl (yl_assign rfl) rfl rfl rfl ?_
    refine G.nil ?_
    refine QA.then_normal ?_
    refine C.ret ?_
    refine QA.ret1 rfl rfl ?_
    have h38 : Sat W w34 [ow elStr a3 ((min 3 ((s.length : Int) + 1)).toNat) 9 ((a_2.set i_2.toNat s_3).take ((i_2 + 1).toNat))] := Sat.own_take h35 ((i_2 + 1).toNat) (by first | omega | (simp only [List.length_set, copyL_length, hl8]; omega))
    obtain rfl := sp_ret1 hm
    exact ⟨a3, (min 3 ((s.length : Int) + 1)).toNat, (by simp [copyL_length, hl8]), (Sat.pick [0] h38)⟩
set_option maxRecDepth 20000 in
set_option maxHeartbeats 1000000 in
theorem M_strings_SplitN_w {W : Base} {w : World} {s : List UInt8}  (h : Sat W w []) {r3 : List (List UInt8)} (hm : M_strings_SplitN s = some r3) :
    Calls Tryd.prog 11 #[(.string (str s)), (.string (str ([46] : List UInt8))), (vI 3)] w (Ret fun v w' => ∃ r1 : Option Addr, ∃ r2 : Nat, v = (.slice r1 r3.length r2) ∧ Sat W w' [ow elStr r1 r2 9 r3]) := by
  unfold M_strings_SplitN at hm
  refine C.enter (N := 11) Tryd.func11 rfl Tryd.ntmps11 rfl ?_
  show C _ _ _ [(0, (.string (str s))), (1, (.string (str ([46] : List UInt8)))), (2, (vI 3))] _ _
  refine C.seq ?_
  refine C.region ?_
  refine G.yl (yl_assign rfl) rfl rfl rfl ?_
  refine G.nil ?_
  refine QA.then_normal ?_
  refine C.seq ?_
  refine C.region ?_
  refine G.yl (yl_move rfl) rfl rfl rfl ?_
  refine G.yl (yl_move rfl) rfl rfl rfl ?_
  refine G.yl (yl_move rfl) rfl rfl rfl ?_
  obtain ⟨r3_2, hy1, hm⟩ := sp_bind hm
  refine G.does (does_fn 0 rfl rfl rfl en19 h (fun U hU hp hr hs => M_strings_genSplit_w (s := s) hp hy1)) rfl rfl rfl ?_
  rintro _ w4 ⟨U7, hb8, r12, r23, rfl, h6⟩
  have h5 : Sat W w4 [ow elStr r12 r23 9 r3_2] := hb8 h6
  refine G.yl (yl_assign rfl) rfl rfl rfl ?_
  refine G.nil ?_
  refine QA.then_normal ?_
  refine C.ret ?_
  refine QA.ret1 rfl rfl ?_
  obtain rfl := sp_ret1 hm
  exact ⟨r12, r23, rfl, (Sat.pick [0] h5)⟩
set_option maxRecDepth 20000 in
set_option maxHeartbeats 1000000 in
theorem M_service_Split_w {W : Base} {w : World} {s : List UInt8}  (h : Sat W w []) {r1 : List UInt8} {r2 : List UInt8} {r3 : List UInt8} {r4 : Int} (hm : M_service_Split s = some (r1, r2, r3, r4)) :
    Calls Tryd.prog 7 #[(.string (str s))] w (Ret fun v w' => v = (.tuple #[(.string (str r1)), (.string (str r2)), (.string (str r3)), (vI r4)]) ∧ Sat W w' []) := by
  unfold M_service_Split at hm
  refine C.enter (N := 23) Tryd.func7 rfl Tryd.ntmps7 rfl ?_
  show C _ _ _ [(0, (.string (str s)))] _ _
  refine C.seq ?_
  refine C.region ?_
  refine G.yl (yl_assign rfl) rfl rfl rfl ?_
  refine G.yl (yl_assign rfl) rfl rfl rfl ?_
  refine G.yl (yl_assign rfl) rfl rfl rfl ?_
  refine G.yl (yl_assign rfl) rfl rfl rfl ?_
  refine G.nil ?_
  refine QA.then_normal ?_
  refine C.seq ?_
  refine C.seq ?_
  refine C.region ?_
  refine G.yl (yl_move rfl) rfl rfl rfl ?_
  obtain ⟨r1_2, hy1, hm⟩ := sp_bind hm
  refine G.does (does_fn 0 rfl rfl rfl en8 h (fun U hU hp hr hs => M_service_Good_w (s := s) hp hy1)) rfl rfl rfl ?_
  rintro _ w2 ⟨U5, hb6, rfl, h4⟩
  have h3 : Sat W w2 [] := hb6 h4
  refine G.yl (yl_not rfl) rfl rfl rfl ?_
  refine G.nil ?_
  refine QA.then_normal ?_
  rcases sp_b hm with ⟨hc7, hm⟩ | ⟨hc7, hm⟩
  · refine C.cond_f rfl (not_f hc7) ?_
    refine C.skip ?_
    refine QA.then_normal ?_
    refine C.seq ?_
    refine C.region ?_
    refine G.yl (yl_move rfl) rfl rfl rfl ?_
    obtain ⟨r3_2, hy8, hm⟩ := sp_bind hm
    refine G.does (does_fn 0 rfl rfl rfl en11 h3 (fun U hU hp hr hs => M_strings_SplitN_w (s := s) hp hy8)) rfl rfl rfl ?_
    rintro _ w11 ⟨U14, hb15, r19, r210, rfl, h13⟩
    have h12 : Sat W w11 [ow elStr r19 r210 9 r3_2] := hb15 h13
    refine G.yl (yl_assign rfl) rfl rfl rfl ?_
    refine G.nil ?_
    refine QA.then_normal ?_
    refine C.seq ?_
    refine C.draw (V := fun w' => View w' r19 (elStr.row r3_2)) (nd := [2, 6, 10]) (sp := []) (n := 15) rfl h12 rfl rfl ?_
    intro w16 h17
    have hS18 : Cls (fun w' => View w' r19 (elStr.row r3_2)) [2, 6, 10] [] #[false, false, false, false, false, false, false, false, false, false, false, false, false, false, false] w16 := Cls.keep ((Sat.own_view h17)) (by kernel_rfl)
    refine GH.yl (i := 0) (listed' := #[true, false, false, false, false, false, false, false, false, false, false, false, false, false, false]) rfl (by kernel_rfl) rfl (NP.next NP.body) rfl rfl rfl (fun w' => yl_move rfl) hS18 (fun hS19 => ?_)
    obtain ⟨x, hy20, hm⟩ := sp_bind hm
    refine GH.yl (i := 1) (listed' := #[true, true, false, false, false, false, false, false, false, false, false, false, false, false, false]) rfl (by kernel_rfl) rfl (NP.next NP.body) rfl rfl rfl (fun w' => yl_ixP (l := r3_2) sl35 rfl rfl (View.isA (E := elStr) (Sat.own_view h17) (by decide) (at?_lt hy20)) rfl (at?_lt hy20)) hS19 (fun hS21 => ?_)
    refine GH.yr (i := 2) (listed' := #[true, true, true, false, false, false, false, false, false, false, false, false, false, false, false]) rfl (by kernel_rfl) rfl rfl (NP.next NP.body) rfl rfl rfl (fun w' hw' => yl_ld1 (E := elStr) (v := (.string (str x))) ag9 rfl (hw') (at?_some hy20).2 rfl) hS21 (fun hS22 => ?_)
    obtain ⟨hc23, hm⟩ := sp_chk hm
    refine GH.yl (i := 3) (listed' := #[true, true, true, true, false, false, false, false, false, false, false, false, false, false, false]) rfl (by kernel_rfl) rfl (NP.next NP.body) rfl rfl rfl (fun w' => yl_slLS Tryd.underlying9 rfl rfl hc23) hS22 (fun hS24 => ?_)
    refine GH.yl (i := 4) (listed' := #[true, true, true, true, true, false, false, false, false, false, false, false, false, false, false]) rfl (by kernel_rfl) rfl (NP.next NP.body) rfl rfl rfl (fun w' => yl_move rfl) hS24 (fun hS25 => ?_)
    obtain ⟨x_2, hy26, hm⟩ := sp_bind hm
    refine GH.yl (i := 5) (listed' := #[true, true, true, true, true, true, false, false, false, false, false, false, false, false, false]) rfl (by kernel_rfl) rfl (NP.next NP.body) rfl rfl rfl (fun w' => yl_ixP (l := r3_2) sl35 rfl rfl (View.isA (E := elStr) (Sat.own_view h17) (by decide) (at?_lt hy26)) rfl (at?_lt hy26)) hS25 (fun hS27 => ?_)
    refine GH.yr (i := 6) (listed' := #[true, true, true, true, true, true, true, false, false, false, false, false, false, false, false]) rfl (by kernel_rfl) rfl rfl (NP.next NP.body) rfl rfl rfl (fun w' hw' => yl_ld1 (E := elStr) (v := (.string (str x_2))) ag9 rfl (hw') (at?_some hy26).2 rfl) hS27 (fun hS28 => ?_)
    obtain ⟨hc29, hm⟩ := sp_chk hm
    refine GH.yl (i := 7) (listed' := #[true, true, true, true, true, true, true, true, false, false, false, false, false, false, false]) rfl (by kernel_rfl) rfl (NP.next NP.body) rfl rfl rfl (fun w' => yl_slLS Tryd.underlying9 rfl rfl hc29) hS28 (fun hS30 => ?_)
    refine GH.yl (i := 8) (listed' := #[true, true, true, true, true, true, true, true, true, false, false, false, false, false, false]) rfl (by kernel_rfl) rfl (NP.next NP.body) rfl rfl rfl (fun w' => yl_move rfl) hS30 (fun hS31 => ?_)
    obtain ⟨x_3, hy32, hm⟩ := sp_bind hm
    refine GH.yl (i := 9) (listed' := #[true, true, true, true, true, true, true, true, true, true, false, false, false, false, false]) rfl (by kernel_rfl) rfl (NP.next NP.body) rfl rfl rfl (fun w' => yl_ixP (l := r3_2) sl35 rfl rfl (View.isA (E := elStr) (Sat.own_view h17) (by decide) (at?_lt hy32)) rfl (at?_lt hy32)) hS31 (fun hS33 => ?_)
    refine GH.yr (i := 10) (listed' := #[true, true, true, true, true, true, true, true, true, true, true, false, false, false, false]) rfl (by kernel_rfl) rfl rfl (NP.next NP.body) rfl rfl rfl (fun w' hw' => yl_ld1 (E := elStr) (v := (.string (str x_3))) ag9 rfl (hw') (at?_some hy32).2 rfl) hS33 (fun hS34 => ?_)
    refine GH.yl (i := 11) (listed' := #[true, true, true, true, true, true, true, true, true, true, true, true, false, false, false]) rfl (by kernel_rfl) rfl (NP.next NP.body) rfl rfl rfl (fun w' => yl_assign rfl) hS34 (fun hS35 => ?_)
    refine GH.yl (i := 12) (listed' := #[true, true, true, true, true, true, true, true, true, true, true, true, true, false, false]) rfl (by kernel_rfl) rfl (NP.next NP.body) rfl rfl rfl (fun w' => yl_assign rfl) hS35 (fun hS36 => ?_)
    refine GH.yl (i := 13) (listed' := #[true, true, true, true, true, true, true, true, true, true, true, true, true, true, false]) rfl (by kernel_rfl) rfl (NP.next NP.body) rfl rfl rfl (fun w' => yl_assign rfl) hS36 (fun hS37 => ?_)
    refine GH.yl (i := 14) (listed' := #[true, true, true, true, true, true, true, true, true, true, true, true, true, true, true]) rfl (by kernel_rfl) rfl (NP.next NP.body) rfl rfl rfl (fun w' => yl_assign rfl) hS37 (fun hS38 => ?_)
    refine GH.done (by kernel_rfl) ?_
    refine QA.then_normal ?_
    refine C.ret ?_
    refine QA.ret_tttt rfl rfl rfl rfl rfl ?_
    obtain ⟨rfl, rfl, rfl, rfl⟩ := sp_ret4 hm
    exact ⟨rfl, (Sat.pick [] h17)⟩
  · refine C.cond_t rfl (not_t hc7) ?_
    refine C.seq ?_
    refine C.region ?_
    refine G.yl (yl_assign rfl) rfl rfl rfl ?_
    refine G.yl (yl_assign rfl) rfl rfl rfl ?_
    refine G.yl (yl_assign rfl) rfl rfl rfl ?_
    refine G.yl (yl_assign rfl) rfl rfl rfl ?_
    refine G.nil ?_
    refine QA.then_normal ?_
    refine C.ret ?_
    refine QA.then_ret ?_
    refine QA.ret_tttt rfl rfl rfl rfl rfl ?_
    obtain ⟨rfl, rfl, rfl, rfl⟩ := sp_ret4 hm
    exact ⟨rfl, (Sat.pick [] h3)⟩
set_option maxRecDepth 20000 in
set_option maxHeartbeats 1000000 in
theorem M_signpostlaw10_lives_w {W : Base} {w : World}   (h : Sat W w []) {r1 : Bool} (hm : M_signpostlaw10_lives = some r1) :
    Calls Tryd.prog 4 #[] w (Ret fun v w' => v = (.bool r1) ∧ Sat W w' []) := by
  unfold M_signpostlaw10_lives at hm
  refine C.enter (N := 33) Tryd.func4 rfl Tryd.ntmps4 rfl ?_
  show C _ _ _ [] _ _
  refine C.seq ?_
  refine C.region ?_
  refine G.yl (yl_assign rfl) rfl rfl rfl ?_
  refine G.nil ?_
  refine QA.then_normal ?_
  refine C.seq ?_
  refine C.region ?_
  obtain ⟨⟨r1_2, r2_2, r3_2, r4_2⟩, hy1, hm⟩ := sp_bind hm
  refine G.does (does_fn 0 rfl rfl rfl en7 h (fun U hU hp hr hs => M_service_Split_w (s := ([95, 104, 116, 116, 112, 46, 95, 116, 99, 112, 46, 97, 46, 98] : List UInt8)) hp hy1)) rfl rfl rfl ?_
  rintro _ w2 ⟨U5, hb6, rfl, h4⟩
  have h3 : Sat W w2 [] := hb6 h4
  refine G.yl (yl_move rfl) rfl rfl rfl ?_
  refine G.yl (yl_extract rfl rfl) rfl rfl rfl ?_
  refine G.yl (yl_extract rfl rfl) rfl rfl rfl ?_
  refine G.yl (yl_extract rfl rfl) rfl rfl rfl ?_
  refine G.yl (yl_extract rfl rfl) rfl rfl rfl ?_
  refine G.yl (yl_assign rfl) rfl rfl rfl ?_
  refine G.yl (yl_assign rfl) rfl rfl rfl ?_
  refine G.yl (yl_assign rfl) rfl rfl rfl ?_
  refine G.yl (yl_assign rfl) rfl rfl rfl ?_
  refine G.nil ?_
  refine QA.then_normal ?_
  refine C.seq ?_
  refine C.region ?_
  refine G.yl (yl_move rfl) rfl rfl rfl ?_
  refine G.yl (yl_eqS rfl rfl) rfl rfl rfl ?_
  refine G.yl (yl_move rfl) rfl rfl rfl ?_
  rcases sp_ite hm with ⟨hc7, hm⟩ | ⟨hc7, hm⟩
  · refine G.on rfl rfl (dec_t hc7) ?_
    refine G.yl (yl_move rfl) rfl rfl rfl ?_
    refine G.on rfl rfl (dec_t hc7) ?_
    refine G.yl (yl_eqS rfl rfl) rfl rfl rfl ?_
    refine G.yl (yl_pick_t rfl (dec_t hc7) rfl) rfl rfl rfl ?_
    refine G.yl (yl_move rfl) rfl rfl rfl ?_
    rcases sp_ite hm with ⟨hc8, hm⟩ | ⟨hc8, hm⟩
    · refine G.on rfl rfl (dec_t hc8) ?_
      refine G.yl (yl_move rfl) rfl rfl rfl ?_
      refine G.on rfl rfl (dec_t hc8) ?_
      refine G.yl (yl_eqS rfl rfl) rfl rfl rfl ?_
      refine G.yl (yl_pick_t rfl (dec_t hc8) rfl) rfl rfl rfl ?_
      refine G.yl (yl_move rfl) rfl rfl rfl ?_
      rcases sp_ite hm with ⟨hc9, hm⟩ | ⟨hc9, hm⟩
      · refine G.on rfl rfl (dec_t hc9) ?_
        refine G.yl (yl_move rfl) rfl rfl rfl ?_
        refine G.on rfl rfl (dec_t hc9) ?_
        refine G.yl (yl_eqI rfl rfl) rfl rfl rfl ?_
        refine G.yl (yl_pick_t rfl (dec_t hc9) rfl) rfl rfl rfl ?_
        refine G.yl (yl_move rfl) rfl rfl rfl ?_
        rcases sp_ite hm with ⟨hc10, hm⟩ | ⟨hc10, hm⟩
        · refine G.on rfl rfl (dec_t hc10) ?_
          obtain ⟨r1_3, hy11, hm⟩ := sp_bind hm
          refine G.does (does_fn 0 rfl rfl rfl en8 h3 (fun U hU hp hr hs => M_service_Good_w (s := ([95, 104, 116, 116, 112, 46, 95, 105, 112, 46, 97] : List UInt8)) hp hy11)) rfl rfl rfl ?_
          rintro _ w12 ⟨U15, hb16, rfl, h14⟩
          have h13 : Sat W w12 [] := hb16 h14
          refine G.on rfl rfl (dec_t hc10) ?_
          refine G.yl (yl_not rfl) rfl rfl rfl ?_
          refine G.yl (yl_pick_t rfl (dec_t hc10) rfl) rfl rfl rfl ?_
          refine G.yl (yl_move rfl) rfl rfl rfl ?_
          rcases sp_b hm with ⟨hc17, hm⟩ | ⟨hc17, hm⟩
          · refine G.offU rfl rfl (not_f hc17) rfl ?_
            refine G.offU rfl rfl (not_f hc17) rfl ?_
            refine G.yl (yl_pick_f rfl (not_f hc17) rfl) rfl rfl rfl ?_
            refine G.yl (yl_assign rfl) rfl rfl rfl ?_
            refine G.nil ?_
            refine QA.then_normal ?_
            refine C.ret ?_
            refine QA.ret1 rfl rfl ?_
            obtain rfl := sp_ret1 hm
            exact ⟨rfl, (Sat.pick [] h13)⟩
          · refine G.on rfl rfl (not_t hc17) ?_
            obtain ⟨r1_4, hy18, hm⟩ := sp_bind hm
            refine G.does (does_fn 0 rfl rfl rfl en8 h13 (fun U hU hp hr hs => M_service_Good_w (s := ([95, 46, 95, 116, 99, 112, 46, 97] : List UInt8)) hp hy18)) rfl rfl rfl ?_
            rintro _ w19 ⟨U22, hb23, rfl, h21⟩
            have h20 : Sat W w19 [] := hb23 h21
            refine G.on rfl rfl (not_t hc17) ?_
            refine G.yl (yl_not rfl) rfl rfl rfl ?_
            refine G.yl (yl_pick_t rfl (not_t hc17) rfl) rfl rfl rfl ?_
            refine G.yl (yl_assign rfl) rfl rfl rfl ?_
            refine G.nil ?_
            refine QA.then_normal ?_
            refine C.ret ?_
            refine QA.ret1 rfl rfl ?_
            obtain rfl := sp_ret1 hm
            exact ⟨rfl, (Sat.pick [] h20)⟩
        · refine G.offU rfl rfl (dec_f hc10) rfl ?_
          refine G.offU rfl rfl (dec_f hc10) rfl ?_
          refine G.yl (yl_pick_f rfl (dec_f hc10) rfl) rfl rfl rfl ?_
          refine G.yl (yl_move rfl) rfl rfl rfl ?_
          refine G.offU rfl rfl rfl rfl ?_
          refine G.offU rfl rfl rfl rfl ?_
          refine G.yl (yl_pick_f rfl rfl rfl) rfl rfl rfl ?_
          refine G.yl (yl_assign rfl) rfl rfl rfl ?_
          refine G.nil ?_
          refine QA.then_normal ?_
          refine C.ret ?_
          refine QA.ret1 rfl rfl ?_
          obtain rfl := sp_ret1 hm
          exact ⟨rfl, (Sat.pick [] h3)⟩
      · refine G.offU rfl rfl (dec_f hc9) rfl ?_
        refine G.offU rfl rfl (dec_f hc9) rfl ?_
        refine G.yl (yl_pick_f rfl (dec_f hc9) rfl) rfl rfl rfl ?_
        refine G.yl (yl_move rfl) rfl rfl rfl ?_
        refine G.offU rfl rfl rfl rfl ?_
        refine G.offU rfl rfl rfl rfl ?_
        refine G.yl (yl_pick_f rfl rfl rfl) rfl rfl rfl ?_
        refine G.yl (yl_move rfl) rfl rfl rfl ?_
        refine G.offU rfl rfl rfl rfl ?_
        refine G.offU rfl rfl rfl rfl ?_
        refine G.yl (yl_pick_f rfl rfl rfl) rfl rfl rfl ?_
        refine G.yl (yl_assign rfl) rfl rfl rfl ?_
        refine G.nil ?_
        refine QA.then_normal ?_
        refine C.ret ?_
        refine QA.ret1 rfl rfl ?_
        obtain rfl := sp_ret1 hm
        exact ⟨rfl, (Sat.pick [] h3)⟩
    · refine G.offU rfl rfl (dec_f hc8) rfl ?_
      refine G.offU rfl rfl (dec_f hc8) rfl ?_
      refine G.yl (yl_pick_f rfl (dec_f hc8) rfl) rfl rfl rfl ?_
      refine G.yl (yl_move rfl) rfl rfl rfl ?_
      refine G.offU rfl rfl rfl rfl ?_
      refine G.offU rfl rfl rfl rfl ?_
      refine G.yl (yl_pick_f rfl rfl rfl) rfl rfl rfl ?_
      refine G.yl (yl_move rfl) rfl rfl rfl ?_
      refine G.offU rfl rfl rfl rfl ?_
      refine G.offU rfl rfl rfl rfl ?_
      refine G.yl (yl_pick_f rfl rfl rfl) rfl rfl rfl ?_
      refine G.yl (yl_move rfl) rfl rfl rfl ?_
      refine G.offU rfl rfl rfl rfl ?_
      refine G.offU rfl rfl rfl rfl ?_
      refine G.yl (yl_pick_f rfl rfl rfl) rfl rfl rfl ?_
      refine G.yl (yl_assign rfl) rfl rfl rfl ?_
      refine G.nil ?_
      refine QA.then_normal ?_
      refine C.ret ?_
      refine QA.ret1 rfl rfl ?_
      obtain rfl := sp_ret1 hm
      exact ⟨rfl, (Sat.pick [] h3)⟩
  · refine G.offU rfl rfl (dec_f hc7) rfl ?_
    refine G.offU rfl rfl (dec_f hc7) rfl ?_
    refine G.yl (yl_pick_f rfl (dec_f hc7) rfl) rfl rfl rfl ?_
    refine G.yl (yl_move rfl) rfl rfl rfl ?_
    refine G.offU rfl rfl rfl rfl ?_
    refine G.offU rfl rfl rfl rfl ?_
    refine G.yl (yl_pick_f rfl rfl rfl) rfl rfl rfl ?_
    refine G.yl (yl_move rfl) rfl rfl rfl ?_
    refine G.offU rfl rfl rfl rfl ?_
    refine G.offU rfl rfl rfl rfl ?_
    refine G.yl (yl_pick_f rfl rfl rfl) rfl rfl rfl ?_
    refine G.yl (yl_move rfl) rfl rfl rfl ?_
    refine G.offU rfl rfl rfl rfl ?_
    refine G.offU rfl rfl rfl rfl ?_
    refine G.yl (yl_pick_f rfl rfl rfl) rfl rfl rfl ?_
    refine G.yl (yl_move rfl) rfl rfl rfl ?_
    refine G.offU rfl rfl rfl rfl ?_
    refine G.offU rfl rfl rfl rfl ?_
    refine G.yl (yl_pick_f rfl rfl rfl) rfl rfl rfl ?_
    refine G.yl (yl_assign rfl) rfl rfl rfl ?_
    refine G.nil ?_
    refine QA.then_normal ?_
    refine C.ret ?_
    refine QA.ret1 rfl rfl ?_
    obtain rfl := sp_ret1 hm
    exact ⟨rfl, (Sat.pick [] h3)⟩
set_option maxRecDepth 20000 in
set_option maxHeartbeats 1000000 in
theorem M_service_joined_v_w {W : Base} {w : World} {a : Option Addr} {c : Nat} {l : List (List UInt8)} (hv_l : V W a (elStr.row l)) (hq_l : l.length ≤ c) (h : Sat W w [])  (hm : M_service_joined_v l = some ()) :
    Calls Tryd.prog 9 #[(.slice a l.length c)] w (Ret fun v w' => v = (.string (str (Lib.join l ([46] : List UInt8)))) ∧ Sat W w' []) := by
  unfold M_service_joined_v at hm
  refine C.enter (N := 5) Tryd.func9 rfl Tryd.ntmps9 rfl ?_
  show C _ _ _ [(0, (.slice a l.length c))] _ _
  refine C.seq ?_
  refine C.region ?_
  refine G.yl (yl_assign rfl) rfl rfl rfl ?_
  refine G.nil ?_
  refine QA.then_normal ?_
  refine C.seq ?_
  refine C.region ?_
  refine G.yl (yl_move rfl) rfl rfl rfl ?_
  obtain ⟨hc1, hm⟩ := sp_chk hm
  obtain ⟨hc2, hm⟩ := sp_chk hm
  refine G.does (does_call rfl rfl rfl en16 (join_w (l := l) h (hv_l.at_ h) hq_l hc1 hc2)) rfl rfl rfl ?_
  rintro _ w3 ⟨rfl, h4⟩
  refine G.yl (yl_assign rfl) rfl rfl rfl ?_
  refine G.nil ?_
  refine QA.then_normal ?_
  refine C.ret ?_
  refine QA.ret1 rfl rfl ?_
  exact ⟨rfl, (Sat.pick [] h4)⟩
set_option maxRecDepth 20000 in
set_option maxHeartbeats 1000000 in
theorem M_service_Join_w {W : Base} {w : World} {service : List UInt8} {proto : List UInt8} {domain : List UInt8}  (h : Sat W w []) {r1 : List UInt8} {r2 : Int} (hm : M_service_Join service proto domain = some (r1, r2)) :
    Calls Tryd.prog 5 #[(.string (str service)), (.string (str proto)), (.string (str domain))] w (Ret fun v w' => v = (.tuple #[(.string (str r1)), (vI r2)]) ∧ Sat W w' []) := by
  unfold M_service_Join at hm
  refine C.enter (N := 45) Tryd.func5 rfl Tryd.ntmps5 rfl ?_
  show C _ _ _ [(0, (.string (str service))), (1, (.string (str proto))), (2, (.string (str domain)))] _ _
  refine C.seq ?_
  refine C.region ?_
  refine G.yl (yl_assign rfl) rfl rfl rfl ?_
  refine G.yl (yl_assign rfl) rfl rfl rfl ?_
  refine G.nil ?_
  refine QA.then_normal ?_
  refine C.seq ?_
  refine C.region ?_
  refine G.yl (yl_move rfl) rfl rfl rfl ?_
  obtain ⟨hc1, hm⟩ := sp_chk hm
  refine G.yl (yl_catS rfl rfl hc1) rfl rfl rfl ?_
  refine G.yl (yl_move rfl) rfl rfl rfl ?_
  obtain ⟨hc2, hm⟩ := sp_chk hm
  refine G.yl (yl_catS rfl rfl hc2) rfl rfl rfl ?_
  refine G.yl (yl_move rfl) rfl rfl rfl ?_
  refine G.does (does_lit (E := elStr) (l := [([95] : List UInt8) ++ service, ([95] : List UInt8) ++ proto, domain]) (vs := [(.string (str (([95] : List UInt8) ++ service))), (.string (str (([95] : List UInt8) ++ proto))), (.string (str domain))]) (cs := [(.string (str (([95] : List UInt8) ++ service))), (.string (str (([95] : List UInt8) ++ proto))), (.string (str domain))]) (e := 9) h rfl (by kernel_rfl) rfl rfl (by decide)) rfl rfl rfl ?_
  rintro _ w4 ⟨a3, rfl, h5⟩
  obtain ⟨_, hy6, hm⟩ := sp_bind hm
  refine G.does (does_fn 0 rfl rfl rfl en9 h5 (fun U hU hp hr hs => M_service_joined_v_w (l := [([95] : List UInt8) ++ service, ([95] : List UInt8) ++ proto, domain]) (Rest.view hr) (Sat.own_cap h5).1 hp hy6)) rfl rfl rfl ?_
  rintro _ w7 ⟨U10, hb11, rfl, h9⟩
  have h8 : Sat W w7 [ow elStr a3 3 9 [([95] : List UInt8) ++ service, ([95] : List UInt8) ++ proto, domain]] := hb11 h9
  refine G.yl (yl_assign rfl) rfl rfl rfl ?_
  refine G.nil ?_
  refine QA.then_normal ?_
  refine C.seq ?_
  refine C.region ?_
  refine G.yl (yl_move rfl) rfl rfl rfl ?_
  obtain ⟨⟨r1_2, r2_2, r3_2, r4_2⟩, hy12, hm⟩ := sp_bind hm
  refine G.does (does_fn 0 rfl rfl rfl en7 h8 (fun U hU hp hr hs => M_service_Split_w (s := Lib.join [([95] : List UInt8) ++ service, ([95] : List UInt8) ++ proto, domain] ([46] : List UInt8)) hp hy12)) rfl rfl rfl ?_
  rintro _ w13 ⟨U16, hb17, rfl, h15⟩
  have h14 : Sat W w13 [ow elStr a3 3 9 [([95] : List UInt8) ++ service, ([95] : List UInt8) ++ proto, domain]] := hb17 h15
  refine G.yl (yl_move rfl) rfl rfl rfl ?_
  refine G.yl (yl_extract rfl rfl) rfl rfl rfl ?_
  refine G.yl (yl_extract rfl rfl) rfl rfl rfl ?_
  refine G.yl (yl_extract rfl rfl) rfl rfl rfl ?_
  refine G.yl (yl_extract rfl rfl) rfl rfl rfl ?_
  refine G.yl (yl_assign rfl) rfl rfl rfl ?_
  refine G.yl (yl_assign rfl) rfl rfl rfl ?_
  refine G.yl (yl_assign rfl) rfl rfl rfl ?_
  refine G.yl (yl_assign rfl) rfl rfl rfl ?_
  refine G.nil ?_
  refine QA.then_normal ?_
  refine C.seq ?_
  refine C.seq ?_
  refine C.region ?_
  refine G.yl (yl_move rfl) rfl rfl rfl ?_
  refine G.yl (yl_neI rfl rfl) rfl rfl rfl ?_
  refine G.yl (yl_move rfl) rfl rfl rfl ?_
  rcases sp_ite hm with ⟨hc18, hm⟩ | ⟨hc18, hm⟩
  · refine G.on rfl rfl (not_f (dec_t hc18)) ?_
    refine G.yl (yl_move rfl) rfl rfl rfl ?_
    refine G.on rfl rfl (not_f (dec_t hc18)) ?_
    refine G.yl (yl_move rfl) rfl rfl rfl ?_
    refine G.on rfl rfl (not_f (dec_t hc18)) ?_
    refine G.yl (yl_neS rfl rfl) rfl rfl rfl ?_
    refine G.yl (yl_pick_f rfl (not_f (dec_t hc18)) rfl) rfl rfl rfl ?_
    refine G.yl (yl_move rfl) rfl rfl rfl ?_
    rcases sp_ite hm with ⟨hc19, hm⟩ | ⟨hc19, hm⟩
    · refine G.on rfl rfl (not_f (dec_t hc19)) ?_
      refine G.yl (yl_move rfl) rfl rfl rfl ?_
      refine G.on rfl rfl (not_f (dec_t hc19)) ?_
      refine G.yl (yl_move rfl) rfl rfl rfl ?_
      refine G.on rfl rfl (not_f (dec_t hc19)) ?_
      refine G.yl (yl_neS rfl rfl) rfl rfl rfl ?_
      refine G.yl (yl_pick_f rfl (not_f (dec_t hc19)) rfl) rfl rfl rfl ?_
      refine G.yl (yl_move rfl) rfl rfl rfl ?_
      rcases sp_ite hm with ⟨hc20, hm⟩ | ⟨hc20, hm⟩
      · refine G.on rfl rfl (not_f (dec_t hc20)) ?_
        refine G.yl (yl_move rfl) rfl rfl rfl ?_
        refine G.on rfl rfl (not_f (dec_t hc20)) ?_
        refine G.yl (yl_move rfl) rfl rfl rfl ?_
        refine G.on rfl rfl (not_f (dec_t hc20)) ?_
        refine G.yl (yl_neS rfl rfl) rfl rfl rfl ?_
        refine G.yl (yl_pick_f rfl (not_f (dec_t hc20)) rfl) rfl rfl rfl ?_
        refine G.nil ?_
        refine QA.then_normal ?_
        rcases sp_ite hm with ⟨hc21, hm⟩ | ⟨hc21, hm⟩
        · refine C.cond_f rfl (not_f (dec_t hc21)) ?_
          refine C.skip ?_
          refine QA.then_normal ?_
          refine C.seq ?_
          refine C.region ?_
          refine G.yl (yl_move rfl) rfl rfl rfl ?_
          refine G.yl (yl_assign rfl) rfl rfl rfl ?_
          refine G.yl (yl_assign rfl) rfl rfl rfl ?_
          refine G.nil ?_
          refine QA.then_normal ?_
          refine C.ret ?_
          refine QA.ret2 rfl rfl rfl ?_
          obtain ⟨rfl, rfl⟩ := sp_ret2 hm
          exact ⟨rfl, (Sat.pick [] h14)⟩
        · refine C.cond_t rfl (not_t (dec_f hc21)) ?_
          refine C.seq ?_
          refine C.region ?_
          refine G.yl (yl_assign rfl) rfl rfl rfl ?_
          refine G.yl (yl_assign rfl) rfl rfl rfl ?_
          refine G.nil ?_
          refine QA.then_normal ?_
          refine C.ret ?_
          refine QA.then_ret ?_
          refine QA.ret2 rfl rfl rfl ?_
          obtain ⟨rfl, rfl⟩ := sp_ret2 hm
          exact ⟨rfl, (Sat.pick [] h14)⟩
      · refine G.offU rfl rfl (not_t (dec_f hc20)) rfl ?_
        refine G.offU rfl rfl (not_t (dec_f hc20)) rfl ?_
        refine G.offU rfl rfl (not_t (dec_f hc20)) rfl ?_
        refine G.yl (yl_pick_t rfl (not_t (dec_f hc20)) rfl) rfl rfl rfl ?_
        refine G.nil ?_
        refine QA.then_normal ?_
        refine C.cond_t rfl rfl ?_
        refine C.seq ?_
        refine C.region ?_
        refine G.yl (yl_assign rfl) rfl rfl rfl ?_
        refine G.yl (yl_assign rfl) rfl rfl rfl ?_
        refine G.nil ?_
        refine QA.then_normal ?_
        refine C.ret ?_
        refine QA.then_ret ?_
        refine QA.ret2 rfl rfl rfl ?_
        obtain ⟨rfl, rfl⟩ := sp_ret2 hm
        exact ⟨rfl, (Sat.pick [] h14)⟩
    · refine G.offU rfl rfl (not_t (dec_f hc19)) rfl ?_
      refine G.offU rfl rfl (not_t (dec_f hc19)) rfl ?_
      refine G.offU rfl rfl (not_t (dec_f hc19)) rfl ?_
      refine G.yl (yl_pick_t rfl (not_t (dec_f hc19)) rfl) rfl rfl rfl ?_
      refine G.yl (yl_move rfl) rfl rfl rfl ?_
      refine G.offU rfl rfl rfl rfl ?_
      refine G.offU rfl rfl rfl rfl ?_
      refine G.offU rfl rfl rfl rfl ?_
      refine G.yl (yl_pick_t rfl rfl rfl) rfl rfl rfl ?_
      refine G.nil ?_
      refine QA.then_normal ?_
      refine C.cond_t rfl rfl ?_
      refine C.seq ?_
      refine C.region ?_
      refine G.yl (yl_assign rfl) rfl rfl rfl ?_
      refine G.yl (yl_assign rfl) rfl rfl rfl ?_
      refine G.nil ?_
      refine QA.then_normal ?_
      refine C.ret ?_
      refine QA.then_ret ?_
      refine QA.ret2 rfl rfl rfl ?_
      obtain ⟨rfl, rfl⟩ := sp_ret2 hm
      exact ⟨rfl, (Sat.pick [] h14)⟩
  · refine G.offU rfl rfl (not_t (dec_f hc18)) rfl ?_
    refine G.offU rfl rfl (not_t (dec_f hc18)) rfl ?_
    refine G.offU rfl rfl (not_t (dec_f hc18)) rfl ?_
    refine G.yl (yl_pick_t rfl (not_t (dec_f hc18)) rfl) rfl rfl rfl ?_
    refine G.yl (yl_move rfl) rfl rfl rfl ?_
    refine G.offU rfl rfl rfl rfl ?_
    refine G.offU rfl rfl rfl rfl ?_
    refine G.offU rfl rfl rfl rfl ?_
    refine G.yl (yl_pick_t rfl rfl rfl) rfl rfl rfl ?_
    refine G.yl (yl_move rfl) rfl rfl rfl ?_
    refine G.offU rfl rfl rfl rfl ?_
    refine G.offU rfl rfl rfl rfl ?_
    refine G.offU rfl rfl rfl rfl ?_
    refine G.yl (yl_pick_t rfl rfl rfl) rfl rfl rfl ?_
    refine G.nil ?_
    refine QA.then_normal ?_
    refine C.cond_t rfl rfl ?_
    refine C.seq ?_
    refine C.region ?_
    refine G.yl (yl_assign rfl) rfl rfl rfl ?_
    refine G.yl (yl_assign rfl) rfl rfl rfl ?_
    refine G.nil ?_
    refine QA.then_normal ?_
    refine C.ret ?_
    refine QA.then_ret ?_
    refine QA.ret2 rfl rfl rfl ?_
    obtain ⟨rfl, rfl⟩ := sp_ret2 hm
    exact ⟨rfl, (Sat.pick [] h14)⟩
set_option maxRecDepth 20000 in
set_option maxHeartbeats 1000000 in
theorem M_signpostref09_Fold_w {W : Base} {w : World} {s : List UInt8}  (h : Sat W w []) {r1 : List UInt8} (hm : M_signpostref09_Fold s = some r1) :
    Calls Tryd.prog 25 #[(.string (str s))] w (Ret fun v w' => v = (.string (str r1)) ∧ Sat W w' []) := by
  unfold M_signpostref09_Fold at hm
  refine C.enter (N := 36) Tryd.func25 rfl Tryd.ntmps25 rfl ?_
  show C _ _ _ [(0, (.string (str s)))] _ _
  refine C.seq ?_
  refine C.region ?_
  refine G.yl (yl_assign rfl) rfl rfl rfl ?_
  refine G.nil ?_
  refine QA.then_normal ?_
  refine C.seq ?_
  refine C.region ?_
  refine G.yl (yl_move rfl) rfl rfl rfl ?_
  obtain ⟨hc1, hm⟩ := sp_chk hm
  refine G.does (does_bytes h Tryd.underlying9 Tryd.underlying44 Tryd.underlying5 el5 rfl hc1) rfl rfl rfl ?_
  rintro _ w4 ⟨a2, c3, rfl, h5⟩
  refine G.yl (yl_assign rfl) rfl rfl rfl ?_
  refine G.nil ?_
  refine QA.then_normal ?_
  refine C.seq ?_
  refine C.seq ?_
  refine C.region ?_
  refine G.yl (yl_assign rfl) rfl rfl rfl ?_
  refine G.nil ?_
  refine QA.then_normal ?_
  refine C.block ?_
  obtain ⟨o, ho8, hm9⟩ := sp_bind hm
  refine C.left (γ := List UInt8) (.exit 0) (fun g => match g with | b_2 => [(2, (.string (str ([] : List UInt8)))), (3, (.slice a2 s.length c3))]) (fun g ww => match g with | b_2 => b_2 = o ∧ (b_2.length = s.length) ∧ Sat W ww [ow elU8 a2 c3 5 b_2]) ?_ ?_
  · refine C.loopO (γ := List UInt8 × Int) (fun g => match g with | (b, i) => [(2, (.string (str ([] : List UInt8)))), (3, (.slice a2 s.length c3)), (4, (vI i))]) (fun g ww => match g with | (b, i) => (b.length = s.length) ∧ Sat W ww [ow elU8 a2 c3 5 b]) (fun g => match g with | (b, i) => (b, i)) (s, 0) ho8 (Sub.of ⟨rfl, rfl, rfl, trivial⟩) ⟨(by simp [copyL_length]), (Sat.pick [0] h5)⟩ ?_
    rintro ⟨b, i⟩ k12 w10 y_ ⟨hl6, h11⟩ hm hg13
    show C _ _ _ [(2, (.string (str ([] : List UInt8)))), (3, (.slice a2 s.length c3)), (4, (vI i))] _ _
    change M_signpostref09_Fold_b1 s b i = some y_ at hm
    unfold M_signpostref09_Fold_b1 at hm
    refine C.seq ?_
    refine C.seq ?_
    refine C.region ?_
    refine G.yl (yl_move rfl) rfl rfl rfl ?_
    refine G.yl (yl_move rfl) rfl rfl rfl ?_
    refine G.yl (yl_lenE Tryd.underlying44 rfl) rfl rfl rfl ?_
    refine G.yl (yl_ltI rfl rfl) rfl rfl rfl ?_
    refine G.nil ?_
    refine QA.then_normal ?_
    rcases sp_ite hm with ⟨hc14, hm⟩ | ⟨hc14, hm⟩
    · refine C.cond_t rfl (dec_t hc14) ?_
      refine C.skip ?_
      refine QA.then_normal ?_
      refine C.seq ?_
      refine C.block ?_
      refine C.join (γ := Bool) (fun g => match g with | t24 => [(2, (.string (str ([] : List UInt8)))), (3, (.slice a2 s.length c3)), (4, (vI i)), (24, (.bool t24))]) (fun g ww => match g with | t24 => (M_signpostref09_Fold_k2 b i t24 = some y_) ∧ Sat W ww [ow elU8 a2 c3 5 b]) ?_ ?_
      · refine C.region ?_
        refine G.yl (yl_move rfl) rfl rfl rfl ?_
        refine G.yl (yl_move rfl) rfl rfl rfl ?_
        obtain ⟨x, hy15, hm⟩ := sp_bind hm
        refine G.yl (yl_ixP (l := b) sl44 rfl rfl (View.isA (E := elU8) (Sat.own_view h11) (by decide) (at?_lt hy15)) (by simp [copyL_length, hl6]) (at?_lt hy15)) rfl rfl rfl ?_
        refine G.yl (yl_ld1 (E := elU8) (v := (v8 x)) ag5 rfl (Sat.own_view h11) (at?_some hy15).2 rfl) rfl rfl rfl ?_
        refine G.yl (yl_ge8 (b := 65) rfl rfl) rfl rfl rfl ?_
        refine G.yl (yl_move rfl) rfl rfl rfl ?_
        rcases sp_ite hm with ⟨hc16, hm⟩ | ⟨hc16, hm⟩
        · refine G.on rfl rfl (dec_t hc16) ?_
          refine G.yl (yl_move rfl) rfl rfl rfl ?_
          refine G.on rfl rfl (dec_t hc16) ?_
          refine G.yl (yl_move rfl) rfl rfl rfl ?_
          refine G.on rfl rfl (dec_t hc16) ?_
          refine G.yl (yl_ixP (l := b) sl44 rfl rfl (View.isA (E := elU8) (Sat.own_view h11) (by decide) (at?_lt hy15)) (by simp [copyL_length, hl6]) (at?_lt hy15)) rfl rfl rfl ?_
          refine G.on rfl rfl (dec_t hc16) ?_
          refine G.yl (yl_ld1 (E := elU8) (v := (v8 x)) ag5 rfl (Sat.own_view h11) (at?_some hy15).2 rfl) rfl rfl rfl ?_
          refine G.on rfl rfl (dec_t hc16) ?_
          refine G.yl (yl_le8 (b := 90) rfl rfl) rfl rfl rfl ?_
          refine G.yl (yl_pick_t rfl (dec_t hc16) rfl) rfl rfl rfl ?_
          refine G.nil ?_
          exact QA.join (decide (x ≤ 90)) (Sub.of ⟨rfl, rfl, rfl, rfl, trivial⟩) ⟨hm, (Sat.pick [0] h11)⟩
        · refine G.offU rfl rfl (dec_f hc16) rfl ?_
          refine G.offU rfl rfl (dec_f hc16) rfl ?_
          refine G.offU rfl rfl (dec_f hc16) rfl ?_
          refine G.offU rfl rfl (dec_f hc16) rfl ?_
          refine G.offU rfl rfl (dec_f hc16) rfl ?_
          refine G.yl (yl_pick_f rfl (dec_f hc16) rfl) rfl rfl rfl ?_
          refine G.nil ?_
          exact QA.join false (Sub.of ⟨rfl, rfl, rfl, rfl, trivial⟩) ⟨hm, (Sat.pick [0] h11)⟩
      · rintro t24 w17 ⟨hm, h18⟩
        show C _ _ _ [(2, (.string (str ([] : List UInt8)))), (3, (.slice a2 s.length c3)), (4, (vI i)), (24, (.bool t24))] _ _
        unfold M_signpostref09_Fold_k2 at hm
        rcases sp_b hm with ⟨hc19, hm⟩ | ⟨hc19, hm⟩
        · refine C.cond_t rfl hc19 ?_
          refine C.region ?_
          refine G.yl (yl_move rfl) rfl rfl rfl ?_
          refine G.yl (yl_move rfl) rfl rfl rfl ?_
          refine G.yl (yl_move rfl) rfl rfl rfl ?_
          refine G.yl (yl_move rfl) rfl rfl rfl ?_
          obtain ⟨x_2, hy20, hm⟩ := sp_bind hm
          refine G.yl (yl_ixP (l := b) sl44 rfl rfl (View.isA (E := elU8) (Sat.own_view h18) (by decide) (at?_lt hy20)) (by simp [copyL_length, hl6]) (at?_lt hy20)) rfl rfl rfl ?_
          refine G.yl (yl_ld1 (E := elU8) (v := (v8 x_2)) ag5 rfl (Sat.own_view h18) (at?_some hy20).2 rfl) rfl rfl rfl ?_
          refine G.yl (yl_add8 (b := 97) rfl rfl) rfl rfl rfl ?_
          refine G.yl (yl_sub8 (b := 65) rfl rfl) rfl rfl rfl ?_
          refine G.yl (yl_ixP (l := b) sl44 rfl rfl (View.isA (E := elU8) (Sat.own_view h18) (by decide) (at?_lt hy20)) (by simp [copyL_length, hl6]) (at?_lt hy20)) rfl rfl rfl ?_
          refine G.unit (does_stE (E := elU8) (r := (x_2 + 97) - 65) h18 sz5 rfl rfl (by decide) rfl (List.getElem?_eq_some_iff.1 (at?_some hy20).2).1) rfl rfl ?_
          rintro _ w21 h22
          refine G.nil ?_
          refine QA.block_normal ?_
          refine QA.then_normal ?_
          refine C.region ?_
          refine G.yl (yl_move rfl) rfl rfl rfl ?_
          obtain ⟨hc23, hm⟩ := sp_chk hm
          refine G.yl (yl_addI rfl rfl hc23) rfl rfl rfl ?_
          refine G.yl (yl_assign rfl) rfl rfl rfl ?_
          refine G.nil ?_
          obtain rfl := sp_ret1 hm
          exact QA.againO (b.set i.toNat ((x_2 + 97) - 65), i + 1) hg13 (Sub.of ⟨rfl, (look_eq rfl (by simp [copyL_length, hl6])), rfl, trivial⟩) ⟨(by simp [copyL_length, hl6]), (Sat.pick [0] h22)⟩
        · refine C.cond_f rfl hc19 ?_
          refine C.skip ?_
          refine QA.block_normal ?_
          refine QA.then_normal ?_
          refine C.region ?_
          refine G.yl (yl_move rfl) rfl rfl rfl ?_
          obtain ⟨hc24, hm⟩ := sp_chk hm
          refine G.yl (yl_addI rfl rfl hc24) rfl rfl rfl ?_
          refine G.yl (yl_assign rfl) rfl rfl rfl ?_
          refine G.nil ?_
          obtain rfl := sp_ret1 hm
          exact QA.againO (b, i + 1) hg13 (Sub.of ⟨rfl, (look_eq rfl (by simp [copyL_length, hl6])), rfl, trivial⟩) ⟨(by simp [copyL_length, hl6]), (Sat.pick [0] h18)⟩
    · refine C.cond_f rfl (dec_f hc14) ?_
      refine C.exit ?_
      refine QA.then_exit ?_
      refine QA.then_exit ?_
      obtain rfl := sp_ret1 hm
      exact QA.left b (Sub.of ⟨rfl, (look_eq rfl (by simp [copyL_length, hl6])), trivial⟩) ⟨hg13, (by simp [copyL_length, hl6]), (Sat.pick [0] h11)⟩
  · rintro b_2 w25 ⟨rfl, hl7, h26⟩
    have hm := hm9
    show QA _ _ [(2, (.string (str ([] : List UInt8)))), (3, (.slice a2 s.length c3))] _ _
    refine QA.block_here ?_
    refine QA.then_normal ?_
    refine C.seq ?_
    refine C.region ?_
    refine G.yl (yl_move rfl) rfl rfl rfl ?_
    refine G.yl (yl_strE (l := b_2) Tryd.underlying44 Tryd.underlying5 Tryd.underlying9 rfl (by simp [copyL_length, hl7]) (Sat.own_view h26)) rfl rfl rfl ?_
    refine G.yl (yl_assign rfl) rfl rfl rfl ?_
    refine G.nil ?_
    refine QA.then_normal ?_
    refine C.ret ?_
    refine QA.ret1 rfl rfl ?_
    obtain rfl := sp_ret1 hm
    exact ⟨rfl, (Sat.pick [] h26)⟩
end Go.Proofs.YtlkilokdbkjbmaaDoor
