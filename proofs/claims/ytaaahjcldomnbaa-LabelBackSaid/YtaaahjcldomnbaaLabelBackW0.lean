/-
  That the functions of the program compute what their Lean functions say, part 0. No condition.
-/
import Derived.Test.YtaaahjcldomnbaaLabelBackFct
namespace Go.Proofs.Ytaaahjcldomnbaa
open Go Go.RowKit
set_option linter.unusedVariables false
set_option linter.unusedSimpArgs false
set_option linter.unnecessarySimpa false
set_option maxRecDepth 20000 in
theorem M_label_parts_w {W : Base} {w : World} {s : List UInt8}  (h : Sat W w [])  (hm : M_label_parts s = some ()) :
    Calls Try.prog 81 #[(.string (str s))] w (Ret fun v w' => ∃ r1 : Nat, v = (.func (.func 111) #[] #[(.pointer (some ⟨r1, 0, none⟩))]) ∧ Sat W w' [blk r1 [(.string (str s))] 9]) := by
  unfold M_label_parts at hm
  refine C.enter (N := 4) Try.func81 rfl Try.ntmps81 rfl ?_
  show C _ _ _ [(0, (.string (str s)))] _ _
  refine C.seq ?_
  refine C.region ?_
  refine G.does (does_box (cs := [(.string (str s))]) h rfl rfl) rfl rfl rfl ?_
  rintro _ w2 ⟨b1, rfl, h3⟩
  refine G.yl (yl_assign rfl) rfl rfl rfl ?_
  refine G.nil ?_
  refine QA.then_normal ?_
  refine C.seq ?_
  refine C.region ?_
  refine G.yl (yl_func rfl rfl) rfl rfl rfl ?_
  refine G.yl (yl_assign rfl) rfl rfl rfl ?_
  refine G.nil ?_
  refine QA.then_normal ?_
  refine C.ret ?_
  refine QA.ret1 rfl rfl ?_
  exact ⟨b1, rfl, (Sat.pick [0] h3)⟩
set_option maxRecDepth 20000 in
theorem M_stringslite_IndexByte_w {W : Base} {w : World} {s : List UInt8} {c : UInt8}  (h : Sat W w [])  (hm : M_stringslite_IndexByte s c = some ()) :
    Calls Try.prog 139 #[(.string (str s)), (v8 c)] w (Ret fun v w' => v = (vI (Lib.indexByte s c)) ∧ Sat W w' []) := by
  unfold M_stringslite_IndexByte at hm
  refine C.enter (N := 8) Try.func139 rfl Try.ntmps139 rfl ?_
  show C _ _ _ [(0, (.string (str s))), (1, (v8 c))] _ _
  refine C.seq ?_
  refine C.region ?_
  refine G.yl (yl_assign rfl) rfl rfl rfl ?_
  refine G.nil ?_
  refine QA.then_normal ?_
  refine C.seq ?_
  refine C.region ?_
  refine G.yl (yl_move rfl) rfl rfl rfl ?_
  refine G.yl (yl_move rfl) rfl rfl rfl ?_
  refine G.yl (yl_ixbS (b := c) rfl rfl rfl Try.func144 ex144) rfl rfl rfl ?_
  refine G.yl (yl_assign rfl) rfl rfl rfl ?_
  refine G.nil ?_
  refine QA.then_normal ?_
  refine C.ret ?_
  refine QA.ret1 rfl rfl ?_
  exact ⟨rfl, (Sat.pick [] h)⟩
set_option maxRecDepth 20000 in
theorem M_stringslite_Index_w {W : Base} {w : World} {s : List UInt8}  (h : Sat W w []) {r1 : Int} (hm : M_stringslite_Index s = some r1) :
    Calls Try.prog 134 #[(.string (str s)), (.string (str ([46] : List UInt8)))] w (Ret fun v w' => v = (vI r1) ∧ Sat W w' []) := by
  unfold M_stringslite_Index at hm
  refine C.enter (N := 143) Try.func134 rfl Try.ntmps134 rfl ?_
  show C _ _ _ [(0, (.string (str s))), (1, (.string (str ([46] : List UInt8))))] _ _
  refine C.seq ?_
  refine C.region ?_
  refine G.yl (yl_assign rfl) rfl rfl rfl ?_
  refine G.nil ?_
  refine QA.then_normal ?_
  refine C.seq ?_
  refine C.region ?_
  refine G.yl (yl_move rfl) rfl rfl rfl ?_
  refine G.yl (yl_slenE Try.underlying9 rfl) rfl rfl rfl ?_
  refine G.yl (yl_assign rfl) rfl rfl rfl ?_
  refine G.nil ?_
  refine QA.then_normal ?_
  refine C.seq ?_
  refine C.block ?_
  refine C.seq ?_
  refine C.region ?_
  refine G.yl (yl_move rfl) rfl rfl rfl ?_
  refine G.yl (yl_eqI rfl rfl) rfl rfl rfl ?_
  refine G.yl (yl_move rfl) rfl rfl rfl ?_
  refine G.on rfl rfl (by decide) ?_
  refine G.yl (yl_move rfl) rfl rfl rfl ?_
  refine G.on rfl rfl (by decide) ?_
  refine G.yl (yl_move rfl) rfl rfl rfl ?_
  refine G.on rfl rfl (by decide) ?_
  refine G.yl (yl_eqS rfl rfl) rfl rfl rfl ?_
  refine G.yl (yl_pick_f rfl (by decide) rfl) rfl rfl rfl ?_
  refine G.yl (yl_assign rfl) rfl rfl rfl ?_
  refine G.nil ?_
  refine QA.then_normal ?_
  rcases sp_ite hm with ⟨hc1, hm⟩ | ⟨hc1, hm⟩
  · refine C.cond_t rfl (dec_t hc1) ?_
    refine C.seq ?_
    refine C.region ?_
    refine G.yl (yl_assign rfl) rfl rfl rfl ?_
    refine G.nil ?_
    refine QA.then_normal ?_
    refine C.ret ?_
    refine QA.block_ret ?_
    refine QA.then_ret ?_
    refine QA.ret1 rfl rfl ?_
    obtain rfl := sp_ret1 hm
    exact ⟨rfl, (Sat.pick [] h)⟩
  · refine C.cond_f rfl (dec_f hc1) ?_
    refine C.seq ?_
    refine C.region ?_
    refine G.yl (yl_move rfl) rfl rfl rfl ?_
    refine G.yl (yl_eqI rfl rfl) rfl rfl rfl ?_
    refine G.yl (yl_assign rfl) rfl rfl rfl ?_
    refine G.nil ?_
    refine QA.then_normal ?_
    refine C.cond_t rfl (by decide) ?_
    refine C.seq ?_
    refine C.region ?_
    refine G.yl (yl_move rfl) rfl rfl rfl ?_
    refine G.yl (yl_move rfl) rfl rfl rfl ?_
    obtain ⟨c, hy2, hm⟩ := sp_bind hm
    refine G.yl (yl_ixS Try.underlying9 rfl rfl hy2) rfl rfl rfl ?_
    obtain ⟨_, hy3, hm⟩ := sp_bind hm
    refine G.does (does_fn 0 rfl rfl rfl en139 h (fun U hU hp hr hs => M_stringslite_IndexByte_w hp hy3)) rfl rfl rfl ?_
    rintro _ w4 ⟨U7, hb8, rfl, h6⟩
    have h5 : Sat W w4 [] := hb8 h6
    refine G.yl (yl_assign rfl) rfl rfl rfl ?_
    refine G.nil ?_
    refine QA.then_normal ?_
    refine C.ret ?_
    refine QA.block_ret ?_
    refine QA.then_ret ?_
    refine QA.ret1 rfl rfl ?_
    obtain rfl := sp_ret1 hm
    exact ⟨rfl, (Sat.pick [] h5)⟩
set_option maxRecDepth 20000 in
theorem M_stringslite_Cut_w {W : Base} {w : World} {s : List UInt8}  (h : Sat W w []) {r1 : List UInt8} {r2 : List UInt8} {r3 : Bool} (hm : M_stringslite_Cut s = some (r1, r2, r3)) :
    Calls Try.prog 125 #[(.string (str s)), (.string (str ([46] : List UInt8)))] w (Ret fun v w' => v = (.tuple #[(.string (str r1)), (.string (str r2)), (.bool r3)]) ∧ Sat W w' []) := by
  unfold M_stringslite_Cut at hm
  refine C.enter (N := 23) Try.func125 rfl Try.ntmps125 rfl ?_
  show C _ _ _ [(0, (.string (str s))), (1, (.string (str ([46] : List UInt8))))] _ _
  refine C.seq ?_
  refine C.region ?_
  refine G.yl (yl_assign rfl) rfl rfl rfl ?_
  refine G.yl (yl_assign rfl) rfl rfl rfl ?_
  refine G.yl (yl_assign rfl) rfl rfl rfl ?_
  refine G.nil ?_
  refine QA.then_normal ?_
  refine C.seq ?_
  refine C.seq ?_
  refine C.region ?_
  refine G.yl (yl_move rfl) rfl rfl rfl ?_
  refine G.yl (yl_move rfl) rfl rfl rfl ?_
  obtain ⟨r1_2, hy1, hm⟩ := sp_bind hm
  refine G.does (does_fn 0 rfl rfl rfl en134 h (fun U hU hp hr hs => M_stringslite_Index_w hp hy1)) rfl rfl rfl ?_
  rintro _ w2 ⟨U5, hb6, rfl, h4⟩
  have h3 : Sat W w2 [] := hb6 h4
  refine G.yl (yl_assign rfl) rfl rfl rfl ?_
  refine G.nil ?_
  refine QA.then_normal ?_
  refine C.seq ?_
  refine C.region ?_
  refine G.yl (yl_move rfl) rfl rfl rfl ?_
  refine G.yl (yl_geI rfl rfl) rfl rfl rfl ?_
  refine G.nil ?_
  refine QA.then_normal ?_
  rcases sp_ite hm with ⟨hc7, hm⟩ | ⟨hc7, hm⟩
  · refine C.cond_t rfl (dec_t hc7) ?_
    refine C.seq ?_
    refine C.draw (V := fun w' => True) (nd := []) (sp := []) (n := 12) rfl h3 rfl rfl ?_
    intro w8 h9
    have hS10 : Cls (fun w' => True) [] [] #[false, false, false, false, false, false, false, false, false, false, false, false] w8 := Cls.keep (trivial) (by kernel_rfl)
    refine GH.yl (i := 0) (listed' := #[true, false, false, false, false, false, false, false, false, false, false, false]) rfl (by kernel_rfl) rfl (NP.next (NP.next NP.body)) rfl rfl rfl (fun w' => yl_move rfl) hS10 (fun hS11 => ?_)
    refine GH.yl (i := 1) (listed' := #[true, true, false, false, false, false, false, false, false, false, false, false]) rfl (by kernel_rfl) rfl (NP.next (NP.next NP.body)) rfl rfl rfl (fun w' => yl_move rfl) hS11 (fun hS12 => ?_)
    obtain ⟨hc13, hm⟩ := sp_chk hm
    refine GH.yl (i := 2) (listed' := #[true, true, true, false, false, false, false, false, false, false, false, false]) rfl (by kernel_rfl) rfl (NP.next (NP.next NP.body)) rfl rfl rfl (fun w' => yl_slHS Try.underlying9 rfl rfl hc13) hS12 (fun hS14 => ?_)
    refine GH.yl (i := 3) (listed' := #[true, true, true, true, false, false, false, false, false, false, false, false]) rfl (by kernel_rfl) rfl (NP.next (NP.next NP.body)) rfl rfl rfl (fun w' => yl_move rfl) hS14 (fun hS15 => ?_)
    refine GH.yl (i := 4) (listed' := #[true, true, true, true, true, false, false, false, false, false, false, false]) rfl (by kernel_rfl) rfl (NP.next (NP.next NP.body)) rfl rfl rfl (fun w' => yl_move rfl) hS15 (fun hS16 => ?_)
    refine GH.yl (i := 5) (listed' := #[true, true, true, true, true, true, false, false, false, false, false, false]) rfl (by kernel_rfl) rfl (NP.next (NP.next NP.body)) rfl rfl rfl (fun w' => yl_move rfl) hS16 (fun hS17 => ?_)
    refine GH.yl (i := 6) (listed' := #[true, true, true, true, true, true, true, false, false, false, false, false]) rfl (by kernel_rfl) rfl (NP.next (NP.next NP.body)) rfl rfl rfl (fun w' => yl_slenE Try.underlying9 rfl) hS17 (fun hS18 => ?_)
    obtain ⟨hc19, hm⟩ := sp_chk hm
    refine GH.yl (i := 7) (listed' := #[true, true, true, true, true, true, true, true, false, false, false, false]) rfl (by kernel_rfl) rfl (NP.next (NP.next NP.body)) rfl rfl rfl (fun w' => yl_addI rfl rfl hc19) hS18 (fun hS20 => ?_)
    obtain ⟨hc21, hm⟩ := sp_chk hm
    refine GH.yl (i := 8) (listed' := #[true, true, true, true, true, true, true, true, true, false, false, false]) rfl (by kernel_rfl) rfl (NP.next (NP.next NP.body)) rfl rfl rfl (fun w' => yl_slLS Try.underlying9 rfl rfl hc21) hS20 (fun hS22 => ?_)
    refine GH.yl (i := 9) (listed' := #[true, true, true, true, true, true, true, true, true, true, false, false]) rfl (by kernel_rfl) rfl (NP.next (NP.next NP.body)) rfl rfl rfl (fun w' => yl_assign rfl) hS22 (fun hS23 => ?_)
    refine GH.yl (i := 10) (listed' := #[true, true, true, true, true, true, true, true, true, true, true, false]) rfl (by kernel_rfl) rfl (NP.next (NP.next NP.body)) rfl rfl rfl (fun w' => yl_assign rfl) hS23 (fun hS24 => ?_)
    refine GH.yl (i := 11) (listed' := #[true, true, true, true, true, true, true, true, true, true, true, true]) rfl (by kernel_rfl) rfl (NP.next (NP.next NP.body)) rfl rfl rfl (fun w' => yl_assign rfl) hS24 (fun hS25 => ?_)
    refine GH.done (by kernel_rfl) ?_
    refine QA.then_normal ?_
    refine C.ret ?_
    refine QA.then_ret ?_
    refine QA.ret3 rfl rfl rfl rfl ?_
    obtain ⟨rfl, rfl, rfl⟩ := sp_ret3 hm
    exact ⟨rfl, (Sat.pick [] h9)⟩
  · refine C.cond_f rfl (dec_f hc7) ?_
    refine C.skip ?_
    refine QA.then_normal ?_
    refine C.seq ?_
    refine C.region ?_
    refine G.yl (yl_move rfl) rfl rfl rfl ?_
    refine G.yl (yl_assign rfl) rfl rfl rfl ?_
    refine G.yl (yl_assign rfl) rfl rfl rfl ?_
    refine G.yl (yl_assign rfl) rfl rfl rfl ?_
    refine G.nil ?_
    refine QA.then_normal ?_
    refine C.ret ?_
    refine QA.ret3 rfl rfl rfl rfl ?_
    obtain ⟨rfl, rfl, rfl⟩ := sp_ret3 hm
    exact ⟨rfl, (Sat.pick [] h3)⟩
set_option maxRecDepth 20000 in
theorem M_strings_Cut_w {W : Base} {w : World} {s : List UInt8}  (h : Sat W w []) {r1 : List UInt8} {r2 : List UInt8} {r3 : Bool} (hm : M_strings_Cut s = some (r1, r2, r3)) :
    Calls Try.prog 112 #[(.string (str s)), (.string (str ([46] : List UInt8)))] w (Ret fun v w' => v = (.tuple #[(.string (str r1)), (.string (str r2)), (.bool r3)]) ∧ Sat W w' []) := by
  unfold M_strings_Cut at hm
  refine C.enter (N := 13) Try.func112 rfl Try.ntmps112 rfl ?_
  show C _ _ _ [(0, (.string (str s))), (1, (.string (str ([46] : List UInt8))))] _ _
  refine C.seq ?_
  refine C.region ?_
  refine G.yl (yl_assign rfl) rfl rfl rfl ?_
  refine G.yl (yl_assign rfl) rfl rfl rfl ?_
  refine G.yl (yl_assign rfl) rfl rfl rfl ?_
  refine G.nil ?_
  refine QA.then_normal ?_
  refine C.seq ?_
  refine C.region ?_
  refine G.yl (yl_move rfl) rfl rfl rfl ?_
  refine G.yl (yl_move rfl) rfl rfl rfl ?_
  obtain ⟨⟨r1_2, r2_2, r3_2⟩, hy1, hm⟩ := sp_bind hm
  refine G.does (does_fn 0 rfl rfl rfl en125 h (fun U hU hp hr hs => M_stringslite_Cut_w hp hy1)) rfl rfl rfl ?_
  rintro _ w2 ⟨U5, hb6, rfl, h4⟩
  have h3 : Sat W w2 [] := hb6 h4
  refine G.yl (yl_extract rfl rfl) rfl rfl rfl ?_
  refine G.yl (yl_extract rfl rfl) rfl rfl rfl ?_
  refine G.yl (yl_extract rfl rfl) rfl rfl rfl ?_
  refine G.yl (yl_assign rfl) rfl rfl rfl ?_
  refine G.yl (yl_assign rfl) rfl rfl rfl ?_
  refine G.yl (yl_assign rfl) rfl rfl rfl ?_
  refine G.nil ?_
  refine QA.then_normal ?_
  refine C.ret ?_
  refine QA.ret3 rfl rfl rfl rfl ?_
  obtain ⟨rfl, rfl, rfl⟩ := sp_ret3 hm
  exact ⟨rfl, (Sat.pick [] h3)⟩
set_option maxRecDepth 20000 in
theorem M_label_parts_1_p_it {W : Base} {w : World} {b : Nat} {x : List UInt8}  :
    IterOk Try.prog 111 [(.pointer (some ⟨b, 0, none⟩))] (fun (x : List UInt8) => [(.string (str x))]) (@fun σ_ ρ_ f_ z_ => M_label_parts_1_p f_ x z_) [blk b [(.string (str x))] 9] W w := by
  intro σ_ ρ_ f_ z_ o_ B_ X_ l_ hm hyld_ u_ hch_ h
  change M_label_parts_1_p f_ x z_ = some o_ at hm
  replace h : Sat W u_ [blk b [(.string (str x))] 9, B_ z_] := h
  unfold M_label_parts_1_p at hm
  refine C.enter (N := 21) Try.func111 rfl Try.ntmps111 rfl ?_
  show C _ _ _ [(0, (.func (.yield l_) #[] #[])), (1, (.pointer (some ⟨b, 0, none⟩)))] _ _
  refine C.block ?_
  obtain ⟨o, ho1, hm2⟩ := sp_bind hm
  refine C.loopO (γ := σ_ × List UInt8) (fun g => match g with | (z, t1) => [(0, (.func (.yield l_) #[] #[])), (1, (.pointer (some ⟨b, 0, none⟩)))]) (fun g ww => match g with | (z, t1) => Sat W ww [B_ z, blk b [(.string (str t1))] 9]) (fun g => match g with | (z, t1) => (z, t1)) (z_, x) ho1 (Sub.of ⟨rfl, rfl, trivial⟩) (Sat.pick [1, 0] h) ?_
  rintro ⟨z, t1⟩ k5 w3 y_ h4 hm hg6
  show C _ _ _ [(0, (.func (.yield l_) #[] #[])), (1, (.pointer (some ⟨b, 0, none⟩)))] _ _
  change M_label_parts_1_p_b1 f_ z t1 = some y_ at hm
  unfold M_label_parts_1_p_b1 at hm
  refine C.block ?_
  refine C.seq ?_
  refine C.region ?_
  refine G.yl (yl_load (v := (.string (str t1))) ag9 rfl (View.at0 (j := 0) (Sat.pick [1] h4).isBlk.view0 rfl)) rfl rfl rfl ?_
  obtain ⟨⟨r1, r2, r3⟩, hy7, hm⟩ := sp_bind hm
  refine G.does (does_fn 0 rfl rfl rfl en112 h4 (fun U hU hp hr hs => M_strings_Cut_w hp hy7)) rfl rfl rfl ?_
  rintro _ w8 ⟨U11, hb12, rfl, h10⟩
  have h9 : Sat W w8 [B_ z, blk b [(.string (str t1))] 9] := hb12 h10
  refine G.yl (yl_move rfl) rfl rfl rfl ?_
  refine G.yl (yl_extract rfl rfl) rfl rfl rfl ?_
  refine G.yl (yl_extract rfl rfl) rfl rfl rfl ?_
  refine G.yl (yl_extract rfl rfl) rfl rfl rfl ?_
  refine G.yl (yl_assign rfl) rfl rfl rfl ?_
  refine G.yl (yl_assign rfl) rfl rfl rfl ?_
  refine G.yl (yl_assign rfl) rfl rfl rfl ?_
  refine G.nil ?_
  refine QA.then_normal ?_
  refine C.seq ?_
  refine C.seq ?_
  refine C.region ?_
  refine G.yl (yl_move rfl) rfl rfl rfl ?_
  refine G.yl (yl_move rfl) rfl rfl rfl ?_
  obtain ⟨y__2, hy13, hm⟩ := sp_bind hm
  rcases y__2 with z_2 | x_2
  · refine G.yield_go hyld_ rfl rfl hy13 h9 rfl rfl (fun w14 h15 => ?_)
    refine G.yl (yl_not rfl) rfl rfl rfl ?_
    refine G.yl (yl_move rfl) rfl rfl rfl ?_
    refine G.on rfl rfl (not_f rfl) ?_
    refine G.yl (yl_move rfl) rfl rfl rfl ?_
    refine G.on rfl rfl (not_f rfl) ?_
    refine G.yl (yl_not rfl) rfl rfl rfl ?_
    refine G.yl (yl_pick_f rfl (not_f rfl) rfl) rfl rfl rfl ?_
    refine G.nil ?_
    refine QA.then_normal ?_
    rcases sp_b hm with ⟨hc16, hm⟩ | ⟨hc16, hm⟩
    · refine C.cond_f rfl (not_f hc16) ?_
      refine C.skip ?_
      refine QA.then_normal ?_
      refine C.region ?_
      refine G.yl (yl_move rfl) rfl rfl rfl ?_
      refine G.unit (does_store (vs := [(.string (str r2))]) (Sat.pick [1, 0] h15) sz9 rfl rfl rfl rfl (List.forall_mem_cons.2 ⟨rfl, (fun _ hh => by cases hh)⟩) (Nat.le_of_ble_eq_true rfl)) rfl rfl ?_
      rintro _ w17 h19
      have h18 : Sat W w17 [blk b [(.string (str r2))] 9, B_ z_2] := h19
      refine G.nil ?_
      refine QA.block_normal ?_
      obtain rfl := sp_ret1 hm
      exact QA.againO (z_2, r2) hg6 (Sub.of ⟨rfl, rfl, trivial⟩) (Sat.pick [1, 0] h18)
    · refine C.cond_t rfl (not_t hc16) ?_
      refine C.ret ?_
      refine QA.then_ret ?_
      refine QA.block_ret ?_
      refine QA.then_ret ?_
      refine QA.block_ret ?_
      refine QA.ret0 rfl ?_
      obtain rfl := sp_ret1 hm
      obtain rfl : (.inl z_2) = o := hg6
      have hm : some (.inl z_2) = some o_ := hm2
      obtain rfl := sp_ret1 hm
      exact .inl ⟨_, rfl, Sat.one h15⟩
  · refine G.yield_stop hyld_ rfl rfl hy13 h9 rfl rfl (fun w20 h21 => ?_)
    refine G.yl (yl_not rfl) rfl rfl rfl ?_
    refine G.yl (yl_move rfl) rfl rfl rfl ?_
    refine G.offU rfl rfl (not_t rfl) rfl ?_
    refine G.offU rfl rfl (not_t rfl) rfl ?_
    refine G.yl (yl_pick_t rfl (not_t rfl) rfl) rfl rfl rfl ?_
    refine G.nil ?_
    refine QA.then_normal ?_
    refine C.cond_t rfl rfl ?_
    refine C.ret ?_
    refine QA.then_ret ?_
    refine QA.block_ret ?_
    refine QA.then_ret ?_
    refine QA.block_ret ?_
    refine QA.ret0 rfl ?_
    obtain rfl := sp_ret1 hm
    obtain rfl : (.inr x_2) = o := hg6
    have hm : some (.inr x_2) = some o_ := hm2
    obtain rfl := sp_ret1 hm
    exact .inr ⟨_, rfl, Sat.one h21⟩
set_option maxRecDepth 20000 in
theorem M_label_plain_w {W : Base} {w : World} {c : UInt8}  (h : Sat W w []) {r1 : Bool} (hm : M_label_plain c = some r1) :
    Calls Try.prog 113 #[(v8 c)] w (Ret fun v w' => v = (.bool r1) ∧ Sat W w' []) := by
  unfold M_label_plain at hm
  refine C.enter (N := 30) Try.func113 rfl Try.ntmps113 rfl ?_
  show C _ _ _ [(0, (v8 c))] _ _
  refine C.seq ?_
  refine C.region ?_
  refine G.yl (yl_assign rfl) rfl rfl rfl ?_
  refine G.nil ?_
  refine QA.then_normal ?_
  refine C.seq ?_
  refine C.block ?_
  refine C.seq ?_
  refine C.block ?_
  refine C.block ?_
  refine C.block ?_
  refine C.seq ?_
  refine C.join (γ := Unit) (fun g => match g with | () => [(0, (v8 c)), (2, (.bool false))]) (fun g ww => match g with | () => (M_label_plain_k1 c = some r1) ∧ Sat W ww []) ?_ ?_
  · refine C.seq ?_
    refine C.region ?_
    refine G.yl (yl_move rfl) rfl rfl rfl ?_
    refine G.yl (yl_ge8 (b := 97) rfl rfl) rfl rfl rfl ?_
    refine G.yl (yl_move rfl) rfl rfl rfl ?_
    rcases sp_ite hm with ⟨hc1, hm⟩ | ⟨hc1, hm⟩
    · refine G.on rfl rfl (dec_t hc1) ?_
      refine G.yl (yl_move rfl) rfl rfl rfl ?_
      refine G.on rfl rfl (dec_t hc1) ?_
      refine G.yl (yl_le8 (b := 122) rfl rfl) rfl rfl rfl ?_
      refine G.yl (yl_pick_t rfl (dec_t hc1) rfl) rfl rfl rfl ?_
      refine G.yl (yl_assign rfl) rfl rfl rfl ?_
      refine G.nil ?_
      refine QA.then_normal ?_
      rcases sp_ite hm with ⟨hc2, hm⟩ | ⟨hc2, hm⟩
      · refine C.cond_t rfl (dec_t hc2) ?_
        refine C.exit ?_
        refine QA.then_exit ?_
        refine QA.then_exit ?_
        refine QA.block_here ?_
        refine QA.block_normal ?_
        refine QA.block_normal ?_
        refine QA.then_normal ?_
        refine C.seq ?_
        refine C.seq ?_
        refine C.region ?_
        refine G.yl (yl_assign rfl) rfl rfl rfl ?_
        refine G.nil ?_
        refine QA.then_normal ?_
        refine C.ret ?_
        refine QA.then_ret ?_
        refine QA.block_ret ?_
        refine QA.then_ret ?_
        refine QA.ret1 rfl rfl ?_
        obtain rfl := sp_ret1 hm
        exact ⟨rfl, (Sat.pick [] h)⟩
      · refine C.cond_f rfl (dec_f hc2) ?_
        refine C.skip ?_
        exact QA.join () (Sub.of ⟨rfl, rfl, trivial⟩) ⟨hm, (Sat.pick [] h)⟩
    · refine G.offU rfl rfl (dec_f hc1) rfl ?_
      refine G.offU rfl rfl (dec_f hc1) rfl ?_
      refine G.yl (yl_pick_f rfl (dec_f hc1) rfl) rfl rfl rfl ?_
      refine G.yl (yl_assign rfl) rfl rfl rfl ?_
      refine G.nil ?_
      refine QA.then_normal ?_
      refine C.cond_f rfl rfl ?_
      refine C.skip ?_
      exact QA.join () (Sub.of ⟨rfl, rfl, trivial⟩) ⟨hm, (Sat.pick [] h)⟩
  · rintro _ w3 ⟨hm, h4⟩
    show C _ _ _ [(0, (v8 c)), (2, (.bool false))] _ _
    unfold M_label_plain_k1 at hm
    refine C.join (γ := Unit) (fun g => match g with | () => [(0, (v8 c)), (2, (.bool false))]) (fun g ww => match g with | () => (M_label_plain_k2 c = some r1) ∧ Sat W ww []) ?_ ?_
    · refine C.seq ?_
      refine C.region ?_
      refine G.yl (yl_move rfl) rfl rfl rfl ?_
      refine G.yl (yl_ge8 (b := 65) rfl rfl) rfl rfl rfl ?_
      refine G.yl (yl_move rfl) rfl rfl rfl ?_
      rcases sp_ite hm with ⟨hc5, hm⟩ | ⟨hc5, hm⟩
      · refine G.on rfl rfl (dec_t hc5) ?_
        refine G.yl (yl_move rfl) rfl rfl rfl ?_
        refine G.on rfl rfl (dec_t hc5) ?_
        refine G.yl (yl_le8 (b := 90) rfl rfl) rfl rfl rfl ?_
        refine G.yl (yl_pick_t rfl (dec_t hc5) rfl) rfl rfl rfl ?_
        refine G.yl (yl_assign rfl) rfl rfl rfl ?_
        refine G.nil ?_
        refine QA.then_normal ?_
        rcases sp_ite hm with ⟨hc6, hm⟩ | ⟨hc6, hm⟩
        · refine C.cond_t rfl (dec_t hc6) ?_
          refine C.exit ?_
          refine QA.then_exit ?_
          refine QA.then_exit ?_
          refine QA.block_other rfl ?_
          refine QA.block_here ?_
          refine QA.block_normal ?_
          refine QA.then_normal ?_
          refine C.seq ?_
          refine C.seq ?_
          refine C.region ?_
          refine G.yl (yl_assign rfl) rfl rfl rfl ?_
          refine G.nil ?_
          refine QA.then_normal ?_
          refine C.ret ?_
          refine QA.then_ret ?_
          refine QA.block_ret ?_
          refine QA.then_ret ?_
          refine QA.ret1 rfl rfl ?_
          obtain rfl := sp_ret1 hm
          exact ⟨rfl, (Sat.pick [] h4)⟩
        · refine C.cond_f rfl (dec_f hc6) ?_
          refine C.skip ?_
          exact QA.join () (Sub.of ⟨rfl, rfl, trivial⟩) ⟨hm, (Sat.pick [] h4)⟩
      · refine G.offU rfl rfl (dec_f hc5) rfl ?_
        refine G.offU rfl rfl (dec_f hc5) rfl ?_
        refine G.yl (yl_pick_f rfl (dec_f hc5) rfl) rfl rfl rfl ?_
        refine G.yl (yl_assign rfl) rfl rfl rfl ?_
        refine G.nil ?_
        refine QA.then_normal ?_
        refine C.cond_f rfl rfl ?_
        refine C.skip ?_
        exact QA.join () (Sub.of ⟨rfl, rfl, trivial⟩) ⟨hm, (Sat.pick [] h4)⟩
    · rintro _ w7 ⟨hm, h8⟩
      show C _ _ _ [(0, (v8 c)), (2, (.bool false))] _ _
      unfold M_label_plain_k2 at hm
      refine C.seq ?_
      refine C.region ?_
      refine G.yl (yl_move rfl) rfl rfl rfl ?_
      refine G.yl (yl_ge8 (b := 48) rfl rfl) rfl rfl rfl ?_
      refine G.yl (yl_move rfl) rfl rfl rfl ?_
      rcases sp_ite hm with ⟨hc9, hm⟩ | ⟨hc9, hm⟩
      · refine G.on rfl rfl (dec_t hc9) ?_
        refine G.yl (yl_move rfl) rfl rfl rfl ?_
        refine G.on rfl rfl (dec_t hc9) ?_
        refine G.yl (yl_le8 (b := 57) rfl rfl) rfl rfl rfl ?_
        refine G.yl (yl_pick_t rfl (dec_t hc9) rfl) rfl rfl rfl ?_
        refine G.yl (yl_assign rfl) rfl rfl rfl ?_
        refine G.nil ?_
        refine QA.then_normal ?_
        rcases sp_ite hm with ⟨hc10, hm⟩ | ⟨hc10, hm⟩
        · refine C.cond_t rfl (dec_t hc10) ?_
          refine C.exit ?_
          refine QA.then_exit ?_
          refine QA.block_other rfl ?_
          refine QA.block_other rfl ?_
          refine QA.block_here ?_
          refine QA.then_normal ?_
          refine C.seq ?_
          refine C.seq ?_
          refine C.region ?_
          refine G.yl (yl_assign rfl) rfl rfl rfl ?_
          refine G.nil ?_
          refine QA.then_normal ?_
          refine C.ret ?_
          refine QA.then_ret ?_
          refine QA.block_ret ?_
          refine QA.then_ret ?_
          refine QA.ret1 rfl rfl ?_
          obtain rfl := sp_ret1 hm
          exact ⟨rfl, (Sat.pick [] h8)⟩
        · refine C.cond_f rfl (dec_f hc10) ?_
          refine C.skip ?_
          refine QA.then_normal ?_
          refine C.exit ?_
          refine QA.block_other rfl ?_
          refine QA.block_other rfl ?_
          refine QA.block_other rfl ?_
          refine QA.then_exit ?_
          refine QA.block_here ?_
          refine QA.then_normal ?_
          refine C.seq ?_
          refine C.region ?_
          refine G.yl (yl_move rfl) rfl rfl rfl ?_
          refine G.yl (yl_eq8 (b := 45) rfl rfl) rfl rfl rfl ?_
          refine G.yl (yl_move rfl) rfl rfl rfl ?_
          rcases sp_ite hm with ⟨hc11, hm⟩ | ⟨hc11, hm⟩
          · refine G.offU rfl rfl (dec_t hc11) rfl ?_
            refine G.offU rfl rfl (dec_t hc11) rfl ?_
            refine G.yl (yl_pick_t rfl (dec_t hc11) rfl) rfl rfl rfl ?_
            refine G.yl (yl_assign rfl) rfl rfl rfl ?_
            refine G.nil ?_
            refine QA.then_normal ?_
            refine C.ret ?_
            refine QA.ret1 rfl rfl ?_
            obtain rfl := sp_ret1 hm
            exact ⟨rfl, (Sat.pick [] h8)⟩
          · refine G.on rfl rfl (dec_f hc11) ?_
            refine G.yl (yl_move rfl) rfl rfl rfl ?_
            refine G.on rfl rfl (dec_f hc11) ?_
            refine G.yl (yl_eq8 (b := 95) rfl rfl) rfl rfl rfl ?_
            refine G.yl (yl_pick_f rfl (dec_f hc11) rfl) rfl rfl rfl ?_
            refine G.yl (yl_assign rfl) rfl rfl rfl ?_
            refine G.nil ?_
            refine QA.then_normal ?_
            refine C.ret ?_
            refine QA.ret1 rfl rfl ?_
            obtain rfl := sp_ret1 hm
            exact ⟨rfl, (Sat.pick [] h8)⟩
      · refine G.offU rfl rfl (dec_f hc9) rfl ?_
        refine G.offU rfl rfl (dec_f hc9) rfl ?_
        refine G.yl (yl_pick_f rfl (dec_f hc9) rfl) rfl rfl rfl ?_
        refine G.yl (yl_assign rfl) rfl rfl rfl ?_
        refine G.nil ?_
        refine QA.then_normal ?_
        refine C.cond_f rfl rfl ?_
        refine C.skip ?_
        refine QA.then_normal ?_
        refine C.exit ?_
        refine QA.block_other rfl ?_
        refine QA.block_other rfl ?_
        refine QA.block_other rfl ?_
        refine QA.then_exit ?_
        refine QA.block_here ?_
        refine QA.then_normal ?_
        refine C.seq ?_
        refine C.region ?_
        refine G.yl (yl_move rfl) rfl rfl rfl ?_
        refine G.yl (yl_eq8 (b := 45) rfl rfl) rfl rfl rfl ?_
        refine G.yl (yl_move rfl) rfl rfl rfl ?_
        rcases sp_ite hm with ⟨hc12, hm⟩ | ⟨hc12, hm⟩
        · refine G.offU rfl rfl (dec_t hc12) rfl ?_
          refine G.offU rfl rfl (dec_t hc12) rfl ?_
          refine G.yl (yl_pick_t rfl (dec_t hc12) rfl) rfl rfl rfl ?_
          refine G.yl (yl_assign rfl) rfl rfl rfl ?_
          refine G.nil ?_
          refine QA.then_normal ?_
          refine C.ret ?_
          refine QA.ret1 rfl rfl ?_
          obtain rfl := sp_ret1 hm
          exact ⟨rfl, (Sat.pick [] h8)⟩
        · refine G.on rfl rfl (dec_f hc12) ?_
          refine G.yl (yl_move rfl) rfl rfl rfl ?_
          refine G.on rfl rfl (dec_f hc12) ?_
          refine G.yl (yl_eq8 (b := 95) rfl rfl) rfl rfl rfl ?_
          refine G.yl (yl_pick_f rfl (dec_f hc12) rfl) rfl rfl rfl ?_
          refine G.yl (yl_assign rfl) rfl rfl rfl ?_
          refine G.nil ?_
          refine QA.then_normal ?_
          refine C.ret ?_
          refine QA.ret1 rfl rfl ?_
          obtain rfl := sp_ret1 hm
          exact ⟨rfl, (Sat.pick [] h8)⟩
set_option maxRecDepth 20000 in
theorem M_label_Part_w {W : Base} {w : World} {s : List UInt8}  (h : Sat W w []) {r1 : Bool} (hm : M_label_Part s = some r1) :
    Calls Try.prog 82 #[(.string (str s))] w (Ret fun v w' => v = (.bool r1) ∧ Sat W w' []) := by
  unfold M_label_Part at hm
  refine C.enter (N := 37) Try.func82 rfl Try.ntmps82 rfl ?_
  show C _ _ _ [(0, (.string (str s)))] _ _
  refine C.seq ?_
  refine C.region ?_
  refine G.yl (yl_assign rfl) rfl rfl rfl ?_
  refine G.nil ?_
  refine QA.then_normal ?_
  refine C.seq ?_
  refine C.join (γ := Bool) (fun g => match g with | t25 => [(0, (.string (str s))), (2, (.bool false)), (25, (.bool t25))]) (fun g ww => match g with | t25 => (M_label_Part_k1 s t25 = some r1) ∧ Sat W ww []) ?_ ?_
  · refine C.region ?_
    refine G.yl (yl_move rfl) rfl rfl rfl ?_
    refine G.yl (yl_slenE Try.underlying9 rfl) rfl rfl rfl ?_
    refine G.yl (yl_ltI rfl rfl) rfl rfl rfl ?_
    refine G.yl (yl_move rfl) rfl rfl rfl ?_
    rcases sp_ite hm with ⟨hc1, hm⟩ | ⟨hc1, hm⟩
    · refine G.offU rfl rfl (dec_t hc1) rfl ?_
      refine G.offU rfl rfl (dec_t hc1) rfl ?_
      refine G.offU rfl rfl (dec_t hc1) rfl ?_
      refine G.yl (yl_pick_t rfl (dec_t hc1) rfl) rfl rfl rfl ?_
      refine G.yl (yl_move rfl) rfl rfl rfl ?_
      refine G.offU rfl rfl rfl rfl ?_
      refine G.offU rfl rfl rfl rfl ?_
      refine G.offU rfl rfl rfl rfl ?_
      refine G.yl (yl_pick_t rfl rfl rfl) rfl rfl rfl ?_
      refine G.yl (yl_move rfl) rfl rfl rfl ?_
      refine G.offU rfl rfl rfl rfl ?_
      refine G.offU rfl rfl rfl rfl ?_
      refine G.offU rfl rfl rfl rfl ?_
      refine G.offU rfl rfl rfl rfl ?_
      refine G.offU rfl rfl rfl rfl ?_
      refine G.offU rfl rfl rfl rfl ?_
      refine G.yl (yl_pick_t rfl rfl rfl) rfl rfl rfl ?_
      refine G.nil ?_
      exact QA.join true (Sub.of ⟨rfl, rfl, rfl, trivial⟩) ⟨hm, (Sat.pick [] h)⟩
    · refine G.on rfl rfl (dec_f hc1) ?_
      refine G.yl (yl_move rfl) rfl rfl rfl ?_
      refine G.on rfl rfl (dec_f hc1) ?_
      refine G.yl (yl_slenE Try.underlying9 rfl) rfl rfl rfl ?_
      refine G.on rfl rfl (dec_f hc1) ?_
      refine G.yl (yl_gtI rfl rfl) rfl rfl rfl ?_
      refine G.yl (yl_pick_f rfl (dec_f hc1) rfl) rfl rfl rfl ?_
      refine G.yl (yl_move rfl) rfl rfl rfl ?_
      rcases sp_ite hm with ⟨hc2, hm⟩ | ⟨hc2, hm⟩
      · refine G.offU rfl rfl (dec_t hc2) rfl ?_
        refine G.offU rfl rfl (dec_t hc2) rfl ?_
        refine G.offU rfl rfl (dec_t hc2) rfl ?_
        refine G.yl (yl_pick_t rfl (dec_t hc2) rfl) rfl rfl rfl ?_
        refine G.yl (yl_move rfl) rfl rfl rfl ?_
        refine G.offU rfl rfl rfl rfl ?_
        refine G.offU rfl rfl rfl rfl ?_
        refine G.offU rfl rfl rfl rfl ?_
        refine G.offU rfl rfl rfl rfl ?_
        refine G.offU rfl rfl rfl rfl ?_
        refine G.offU rfl rfl rfl rfl ?_
        refine G.yl (yl_pick_t rfl rfl rfl) rfl rfl rfl ?_
        refine G.nil ?_
        exact QA.join true (Sub.of ⟨rfl, rfl, rfl, trivial⟩) ⟨hm, (Sat.pick [] h)⟩
      · refine G.on rfl rfl (dec_f hc2) ?_
        refine G.yl (yl_move rfl) rfl rfl rfl ?_
        refine G.on rfl rfl (dec_f hc2) ?_
        obtain ⟨c, hy3, hm⟩ := sp_bind hm
        refine G.yl (yl_ixS Try.underlying9 rfl rfl hy3) rfl rfl rfl ?_
        refine G.on rfl rfl (dec_f hc2) ?_
        refine G.yl (yl_eq8 (b := 45) rfl rfl) rfl rfl rfl ?_
        refine G.yl (yl_pick_f rfl (dec_f hc2) rfl) rfl rfl rfl ?_
        refine G.yl (yl_move rfl) rfl rfl rfl ?_
        rcases sp_ite hm with ⟨hc4, hm⟩ | ⟨hc4, hm⟩
        · refine G.offU rfl rfl (dec_t hc4) rfl ?_
          refine G.offU rfl rfl (dec_t hc4) rfl ?_
          refine G.offU rfl rfl (dec_t hc4) rfl ?_
          refine G.offU rfl rfl (dec_t hc4) rfl ?_
          refine G.offU rfl rfl (dec_t hc4) rfl ?_
          refine G.offU rfl rfl (dec_t hc4) rfl ?_
          refine G.yl (yl_pick_t rfl (dec_t hc4) rfl) rfl rfl rfl ?_
          refine G.nil ?_
          exact QA.join true (Sub.of ⟨rfl, rfl, rfl, trivial⟩) ⟨hm, (Sat.pick [] h)⟩
        · refine G.on rfl rfl (dec_f hc4) ?_
          refine G.yl (yl_move rfl) rfl rfl rfl ?_
          refine G.on rfl rfl (dec_f hc4) ?_
          refine G.yl (yl_move rfl) rfl rfl rfl ?_
          refine G.on rfl rfl (dec_f hc4) ?_
          refine G.yl (yl_slenE Try.underlying9 rfl) rfl rfl rfl ?_
          refine G.on rfl rfl (dec_f hc4) ?_
          obtain ⟨hc5, hm⟩ := sp_chk hm
          refine G.yl (yl_subI rfl rfl hc5) rfl rfl rfl ?_
          refine G.on rfl rfl (dec_f hc4) ?_
          obtain ⟨c_2, hy6, hm⟩ := sp_bind hm
          refine G.yl (yl_ixS Try.underlying9 rfl rfl hy6) rfl rfl rfl ?_
          refine G.on rfl rfl (dec_f hc4) ?_
          refine G.yl (yl_eq8 (b := 45) rfl rfl) rfl rfl rfl ?_
          refine G.yl (yl_pick_f rfl (dec_f hc4) rfl) rfl rfl rfl ?_
          refine G.nil ?_
          exact QA.join (decide (c_2 = 45)) (Sub.of ⟨rfl, rfl, rfl, trivial⟩) ⟨hm, (Sat.pick [] h)⟩
  · rintro t25 w7 ⟨hm, h8⟩
    show C _ _ _ [(0, (.string (str s))), (2, (.bool false)), (25, (.bool t25))] _ _
    unfold M_label_Part_k1 at hm
    rcases sp_b hm with ⟨hc9, hm⟩ | ⟨hc9, hm⟩
    · refine C.cond_t rfl hc9 ?_
      refine C.seq ?_
      refine C.region ?_
      refine G.yl (yl_assign rfl) rfl rfl rfl ?_
      refine G.nil ?_
      refine QA.then_normal ?_
      refine C.ret ?_
      refine QA.then_ret ?_
      refine QA.ret1 rfl rfl ?_
      obtain rfl := sp_ret1 hm
      exact ⟨rfl, (Sat.pick [] h8)⟩
    · refine C.cond_f rfl hc9 ?_
      refine C.skip ?_
      refine QA.then_normal ?_
      refine C.seq ?_
      refine C.seq ?_
      refine C.region ?_
      refine G.yl (yl_move rfl) rfl rfl rfl ?_
      obtain ⟨hc10, hm⟩ := sp_chk hm
      refine G.does (does_bytes h8 Try.underlying9 Try.underlying22 Try.underlying5 el5 rfl hc10) rfl rfl rfl ?_
      rintro _ w13 ⟨a11, c12, rfl, h14⟩
      refine G.yl (yl_lenE Try.underlying22 rfl) rfl rfl rfl ?_
      refine G.yl (yl_move rfl) rfl rfl rfl ?_
      refine G.nil ?_
      refine QA.then_normal ?_
      refine C.block ?_
      obtain ⟨o, ho15, hm16⟩ := sp_bind hm
      refine C.left (γ := Unit) (.exit 0) (fun g => match g with | () => [(2, (.bool false))]) (fun g ww => match g with | () => .inl () = o ∧ Sat W ww []) ?_ ?_
      · refine C.loopO (γ := Int) (fun g => match g with | t29 => [(2, (.bool false)), (27, (.slice a11 s.length c12)), (28, (vI (s.length : Int))), (29, (vI t29))]) (fun g ww => match g with | t29 => Sat W ww [ow elU8 a11 c12 5 s]) (fun g => match g with | t29 => t29) 0 ho15 (Sub.of ⟨rfl, rfl, rfl, rfl, trivial⟩) (Sat.pick [0] h14) ?_
        rintro t29 k19 w17 y_ h18 hm hg20
        show C _ _ _ [(2, (.bool false)), (27, (.slice a11 s.length c12)), (28, (vI (s.length : Int))), (29, (vI t29))] _ _
        change M_label_Part_b2 s t29 = some y_ at hm
        unfold M_label_Part_b2 at hm
        refine C.seq ?_
        refine C.region ?_
        refine G.yl (yl_ltI rfl rfl) rfl rfl rfl ?_
        refine G.nil ?_
        refine QA.then_normal ?_
        refine C.seq ?_
        rcases sp_ite hm with ⟨hc21, hm⟩ | ⟨hc21, hm⟩
        · refine C.cond_t rfl (dec_t hc21) ?_
          refine C.skip ?_
          refine QA.then_normal ?_
          refine C.seq ?_
          refine C.block ?_
          refine C.seq ?_
          refine C.region ?_
          obtain ⟨x, hy22, hm⟩ := sp_bind hm
          refine G.yl (yl_ixP (l := s) sl22 rfl rfl (View.isA (E := elU8) (Sat.own_view h18) (by decide) (at?_lt hy22)) rfl (at?_lt hy22)) rfl rfl rfl ?_
          refine G.yl (yl_ld1 (E := elU8) (v := (v8 x)) ag5 rfl (Sat.own_view h18) (at?_some hy22).2 rfl) rfl rfl rfl ?_
          refine G.yl (yl_assign rfl) rfl rfl rfl ?_
          refine G.nil ?_
          refine QA.then_normal ?_
          refine C.seq ?_
          refine C.region ?_
          refine G.yl (yl_move rfl) rfl rfl rfl ?_
          obtain ⟨r1_2, hy23, hm⟩ := sp_bind hm
          refine G.does (does_fn 0 rfl rfl rfl en113 h18 (fun U hU hp hr hs => M_label_plain_w hp hy23)) rfl rfl rfl ?_
          rintro _ w24 ⟨U27, hb28, rfl, h26⟩
          have h25 : Sat W w24 [ow elU8 a11 c12 5 s] := hb28 h26
          refine G.yl (yl_not rfl) rfl rfl rfl ?_
          refine G.nil ?_
          refine QA.then_normal ?_
          rcases sp_b hm with ⟨hc29, hm⟩ | ⟨hc29, hm⟩
          · refine C.cond_f rfl (not_f hc29) ?_
            refine C.skip ?_
            refine QA.block_normal ?_
            refine QA.then_normal ?_
            refine C.region ?_
            obtain ⟨hc30, hm⟩ := sp_chk hm
            refine G.yl (yl_addI rfl rfl hc30) rfl rfl rfl ?_
            refine G.yl (yl_move rfl) rfl rfl rfl ?_
            refine G.nil ?_
            obtain rfl := sp_ret1 hm
            exact QA.againO (t29 + 1) hg20 (Sub.of ⟨rfl, rfl, rfl, rfl, trivial⟩) (Sat.pick [0] h25)
          · refine C.cond_t rfl (not_t hc29) ?_
            refine C.seq ?_
            refine C.region ?_
            refine G.yl (yl_assign rfl) rfl rfl rfl ?_
            refine G.nil ?_
            refine QA.then_normal ?_
            refine C.ret ?_
            refine QA.block_ret ?_
            refine QA.then_ret ?_
            refine QA.then_ret ?_
            refine QA.past (by simp) ?_
            refine QA.block_ret ?_
            refine QA.then_ret ?_
            refine QA.ret1 rfl rfl ?_
            obtain rfl := sp_ret1 hm
            obtain rfl : .inr false = o := hg20
            have hm : some false = some r1 := hm16
            obtain rfl := sp_ret1 hm
            exact ⟨rfl, (Sat.pick [] h25)⟩
        · refine C.cond_f rfl (dec_f hc21) ?_
          refine C.exit ?_
          refine QA.then_exit ?_
          refine QA.then_exit ?_
          obtain rfl := sp_ret1 hm
          exact QA.left () (Sub.of ⟨rfl, trivial⟩) ⟨hg20, (Sat.pick [] h18)⟩
      · rintro _ w31 ⟨rfl, h32⟩
        have hm := hm16
        show QA _ _ [(2, (.bool false))] _ _
        refine QA.block_here ?_
        refine QA.then_normal ?_
        refine C.seq ?_
        refine C.region ?_
        refine G.yl (yl_assign rfl) rfl rfl rfl ?_
        refine G.nil ?_
        refine QA.then_normal ?_
        refine C.ret ?_
        refine QA.ret1 rfl rfl ?_
        obtain rfl := sp_ret1 hm
        exact ⟨rfl, (Sat.pick [] h32)⟩
set_option maxRecDepth 20000 in
theorem M_label_Good_w {W : Base} {w : World} {s : List UInt8}  (h : Sat W w []) {r1 : Bool} (hm : M_label_Good s = some r1) :
    Calls Try.prog 48 #[(.string (str s))] w (Ret fun v w' => v = (.bool r1) ∧ Sat W w' []) := by
  unfold M_label_Good at hm
  refine C.enterM (N := 13) Try.func48 rfl Try.ntmps48 rfl ?_
  show C _ _ _ [(0, (.string (str s)))] _ _
  refine C.seq ?_
  refine C.region ?_
  refine G.does (does_alloc (cs := [(.bool false)]) h z4 rfl) rfl rfl rfl ?_
  rintro _ w2 ⟨b1, rfl, h3⟩
  refine G.nil ?_
  refine QA.then_normal ?_
  refine C.seq ?_
  refine C.seq ?_
  refine C.region ?_
  refine G.yl (yl_move rfl) rfl rfl rfl ?_
  refine G.yl (yl_slenE Try.underlying9 rfl) rfl rfl rfl ?_
  refine G.yl (yl_gtI rfl rfl) rfl rfl rfl ?_
  refine G.nil ?_
  refine QA.then_normal ?_
  rcases sp_ite hm with ⟨hc4, hm⟩ | ⟨hc4, hm⟩
  · refine C.cond_t rfl (dec_t hc4) ?_
    refine C.seq ?_
    refine C.region ?_
    refine G.unit (does_store (vs := [(.bool false)]) h3 sz4 rfl rfl rfl rfl (List.forall_mem_cons.2 ⟨rfl, (fun _ hh => by cases hh)⟩) (Nat.le_of_ble_eq_true rfl)) rfl rfl ?_
    rintro _ w5 h7
    have h6 : Sat W w5 [blk b1 [(.bool false)] 4] := h7
    refine G.nil ?_
    refine QA.then_normal ?_
    refine C.ret ?_
    refine QA.then_ret ?_
    refine QA.out (.inl rfl) ?_
    refine QA.ret_c rfl (InCell.one (v := (.bool false)) rfl ag4 (View.at0 (j := 0) h6.isBlk.view0 rfl)) ?_
    obtain rfl := sp_ret1 hm
    exact ⟨rfl, (Sat.pick [] h6)⟩
  · refine C.cond_f rfl (dec_f hc4) ?_
    refine C.skip ?_
    refine QA.then_normal ?_
    refine C.seq ?_
    refine C.seq ?_
    refine C.region ?_
    refine G.yl (yl_move rfl) rfl rfl rfl ?_
    obtain ⟨_, hy8, hm⟩ := sp_bind hm
    refine G.does (does_fn 0 rfl rfl rfl en81 h3 (fun U hU hp hr hs => M_label_parts_w hp hy8)) rfl rfl rfl ?_
    rintro _ w10 ⟨U13, hb14, r19, rfl, h12⟩
    have h11 : Sat W w10 [blk r19 [(.string (str s))] 9, blk b1 [(.bool false)] 4] := hb14 h12
    refine G.nil ?_
    refine QA.then_normal ?_
    refine C.block ?_
    obtain ⟨o, ho15, hm16⟩ := sp_bind hm
    refine C.rangeFunc (γ := Unit) (δ := Unit) (σ := Unit) (ρ := Unit) (M := @fun σ_ ρ_ f_ z_ => M_label_parts_1_p f_ s z_) (f := (fun (_ : Unit) x => M_label_Good_r1 x)) (enc := (fun (x : List UInt8) => [(.string (str x))])) (K := [blk r19 [(.string (str s))] 9]) (l := []) (fun g => match g with | () => [blk b1 [(.bool false)] 4]) (fun g => match g with | () => True) (fun g => match g with | () => ()) (fun d => match d with | () => [blk b1 [(.bool false)] 4]) (fun d => match d with | () => True) (fun d => match d with | () => ()) (fun d => match d with | () => .ret) (fun x => [(2, (.pointer (some ⟨b1, 0, none⟩))), (9, (.string (str x))), (3, (.string (str x)))]) () ho15 trivial rfl en111 (Sat.pick [0, 0] h11) (fun V w1 hs hc => M_label_parts_1_p_it (x := s)) (fun _ => rfl) rfl ?_ ?_ ?_ ?_
    · intro rd_ x u_
      refine C.sub (A := [(2, (.pointer (some ⟨b1, 0, none⟩))), (9, (.string (str x)))]) (Sub.of ⟨rfl, rfl, trivial⟩) ?_
      refine C.region ?_
      refine G.yl (yl_assign rfl) rfl rfl rfl ?_
      refine G.nil ?_
      exact fun a_ ha_ => ⟨rfl, ha_.sub (Sub.of ⟨rfl, rfl, rfl, trivial⟩), rfl⟩
    · intro W w1_ hs_
      rintro rd_ _ x y_ u_ R_ _ h_ hm
      replace h_ : Sat W u_ [blk b1 [(.bool false)] 4, R_] := h_
      change M_label_Good_r1 x = some y_ at hm
      unfold M_label_Good_r1 at hm
      refine C.block ?_
      refine C.seq ?_
      refine C.region ?_
      refine G.yl (yl_move rfl) rfl rfl rfl ?_
      obtain ⟨r1_2, hy17, hm⟩ := sp_bind hm
      refine G.does (does_fn 0 rfl rfl rfl en82 h_ (fun U hU hp hr hs => M_label_Part_w hp hy17)) rfl rfl rfl ?_
      rintro _ w18 ⟨U21, hb22, rfl, h20⟩
      have h19 : Sat W w18 [blk b1 [(.bool false)] 4, R_] := hb22 h20
      refine G.yl (yl_not rfl) rfl rfl rfl ?_
      refine G.nil ?_
      refine QA.then_normal ?_
      rcases sp_b hm with ⟨hc23, hm⟩ | ⟨hc23, hm⟩
      · refine C.cond_f rfl (not_f hc23) ?_
        refine C.skip ?_
        refine QA.block_normal ?_
        obtain rfl := sp_ret1 hm
        exact fun _ _ => .inl ⟨rfl, (), rfl, trivial, (Sat.pick [0, 0] h19)⟩
      · refine C.cond_t rfl (not_t hc23) ?_
        refine C.seq ?_
        refine C.region ?_
        refine G.unit (does_store (vs := [(.bool false)]) h19 sz4 rfl rfl rfl rfl (List.forall_mem_cons.2 ⟨rfl, (fun _ hh => by cases hh)⟩) (Nat.le_of_ble_eq_true rfl)) rfl rfl ?_
        rintro _ w24 h26
        have h25 : Sat W w24 [blk b1 [(.bool false)] 4, R_] := h26
        refine G.nil ?_
        refine QA.then_normal ?_
        refine C.ret ?_
        refine QA.block_ret ?_
        obtain rfl := sp_ret1 hm
        exact fun _ _ => .inr ⟨(), rfl, trivial, rfl, rfl, (Sat.pick [0, 0] h25)⟩
    · rintro D _ w27 ho29 _ h28
      subst ho29
      have hm := hm16
      replace h28 : Sat W w27 [obj D (.deferred (some [])), blk b1 [(.bool false)] 4] := h28
      refine QA.block_normal ?_
      refine QA.then_normal ?_
      refine C.seq ?_
      refine C.region ?_
      refine G.unit (does_store (vs := [(.bool true)]) (Sat.pick [1, 0] h28) sz4 rfl rfl rfl rfl (List.forall_mem_cons.2 ⟨rfl, (fun _ hh => by cases hh)⟩) (Nat.le_of_ble_eq_true rfl)) rfl rfl ?_
      rintro _ w30 h32
      have h31 : Sat W w30 [blk b1 [(.bool true)] 4, obj D (.deferred (some []))] := h32
      refine G.nil ?_
      refine QA.then_normal ?_
      refine C.ret ?_
      refine QA.outM (.inl rfl) (Sat.obj_at (Sat.pick [1, 0] h31)) ?_
      have h33 := (Sat.obj_put (Sat.pick [1, 0] h31) (.deferred none)).tail
      replace h33 : Sat W (World.putObj w30 D (.deferred none)) [blk b1 [(.bool true)] 4] := h33
      refine QA.out (.inl rfl) ?_
      refine QA.ret_c rfl (InCell.one (v := (.bool true)) rfl ag4 (View.at0 (j := 0) h33.isBlk.view0 rfl)) ?_
      obtain rfl := sp_ret1 hm
      exact ⟨rfl, (Sat.pick [] h33)⟩
    · intro D d_ w2_ hod_ hfx_ hd_
      subst hod_
      have hm := hm16
      replace hd_ : Sat W w2_ [obj D (.deferred (some [])), blk b1 [(.bool false)] 4] := hd_
      show QA _ .ret _ _ _
      refine QA.block_ret ?_
      refine QA.then_ret ?_
      refine QA.outM (.inl rfl) (Sat.obj_at (Sat.pick [0, 0] hd_)) ?_
      have h37 := (Sat.obj_put (Sat.pick [0, 0] hd_) (.deferred none)).tail
      replace h37 : Sat W (World.putObj w2_ D (.deferred none)) [blk b1 [(.bool false)] 4] := h37
      refine QA.out (.inl rfl) ?_
      refine QA.ret_c rfl (InCell.one (v := (.bool false)) rfl ag4 (View.at0 (j := 0) h37.isBlk.view0 rfl)) ?_
      obtain rfl := sp_ret1 hm
      exact ⟨rfl, (Sat.pick [] h37)⟩
set_option maxRecDepth 20000 in
theorem M_label_Wire_1_pn_w {W : Base} {w : World} {p : List UInt8} {b : Nat}  (h : Sat W w [blk b [(.slice none 0 0)] 22])  (hm : M_label_Wire_1_pn p = some ()) :
    Calls Try.prog 85 #[(.string (str p)), (.pointer (some ⟨b, 0, none⟩))] w (Ret fun v w' => ∃ r1 : Option Addr, ∃ r2 : Nat, v = (.tuple #[]) ∧ Sat W w' [blk b [(.slice r1 (((([] : List UInt8) ++ [UInt8.ofInt (p.length : Int)]) ++ p).length) r2)] 22, ow elU8 r1 r2 5 ((([] : List UInt8) ++ [UInt8.ofInt (p.length : Int)]) ++ p)]) := by
  unfold M_label_Wire_1_pn at hm
  refine C.enter (N := 11) Try.func85 rfl Try.ntmps85 rfl ?_
  show C _ _ _ [(0, (.string (str p))), (1, (.pointer (some ⟨b, 0, none⟩)))] _ _
  refine C.region ?_
  refine G.yl (yl_load (v := (.slice none 0 0)) ag22 rfl (View.at0 (j := 0) h.isBlk.view0 rfl)) rfl rfl rfl ?_
  refine G.yl (yl_move rfl) rfl rfl rfl ?_
  refine G.yl (yl_slenE Try.underlying9 rfl) rfl rfl rfl ?_
  refine G.yl (yl_I8 us3 Try.underlying5 rfl) rfl rfl rfl ?_
  refine G.does (does_lit (E := elU8) (l := [UInt8.ofInt (p.length : Int)]) (vs := [(v8 (UInt8.ofInt (p.length : Int)))]) (cs := [(v8 (UInt8.ofInt (p.length : Int)))]) (e := 5) h rfl (by kernel_rfl) rfl rfl (by decide)) rfl rfl rfl ?_
  rintro _ w2 ⟨a1, rfl, h3⟩
  obtain ⟨hc4, hm⟩ := sp_chk hm
  refine G.does (does_app (E := elU8) (l := ([] : List UInt8)) (l2 := [UInt8.ofInt (p.length : Int)]) Try.underlying22 el5 (Sat.own_zero h3 elU8 none 5) rfl rfl rfl rfl (by decide) (Sat.own_view h3) hc4 (by decide)) rfl rfl rfl ?_
  rintro _ w7 ⟨a5, c6, rfl, h8⟩
  refine G.yl (yl_move rfl) rfl rfl rfl ?_
  obtain ⟨hc9, hm⟩ := sp_chk hm
  refine G.does (does_appS (l := ([] : List UInt8) ++ [UInt8.ofInt (p.length : Int)]) (s := p) Try.underlying22 el5 h8 rfl rfl rfl hc9 Try.underlying9 (by decide)) rfl rfl rfl ?_
  rintro _ w12 ⟨a10, c11, rfl, h13⟩
  refine G.unit (does_store (vs := [(.slice a10 (((([] : List UInt8) ++ [UInt8.ofInt (p.length : Int)]) ++ p).length) c11)]) (Sat.pick [2, 0, 0] h13) sz22 rfl rfl rfl rfl (List.forall_mem_cons.2 ⟨rfl, (fun _ hh => by cases hh)⟩) (Nat.le_of_ble_eq_true rfl)) rfl rfl ?_
  rintro _ w14 h16
  have h15 : Sat W w14 [blk b [(.slice a10 (((([] : List UInt8) ++ [UInt8.ofInt (p.length : Int)]) ++ p).length) c11)] 22, ow elU8 a10 c11 5 ((([] : List UInt8) ++ [UInt8.ofInt (p.length : Int)]) ++ p), ow elU8 a1 1 5 [UInt8.ofInt (p.length : Int)]] := h16
  refine G.nil ?_
  refine QA.end0 rfl ?_
  exact ⟨a10, c11, rfl, (Sat.pick [0, 0] h15)⟩
set_option maxRecDepth 20000 in
theorem M_label_Wire_1_po_w {W : Base} {w : World} {p : List UInt8} {b : Nat} {a : Option Addr} {c : Nat} {x : List UInt8}  (h : Sat W w [blk b [(.slice a x.length c)] 22, ow elU8 a c 5 x])  (hm : M_label_Wire_1_po p x = some ()) :
    Calls Try.prog 85 #[(.string (str p)), (.pointer (some ⟨b, 0, none⟩))] w (Ret fun v w' => ∃ r1 : Option Addr, ∃ r2 : Nat, v = (.tuple #[]) ∧ Sat W w' [blk b [(.slice r1 (((x ++ [UInt8.ofInt (p.length : Int)]) ++ p).length) r2)] 22, ow elU8 r1 r2 5 ((x ++ [UInt8.ofInt (p.length : Int)]) ++ p)]) := by
  unfold M_label_Wire_1_po at hm
  refine C.enter (N := 11) Try.func85 rfl Try.ntmps85 rfl ?_
  show C _ _ _ [(0, (.string (str p))), (1, (.pointer (some ⟨b, 0, none⟩)))] _ _
  refine C.region ?_
  refine G.yl (yl_load (v := (.slice a x.length c)) ag22 rfl (View.at0 (j := 0) h.isBlk.view0 rfl)) rfl rfl rfl ?_
  refine G.yl (yl_move rfl) rfl rfl rfl ?_
  refine G.yl (yl_slenE Try.underlying9 rfl) rfl rfl rfl ?_
  refine G.yl (yl_I8 us3 Try.underlying5 rfl) rfl rfl rfl ?_
  refine G.does (does_lit (E := elU8) (l := [UInt8.ofInt (p.length : Int)]) (vs := [(v8 (UInt8.ofInt (p.length : Int)))]) (cs := [(v8 (UInt8.ofInt (p.length : Int)))]) (e := 5) h rfl (by kernel_rfl) rfl rfl (by decide)) rfl rfl rfl ?_
  rintro _ w2 ⟨a1, rfl, h3⟩
  obtain ⟨hc4, hm⟩ := sp_chk hm
  refine G.does (does_app (E := elU8) (l := x) (l2 := [UInt8.ofInt (p.length : Int)]) Try.underlying22 el5 (Sat.pick [2, 0, 0] h3) rfl rfl rfl rfl (by decide) (Sat.own_view h3) hc4 (by decide)) rfl rfl rfl ?_
  rintro _ w7 ⟨a5, c6, rfl, h8⟩
  refine G.yl (yl_move rfl) rfl rfl rfl ?_
  obtain ⟨hc9, hm⟩ := sp_chk hm
  refine G.does (does_appS (l := x ++ [UInt8.ofInt (p.length : Int)]) (s := p) Try.underlying22 el5 h8 rfl rfl rfl hc9 Try.underlying9 (by decide)) rfl rfl rfl ?_
  rintro _ w12 ⟨a10, c11, rfl, h13⟩
  refine G.unit (does_store (vs := [(.slice a10 (((x ++ [UInt8.ofInt (p.length : Int)]) ++ p).length) c11)]) (Sat.pick [2, 0, 0] h13) sz22 rfl rfl rfl rfl (List.forall_mem_cons.2 ⟨rfl, (fun _ hh => by cases hh)⟩) (Nat.le_of_ble_eq_true rfl)) rfl rfl ?_
  rintro _ w14 h16
  have h15 : Sat W w14 [blk b [(.slice a10 (((x ++ [UInt8.ofInt (p.length : Int)]) ++ p).length) c11)] 22, ow elU8 a10 c11 5 ((x ++ [UInt8.ofInt (p.length : Int)]) ++ p), ow elU8 a1 1 5 [UInt8.ofInt (p.length : Int)]] := h16
  refine G.nil ?_
  refine QA.end0 rfl ?_
  exact ⟨a10, c11, rfl, (Sat.pick [0, 0] h15)⟩
set_option maxRecDepth 20000 in
theorem M_label_Wire_w {W : Base} {w : World} {s : List UInt8}  (h : Sat W w []) {r3 : List UInt8} {r4 : Int} (hm : M_label_Wire s = some (r3, r4)) :
    Calls Try.prog 51 #[(.string (str s))] w (Ret fun v w' => ∃ r1 : Option Addr, ∃ r2 : Nat, v = (.tuple #[(.slice r1 r3.length r2), (vI r4)]) ∧ Sat W w' [ow elU8 r1 r2 5 r3]) := by
  unfold M_label_Wire at hm
  refine C.enterM (N := 19) Try.func51 rfl Try.ntmps51 rfl ?_
  show C _ _ _ [(0, (.string (str s)))] _ _
  refine C.seq ?_
  refine C.region ?_
  refine G.does (does_alloc (cs := [(.slice none 0 0)]) h z22 rfl) rfl rfl rfl ?_
  rintro _ w2 ⟨b1, rfl, h3⟩
  refine G.yl (yl_assign rfl) rfl rfl rfl ?_
  refine G.nil ?_
  refine QA.then_normal ?_
  refine C.seq ?_
  refine C.seq ?_
  refine C.region ?_
  refine G.yl (yl_move rfl) rfl rfl rfl ?_
  obtain ⟨r1_2, hy4, hm⟩ := sp_bind hm
  refine G.does (does_fn 0 rfl rfl rfl en48 h3 (fun U hU hp hr hs => M_label_Good_w hp hy4)) rfl rfl rfl ?_
  rintro _ w5 ⟨U8, hb9, rfl, h7⟩
  have h6 : Sat W w5 [blk b1 [(.slice none 0 0)] 22] := hb9 h7
  refine G.yl (yl_not rfl) rfl rfl rfl ?_
  refine G.nil ?_
  refine QA.then_normal ?_
  rcases sp_b hm with ⟨hc10, hm⟩ | ⟨hc10, hm⟩
  · refine C.cond_f rfl (not_f hc10) ?_
    refine C.skip ?_
    refine QA.then_normal ?_
    refine C.seq ?_
    refine C.region ?_
    refine G.yl (yl_func rfl rfl) rfl rfl rfl ?_
    refine G.does (does_alloc (cs := [.nilFunc]) h6 z132 rfl) rfl rfl rfl ?_
    rintro _ w12 ⟨b11, rfl, h13⟩
    refine G.unit (does_store (vs := [(.func (.func 85) #[] #[(.pointer (some ⟨b1, 0, none⟩))])]) h13 sz132 rfl rfl rfl rfl (List.forall_mem_cons.2 ⟨rfl, (fun _ hh => by cases hh)⟩) (Nat.le_of_ble_eq_true rfl)) rfl rfl ?_
    rintro _ w14 h16
    have h15 : Sat W w14 [blk b11 [(.func (.func 85) #[] #[(.pointer (some ⟨b1, 0, none⟩))])] 132, blk b1 [(.slice none 0 0)] 22] := h16
    refine G.nil ?_
    refine QA.then_normal ?_
    refine C.seq ?_
    refine C.seq ?_
    refine C.region ?_
    refine G.yl (yl_move rfl) rfl rfl rfl ?_
    obtain ⟨_, hy17, hm⟩ := sp_bind hm
    refine G.does (does_fn 0 rfl rfl rfl en81 h15 (fun U hU hp hr hs => M_label_parts_w hp hy17)) rfl rfl rfl ?_
    rintro _ w19 ⟨U22, hb23, r118, rfl, h21⟩
    have h20 : Sat W w19 [blk r118 [(.string (str s))] 9, blk b11 [(.func (.func 85) #[] #[(.pointer (some ⟨b1, 0, none⟩))])] 132, blk b1 [(.slice none 0 0)] 22] := hb23 h21
    refine G.nil ?_
    refine QA.then_normal ?_
    refine C.block ?_
    obtain ⟨o, ho24, hm25⟩ := sp_bind hm
    refine C.rangeFunc (γ := Option Addr × Nat × List UInt8) (δ := Empty) (σ := List UInt8) (ρ := Empty) (M := @fun σ_ ρ_ f_ z_ => M_label_parts_1_p f_ s z_) (f := (fun (y_ : List UInt8) x => M_label_Wire_r1 y_ x)) (enc := (fun (x : List UInt8) => [(.string (str x))])) (K := [blk r118 [(.string (str s))] 9]) (l := []) (fun g => match g with | (a, c, out) => [blk b1 [(.slice a out.length c)] 22, ow elU8 a c 5 out, blk b11 [(.func (.func 85) #[] #[(.pointer (some ⟨b1, 0, none⟩))])] 132]) (fun g => match g with | (a, c, out) => True) (fun g => match g with | (a, c, out) => out) (fun d => nomatch d) (fun d => nomatch d) (fun d => nomatch d) (fun d => nomatch d) (fun x => [(2, (.pointer (some ⟨b1, 0, none⟩))), (3, (vI 0)), (4, (.pointer (some ⟨b11, 0, none⟩))), (12, (.string (str x))), (5, (.string (str x)))]) (none, 0, ([] : List UInt8)) ho24 trivial rfl en111 (Sat.pick [1, 2, 0, 0] (Sat.own_zero h20 elU8 none 5)) (fun V w1 hs hc => M_label_parts_1_p_it (x := s)) (fun _ => rfl) rfl ?_ ?_ ?_ ?_
    · intro rd_ x u_
      refine C.sub (A := [(2, (.pointer (some ⟨b1, 0, none⟩))), (3, (vI 0)), (4, (.pointer (some ⟨b11, 0, none⟩))), (12, (.string (str x)))]) (Sub.of ⟨rfl, rfl, rfl, rfl, trivial⟩) ?_
      refine C.region ?_
      refine G.yl (yl_assign rfl) rfl rfl rfl ?_
      refine G.nil ?_
      exact fun a_ ha_ => ⟨rfl, ha_.sub (Sub.of ⟨rfl, rfl, rfl, rfl, rfl, trivial⟩), rfl⟩
    · intro W w1_ hs_
      rintro rd_ ⟨a, c, out⟩ x y_ u_ R_ _ h_ hm
      replace h_ : Sat W u_ [blk b1 [(.slice a out.length c)] 22, ow elU8 a c 5 out, blk b11 [(.func (.func 85) #[] #[(.pointer (some ⟨b1, 0, none⟩))])] 132, R_] := h_
      change M_label_Wire_r1 out x = some y_ at hm
      unfold M_label_Wire_r1 at hm
      refine C.block ?_
      refine C.region ?_
      refine G.yl (yl_load (v := (.func (.func 85) #[] #[(.pointer (some ⟨b1, 0, none⟩))])) ag132 rfl (View.at0 (j := 0) (Sat.pick [2] h_).isBlk.view0 rfl)) rfl rfl rfl ?_
      refine G.yl (yl_move rfl) rfl rfl rfl ?_
      obtain ⟨_, hy26, hm⟩ := sp_bind hm
      refine G.does (does_fn 2 rfl rfl rfl en85 (Sat.pick [0, 0, 0, 0] h_) (fun U hU hp hr hs => M_label_Wire_1_po_w hp hy26)) rfl rfl rfl ?_
      rintro _ w29 ⟨U32, hb33, r127, r228, rfl, h31⟩
      have h30 : Sat W w29 [blk b1 [(.slice r127 (((out ++ [UInt8.ofInt (x.length : Int)]) ++ x).length) r228)] 22, ow elU8 r127 r228 5 ((out ++ [UInt8.ofInt (x.length : Int)]) ++ x), blk b11 [(.func (.func 85) #[] #[(.pointer (some ⟨b1, 0, none⟩))])] 132, R_] := hb33 h31
      refine G.nil ?_
      refine QA.block_normal ?_
      obtain rfl := sp_ret1 hm
      exact fun _ _ => .inl ⟨rfl, (r127, r228, (out ++ [UInt8.ofInt (x.length : Int)]) ++ x), rfl, trivial, (Sat.pick [0, 0, 0, 0] h30)⟩
    · rintro D ⟨a, c, out⟩ w34 ho36 _ h35
      subst ho36
      have hm := hm25
      replace h35 : Sat W w34 [obj D (.deferred (some [])), blk b1 [(.slice a out.length c)] 22, ow elU8 a c 5 out, blk b11 [(.func (.func 85) #[] #[(.pointer (some ⟨b1, 0, none⟩))])] 132] := h35
      refine QA.block_normal ?_
      refine QA.then_normal ?_
      refine C.seq ?_
      refine C.region ?_
      refine G.yl (yl_load (v := (.func (.func 85) #[] #[(.pointer (some ⟨b1, 0, none⟩))])) ag132 rfl (View.at0 (j := 0) (Sat.pick [3] h35).isBlk.view0 rfl)) rfl rfl rfl ?_
      obtain ⟨_, hy37, hm⟩ := sp_bind hm
      refine G.does (does_fn 2 rfl rfl rfl en85 (Sat.pick [1, 1, 0, 0] h35) (fun U hU hp hr hs => M_label_Wire_1_po_w hp hy37)) rfl rfl rfl ?_
      rintro _ w40 ⟨U43, hb44, r138, r239, rfl, h42⟩
      have h41 : Sat W w40 [blk b1 [(.slice r138 (((out ++ [UInt8.ofInt 0]) ++ ([] : List UInt8)).length) r239)] 22, ow elU8 r138 r239 5 ((out ++ [UInt8.ofInt 0]) ++ ([] : List UInt8)), obj D (.deferred (some [])), blk b11 [(.func (.func 85) #[] #[(.pointer (some ⟨b1, 0, none⟩))])] 132] := hb44 h42
      refine G.nil ?_
      refine QA.then_normal ?_
      refine C.seq ?_
      refine C.region ?_
      refine G.yl (yl_load (v := (.slice r138 (((out ++ [UInt8.ofInt 0]) ++ ([] : List UInt8)).length) r239)) ag22 rfl (View.at0 (j := 0) h41.isBlk.view0 rfl)) rfl rfl rfl ?_
      refine G.unit (does_store (vs := [(.slice r138 (((out ++ [UInt8.ofInt 0]) ++ ([] : List UInt8)).length) r239)]) h41 sz22 rfl rfl rfl rfl (List.forall_mem_cons.2 ⟨rfl, (fun _ hh => by cases hh)⟩) (Nat.le_of_ble_eq_true rfl)) rfl rfl ?_
      rintro _ w45 h47
      have h46 : Sat W w45 [blk b1 [(.slice r138 (((out ++ [UInt8.ofInt 0]) ++ ([] : List UInt8)).length) r239)] 22, ow elU8 r138 r239 5 ((out ++ [UInt8.ofInt 0]) ++ ([] : List UInt8)), obj D (.deferred (some [])), blk b11 [(.func (.func 85) #[] #[(.pointer (some ⟨b1, 0, none⟩))])] 132] := h47
      refine G.yl (yl_assign rfl) rfl rfl rfl ?_
      refine G.nil ?_
      refine QA.then_normal ?_
      refine C.ret ?_
      refine QA.outM (.inl rfl) (Sat.obj_at (Sat.pick [2, 0, 0, 0] h46)) ?_
      have h48 := (Sat.obj_put (Sat.pick [2, 0, 0, 0] h46) (.deferred none)).tail
      replace h48 : Sat W (World.putObj w45 D (.deferred none)) [blk b1 [(.slice r138 (((out ++ [UInt8.ofInt 0]) ++ ([] : List UInt8)).length) r239)] 22, ow elU8 r138 r239 5 ((out ++ [UInt8.ofInt 0]) ++ ([] : List UInt8)), blk b11 [(.func (.func 85) #[] #[(.pointer (some ⟨b1, 0, none⟩))])] 132] := h48
      refine QA.out (.inl rfl) ?_
      refine QA.ret_ct rfl (InCell.one (v := (.slice r138 (((out ++ [UInt8.ofInt 0]) ++ ([] : List UInt8)).length) r239)) rfl ag22 (View.at0 (j := 0) h48.isBlk.view0 rfl)) rfl ?_
      obtain ⟨rfl, rfl⟩ := sp_ret2 hm
      exact ⟨r138, r239, rfl, (Sat.pick [1] h48)⟩
    · intro D d_ w2_ hod_ hfx_ hd_
      exact nomatch d_
  · refine C.cond_t rfl (not_t hc10) ?_
    refine C.seq ?_
    refine C.region ?_
    refine G.unit (does_store (vs := [(.slice none 0 0)]) h6 sz22 rfl rfl rfl rfl (List.forall_mem_cons.2 ⟨rfl, (fun _ hh => by cases hh)⟩) (Nat.le_of_ble_eq_true rfl)) rfl rfl ?_
    rintro _ w49 h51
    have h50 : Sat W w49 [blk b1 [(.slice none 0 0)] 22] := h51
    refine G.yl (yl_assign rfl) rfl rfl rfl ?_
    refine G.nil ?_
    refine QA.then_normal ?_
    refine C.ret ?_
    refine QA.then_ret ?_
    refine QA.out (.inl rfl) ?_
    refine QA.ret_ct rfl (InCell.one (v := (.slice none 0 0)) rfl ag22 (View.at0 (j := 0) h50.isBlk.view0 rfl)) rfl ?_
    obtain ⟨rfl, rfl⟩ := sp_ret2 hm
    exact ⟨none, 0, rfl, (Sat.pick [0] (Sat.own_zero h50 elU8 none 5))⟩
set_option maxRecDepth 20000 in
theorem M_label_Fold_w {W : Base} {w : World} {s : List UInt8}  (h : Sat W w []) {r1 : List UInt8} (hm : M_label_Fold s = some r1) :
    Calls Try.prog 84 #[(.string (str s))] w (Ret fun v w' => v = (.string (str r1)) ∧ Sat W w' []) := by
  unfold M_label_Fold at hm
  refine C.enter (N := 29) Try.func84 rfl Try.ntmps84 rfl ?_
  show C _ _ _ [(0, (.string (str s)))] _ _
  refine C.seq ?_
  refine C.region ?_
  refine G.yl (yl_assign rfl) rfl rfl rfl ?_
  refine G.nil ?_
  refine QA.then_normal ?_
  refine C.seq ?_
  refine C.region ?_
  refine G.yl (yl_move rfl) rfl rfl rfl ?_
  obtain ⟨hc1, hm⟩ := sp_chk hm
  refine G.does (does_bytes h Try.underlying9 Try.underlying22 Try.underlying5 el5 rfl hc1) rfl rfl rfl ?_
  rintro _ w4 ⟨a2, c3, rfl, h5⟩
  refine G.yl (yl_assign rfl) rfl rfl rfl ?_
  refine G.nil ?_
  refine QA.then_normal ?_
  refine C.seq ?_
  refine C.seq ?_
  refine C.region ?_
  refine G.yl (yl_move rfl) rfl rfl rfl ?_
  refine G.yl (yl_lenE Try.underlying22 rfl) rfl rfl rfl ?_
  refine G.yl (yl_move rfl) rfl rfl rfl ?_
  refine G.nil ?_
  refine QA.then_normal ?_
  refine C.block ?_
  obtain ⟨o, ho8, hm9⟩ := sp_bind hm
  refine C.left (γ := List UInt8) (.exit 0) (fun g => match g with | b_2 => [(2, (.string (str ([] : List UInt8)))), (3, (.slice a2 s.length c3))]) (fun g ww => match g with | b_2 => b_2 = o ∧ (b_2.length = s.length) ∧ Sat W ww [ow elU8 a2 c3 5 b_2]) ?_ ?_
  · refine C.loopO (γ := List UInt8 × Int) (fun g => match g with | (b, t10) => [(2, (.string (str ([] : List UInt8)))), (3, (.slice a2 s.length c3)), (8, (.slice a2 s.length c3)), (9, (vI (s.length : Int))), (10, (vI t10))]) (fun g ww => match g with | (b, t10) => (b.length = s.length) ∧ Sat W ww [ow elU8 a2 c3 5 b]) (fun g => match g with | (b, t10) => (b, t10)) (s, 0) ho8 (Sub.of ⟨rfl, rfl, rfl, rfl, rfl, trivial⟩) ⟨(by simp [copyL_length]), (Sat.pick [0] h5)⟩ ?_
    rintro ⟨b, t10⟩ k12 w10 y_ ⟨hl6, h11⟩ hm hg13
    show C _ _ _ [(2, (.string (str ([] : List UInt8)))), (3, (.slice a2 s.length c3)), (8, (.slice a2 s.length c3)), (9, (vI (s.length : Int))), (10, (vI t10))] _ _
    change M_label_Fold_b1 s b t10 = some y_ at hm
    unfold M_label_Fold_b1 at hm
    refine C.seq ?_
    refine C.region ?_
    refine G.yl (yl_ltI rfl rfl) rfl rfl rfl ?_
    refine G.nil ?_
    refine QA.then_normal ?_
    refine C.seq ?_
    rcases sp_ite hm with ⟨hc14, hm⟩ | ⟨hc14, hm⟩
    · refine C.cond_t rfl (dec_t hc14) ?_
      refine C.skip ?_
      refine QA.then_normal ?_
      refine C.seq ?_
      refine C.block ?_
      refine C.seq ?_
      refine C.region ?_
      refine G.yl (yl_move rfl) rfl rfl rfl ?_
      obtain ⟨x, hy15, hm⟩ := sp_bind hm
      refine G.yl (yl_ixP (l := b) sl22 rfl rfl (View.isA (E := elU8) (Sat.own_view h11) (by decide) (at?_lt hy15)) (by simp [copyL_length, hl6]) (at?_lt hy15)) rfl rfl rfl ?_
      refine G.yl (yl_ld1 (E := elU8) (v := (v8 x)) ag5 rfl (Sat.own_view h11) (at?_some hy15).2 rfl) rfl rfl rfl ?_
      refine G.yl (yl_assign rfl) rfl rfl rfl ?_
      refine G.yl (yl_assign rfl) rfl rfl rfl ?_
      refine G.nil ?_
      refine QA.then_normal ?_
      refine C.join (γ := Bool) (fun g => match g with | t20 => [(2, (.string (str ([] : List UInt8)))), (3, (.slice a2 s.length c3)), (4, (vI t10)), (5, (v8 x)), (8, (.slice a2 s.length c3)), (9, (vI (s.length : Int))), (10, (vI t10)), (20, (.bool t20))]) (fun g ww => match g with | t20 => (M_label_Fold_k2 b t10 x t20 = some y_) ∧ Sat W ww [ow elU8 a2 c3 5 b]) ?_ ?_
      · refine C.region ?_
        refine G.yl (yl_move rfl) rfl rfl rfl ?_
        refine G.yl (yl_ge8 (b := 65) rfl rfl) rfl rfl rfl ?_
        refine G.yl (yl_move rfl) rfl rfl rfl ?_
        rcases sp_ite hm with ⟨hc16, hm⟩ | ⟨hc16, hm⟩
        · refine G.on rfl rfl (dec_t hc16) ?_
          refine G.yl (yl_move rfl) rfl rfl rfl ?_
          refine G.on rfl rfl (dec_t hc16) ?_
          refine G.yl (yl_le8 (b := 90) rfl rfl) rfl rfl rfl ?_
          refine G.yl (yl_pick_t rfl (dec_t hc16) rfl) rfl rfl rfl ?_
          refine G.nil ?_
          exact QA.join (decide (x ≤ 90)) (Sub.of ⟨rfl, rfl, rfl, rfl, rfl, rfl, rfl, rfl, trivial⟩) ⟨hm, (Sat.pick [0] h11)⟩
        · refine G.offU rfl rfl (dec_f hc16) rfl ?_
          refine G.offU rfl rfl (dec_f hc16) rfl ?_
          refine G.yl (yl_pick_f rfl (dec_f hc16) rfl) rfl rfl rfl ?_
          refine G.nil ?_
          exact QA.join false (Sub.of ⟨rfl, rfl, rfl, rfl, rfl, rfl, rfl, rfl, trivial⟩) ⟨hm, (Sat.pick [0] h11)⟩
      · rintro t20 w17 ⟨hm, h18⟩
        show C _ _ _ [(2, (.string (str ([] : List UInt8)))), (3, (.slice a2 s.length c3)), (4, (vI t10)), (5, (v8 x)), (8, (.slice a2 s.length c3)), (9, (vI (s.length : Int))), (10, (vI t10)), (20, (.bool t20))] _ _
        unfold M_label_Fold_k2 at hm
        rcases sp_b hm with ⟨hc19, hm⟩ | ⟨hc19, hm⟩
        · refine C.cond_t rfl hc19 ?_
          refine C.region ?_
          refine G.yl (yl_move rfl) rfl rfl rfl ?_
          refine G.yl (yl_move rfl) rfl rfl rfl ?_
          refine G.yl (yl_move rfl) rfl rfl rfl ?_
          refine G.yl (yl_or8 (b := 32) rfl rfl) rfl rfl rfl ?_
          obtain ⟨x_2, hy20, hm⟩ := sp_bind hm
          refine G.yl (yl_ixP (l := b) sl22 rfl rfl (View.isA (E := elU8) (Sat.own_view h18) (by decide) (at?_lt hy20)) (by simp [copyL_length, hl6]) (at?_lt hy20)) rfl rfl rfl ?_
          refine G.unit (does_stE (E := elU8) (r := x ||| 32) h18 sz5 rfl rfl (by decide) rfl (List.getElem?_eq_some_iff.1 (at?_some hy20).2).1) rfl rfl ?_
          rintro _ w21 h22
          refine G.nil ?_
          refine QA.block_normal ?_
          refine QA.then_normal ?_
          refine C.region ?_
          obtain ⟨hc23, hm⟩ := sp_chk hm
          refine G.yl (yl_addI rfl rfl hc23) rfl rfl rfl ?_
          refine G.yl (yl_move rfl) rfl rfl rfl ?_
          refine G.nil ?_
          obtain rfl := sp_ret1 hm
          exact QA.againO (b.set t10.toNat (x ||| 32), t10 + 1) hg13 (Sub.of ⟨rfl, (look_eq rfl (by simp [copyL_length, hl6])), (look_eq rfl (by simp [copyL_length, hl6])), rfl, rfl, trivial⟩) ⟨(by simp [copyL_length, hl6]), (Sat.pick [0] h22)⟩
        · refine C.cond_f rfl hc19 ?_
          refine C.skip ?_
          refine QA.block_normal ?_
          refine QA.then_normal ?_
          refine C.region ?_
          obtain ⟨hc24, hm⟩ := sp_chk hm
          refine G.yl (yl_addI rfl rfl hc24) rfl rfl rfl ?_
          refine G.yl (yl_move rfl) rfl rfl rfl ?_
          refine G.nil ?_
          obtain rfl := sp_ret1 hm
          exact QA.againO (b, t10 + 1) hg13 (Sub.of ⟨rfl, (look_eq rfl (by simp [copyL_length, hl6])), (look_eq rfl (by simp [copyL_length, hl6])), rfl, rfl, trivial⟩) ⟨(by simp [copyL_length, hl6]), (Sat.pick [0] h18)⟩
    · refine C.cond_f rfl (dec_f hc14) ?_
      refine C.exit ?_
      refine QA.then_exit ?_
      refine QA.then_exit ?_
      obtain rfl := sp_ret1 hm
      exact QA.left b (Sub.of ⟨rfl, (look_eq rfl (by simp [copyL_length, hl6])), trivial⟩) ⟨hg13, (by simp [copyL_length, hl6]), (Sat.pick [0] h11)⟩
  · rintro b_2 w25 ⟨rfl, hl7, h26⟩
    have hm := hm9
    show QA _ _ [(2, (.string (str ([] : List UInt8)))), (3, (.slice a2 s.length c3))] _ _
    refine QA.block_here ?_
    refine QA.then_normal ?_
    refine C.seq ?_
    refine C.region ?_
    refine G.yl (yl_move rfl) rfl rfl rfl ?_
    refine G.yl (yl_strE (l := b_2) Try.underlying22 Try.underlying5 Try.underlying9 rfl (by simp [copyL_length, hl7]) (Sat.own_view h26)) rfl rfl rfl ?_
    refine G.yl (yl_assign rfl) rfl rfl rfl ?_
    refine G.nil ?_
    refine QA.then_normal ?_
    refine C.ret ?_
    refine QA.ret1 rfl rfl ?_
    obtain rfl := sp_ret1 hm
    exact ⟨rfl, (Sat.pick [] h26)⟩
set_option maxRecDepth 20000 in
theorem M_label_Same_w {W : Base} {w : World} {a : List UInt8} {b : List UInt8}  (h : Sat W w []) {r1 : Bool} (hm : M_label_Same a b = some r1) :
    Calls Try.prog 50 #[(.string (str a)), (.string (str b))] w (Ret fun v w' => v = (.bool r1) ∧ Sat W w' []) := by
  unfold M_label_Same at hm
  refine C.enter (N := 10) Try.func50 rfl Try.ntmps50 rfl ?_
  show C _ _ _ [(0, (.string (str a))), (1, (.string (str b)))] _ _
  refine C.seq ?_
  refine C.region ?_
  refine G.yl (yl_assign rfl) rfl rfl rfl ?_
  refine G.nil ?_
  refine QA.then_normal ?_
  refine C.seq ?_
  refine C.region ?_
  refine G.yl (yl_move rfl) rfl rfl rfl ?_
  obtain ⟨r1_2, hy1, hm⟩ := sp_bind hm
  refine G.does (does_fn 0 rfl rfl rfl en84 h (fun U hU hp hr hs => M_label_Fold_w hp hy1)) rfl rfl rfl ?_
  rintro _ w2 ⟨U5, hb6, rfl, h4⟩
  have h3 : Sat W w2 [] := hb6 h4
  refine G.yl (yl_move rfl) rfl rfl rfl ?_
  obtain ⟨r1_3, hy7, hm⟩ := sp_bind hm
  refine G.does (does_fn 0 rfl rfl rfl en84 h3 (fun U hU hp hr hs => M_label_Fold_w hp hy7)) rfl rfl rfl ?_
  rintro _ w8 ⟨U11, hb12, rfl, h10⟩
  have h9 : Sat W w8 [] := hb12 h10
  refine G.yl (yl_eqS rfl rfl) rfl rfl rfl ?_
  refine G.yl (yl_assign rfl) rfl rfl rfl ?_
  refine G.nil ?_
  refine QA.then_normal ?_
  refine C.ret ?_
  refine QA.ret1 rfl rfl ?_
  obtain rfl := sp_ret1 hm
  exact ⟨rfl, (Sat.pick [] h9)⟩
set_option maxRecDepth 20000 in
theorem M_stringslite_HasSuffix_w {W : Base} {w : World} {s : List UInt8} {suffix : List UInt8}  (h : Sat W w []) {r1 : Bool} (hm : M_stringslite_HasSuffix s suffix = some r1) :
    Calls Try.prog 114 #[(.string (str s)), (.string (str suffix))] w (Ret fun v w' => v = (.bool r1) ∧ Sat W w' []) := by
  unfold M_stringslite_HasSuffix at hm
  refine C.enter (N := 21) Try.func114 rfl Try.ntmps114 rfl ?_
  show C _ _ _ [(0, (.string (str s))), (1, (.string (str suffix)))] _ _
  refine C.seq ?_
  refine C.region ?_
  refine G.yl (yl_assign rfl) rfl rfl rfl ?_
  refine G.nil ?_
  refine QA.then_normal ?_
  refine C.seq ?_
  refine C.region ?_
  refine G.yl (yl_move rfl) rfl rfl rfl ?_
  refine G.yl (yl_slenE Try.underlying9 rfl) rfl rfl rfl ?_
  refine G.yl (yl_move rfl) rfl rfl rfl ?_
  refine G.yl (yl_slenE Try.underlying9 rfl) rfl rfl rfl ?_
  refine G.yl (yl_geI rfl rfl) rfl rfl rfl ?_
  refine G.yl (yl_move rfl) rfl rfl rfl ?_
  rcases sp_ite hm with ⟨hc1, hm⟩ | ⟨hc1, hm⟩
  · refine G.on rfl rfl (dec_t hc1) ?_
    refine G.yl (yl_move rfl) rfl rfl rfl ?_
    refine G.on rfl rfl (dec_t hc1) ?_
    refine G.yl (yl_move rfl) rfl rfl rfl ?_
    refine G.on rfl rfl (dec_t hc1) ?_
    refine G.yl (yl_slenE Try.underlying9 rfl) rfl rfl rfl ?_
    refine G.on rfl rfl (dec_t hc1) ?_
    refine G.yl (yl_move rfl) rfl rfl rfl ?_
    refine G.on rfl rfl (dec_t hc1) ?_
    refine G.yl (yl_slenE Try.underlying9 rfl) rfl rfl rfl ?_
    refine G.on rfl rfl (dec_t hc1) ?_
    obtain ⟨hc2, hm⟩ := sp_chk hm
    refine G.yl (yl_subI rfl rfl hc2) rfl rfl rfl ?_
    refine G.on rfl rfl (dec_t hc1) ?_
    obtain ⟨hc3, hm⟩ := sp_chk hm
    refine G.yl (yl_slLS Try.underlying9 rfl rfl hc3) rfl rfl rfl ?_
    refine G.on rfl rfl (dec_t hc1) ?_
    refine G.yl (yl_move rfl) rfl rfl rfl ?_
    refine G.on rfl rfl (dec_t hc1) ?_
    refine G.yl (yl_eqS rfl rfl) rfl rfl rfl ?_
    refine G.yl (yl_pick_t rfl (dec_t hc1) rfl) rfl rfl rfl ?_
    refine G.yl (yl_assign rfl) rfl rfl rfl ?_
    refine G.nil ?_
    refine QA.then_normal ?_
    refine C.ret ?_
    refine QA.ret1 rfl rfl ?_
    obtain rfl := sp_ret1 hm
    exact ⟨rfl, (Sat.pick [] h)⟩
  · refine G.offU rfl rfl (dec_f hc1) rfl ?_
    refine G.offU rfl rfl (dec_f hc1) rfl ?_
    refine G.offU rfl rfl (dec_f hc1) rfl ?_
    refine G.offU rfl rfl (dec_f hc1) rfl ?_
    refine G.offU rfl rfl (dec_f hc1) rfl ?_
    refine G.offU rfl rfl (dec_f hc1) rfl ?_
    refine G.offU rfl rfl (dec_f hc1) rfl ?_
    refine G.offU rfl rfl (dec_f hc1) rfl ?_
    refine G.offU rfl rfl (dec_f hc1) rfl ?_
    refine G.yl (yl_pick_f rfl (dec_f hc1) rfl) rfl rfl rfl ?_
    refine G.yl (yl_assign rfl) rfl rfl rfl ?_
    refine G.nil ?_
    refine QA.then_normal ?_
    refine C.ret ?_
    refine QA.ret1 rfl rfl ?_
    obtain rfl := sp_ret1 hm
    exact ⟨rfl, (Sat.pick [] h)⟩
set_option maxRecDepth 20000 in
theorem M_strings_HasSuffix_w {W : Base} {w : World} {s : List UInt8} {suffix : List UInt8}  (h : Sat W w []) {r1 : Bool} (hm : M_strings_HasSuffix s suffix = some r1) :
    Calls Try.prog 83 #[(.string (str s)), (.string (str suffix))] w (Ret fun v w' => v = (.bool r1) ∧ Sat W w' []) := by
  unfold M_strings_HasSuffix at hm
  refine C.enter (N := 8) Try.func83 rfl Try.ntmps83 rfl ?_
  show C _ _ _ [(0, (.string (str s))), (1, (.string (str suffix)))] _ _
  refine C.seq ?_
  refine C.region ?_
  refine G.yl (yl_assign rfl) rfl rfl rfl ?_
  refine G.nil ?_
  refine QA.then_normal ?_
  refine C.seq ?_
  refine C.region ?_
  refine G.yl (yl_move rfl) rfl rfl rfl ?_
  refine G.yl (yl_move rfl) rfl rfl rfl ?_
  obtain ⟨r1_2, hy1, hm⟩ := sp_bind hm
  refine G.does (does_fn 0 rfl rfl rfl en114 h (fun U hU hp hr hs => M_stringslite_HasSuffix_w hp hy1)) rfl rfl rfl ?_
  rintro _ w2 ⟨U5, hb6, rfl, h4⟩
  have h3 : Sat W w2 [] := hb6 h4
  refine G.yl (yl_assign rfl) rfl rfl rfl ?_
  refine G.nil ?_
  refine QA.then_normal ?_
  refine C.ret ?_
  refine QA.ret1 rfl rfl ?_
  obtain rfl := sp_ret1 hm
  exact ⟨rfl, (Sat.pick [] h3)⟩
set_option maxRecDepth 20000 in
theorem M_label_Under_w {W : Base} {w : World} {s : List UInt8} {zone : List UInt8}  (h : Sat W w []) {r1 : Bool} (hm : M_label_Under s zone = some r1) :
    Calls Try.prog 49 #[(.string (str s)), (.string (str zone))] w (Ret fun v w' => v = (.bool r1) ∧ Sat W w' []) := by
  unfold M_label_Under at hm
  refine C.enter (N := 24) Try.func49 rfl Try.ntmps49 rfl ?_
  show C _ _ _ [(0, (.string (str s))), (1, (.string (str zone)))] _ _
  refine C.seq ?_
  refine C.region ?_
  refine G.yl (yl_assign rfl) rfl rfl rfl ?_
  refine G.nil ?_
  refine QA.then_normal ?_
  refine C.seq ?_
  refine C.join (γ := Bool) (fun g => match g with | t12 => [(0, (.string (str s))), (1, (.string (str zone))), (4, (.bool false)), (12, (.bool t12))]) (fun g ww => match g with | t12 => (M_label_Under_k1 s zone t12 = some r1) ∧ Sat W ww []) ?_ ?_
  · refine C.region ?_
    refine G.yl (yl_move rfl) rfl rfl rfl ?_
    obtain ⟨r1_2, hy1, hm⟩ := sp_bind hm
    refine G.does (does_fn 0 rfl rfl rfl en48 h (fun U hU hp hr hs => M_label_Good_w hp hy1)) rfl rfl rfl ?_
    rintro _ w2 ⟨U5, hb6, rfl, h4⟩
    have h3 : Sat W w2 [] := hb6 h4
    refine G.yl (yl_not rfl) rfl rfl rfl ?_
    refine G.yl (yl_move rfl) rfl rfl rfl ?_
    rcases sp_b hm with ⟨hc7, hm⟩ | ⟨hc7, hm⟩
    · refine G.on rfl rfl (not_f hc7) ?_
      refine G.yl (yl_move rfl) rfl rfl rfl ?_
      refine G.on rfl rfl (not_f hc7) ?_
      obtain ⟨r1_3, hy8, hm⟩ := sp_bind hm
      refine G.does (does_fn 0 rfl rfl rfl en48 h3 (fun U hU hp hr hs => M_label_Good_w hp hy8)) rfl rfl rfl ?_
      rintro _ w9 ⟨U12, hb13, rfl, h11⟩
      have h10 : Sat W w9 [] := hb13 h11
      refine G.on rfl rfl (not_f hc7) ?_
      refine G.yl (yl_not rfl) rfl rfl rfl ?_
      refine G.yl (yl_pick_f rfl (not_f hc7) rfl) rfl rfl rfl ?_
      refine G.nil ?_
      exact QA.join (!r1_3) (Sub.of ⟨rfl, rfl, rfl, rfl, trivial⟩) ⟨hm, (Sat.pick [] h10)⟩
    · refine G.offU rfl rfl (not_t hc7) rfl ?_
      refine G.offU rfl rfl (not_t hc7) rfl ?_
      refine G.offU rfl rfl (not_t hc7) rfl ?_
      refine G.yl (yl_pick_t rfl (not_t hc7) rfl) rfl rfl rfl ?_
      refine G.nil ?_
      exact QA.join true (Sub.of ⟨rfl, rfl, rfl, rfl, trivial⟩) ⟨hm, (Sat.pick [] h3)⟩
  · rintro t12 w14 ⟨hm, h15⟩
    show C _ _ _ [(0, (.string (str s))), (1, (.string (str zone))), (4, (.bool false)), (12, (.bool t12))] _ _
    unfold M_label_Under_k1 at hm
    rcases sp_b hm with ⟨hc16, hm⟩ | ⟨hc16, hm⟩
    · refine C.cond_t rfl hc16 ?_
      refine C.seq ?_
      refine C.region ?_
      refine G.yl (yl_assign rfl) rfl rfl rfl ?_
      refine G.nil ?_
      refine QA.then_normal ?_
      refine C.ret ?_
      refine QA.then_ret ?_
      refine QA.ret1 rfl rfl ?_
      obtain rfl := sp_ret1 hm
      exact ⟨rfl, (Sat.pick [] h15)⟩
    · refine C.cond_f rfl hc16 ?_
      refine C.skip ?_
      refine QA.then_normal ?_
      refine C.seq ?_
      refine C.region ?_
      refine G.yl (yl_move rfl) rfl rfl rfl ?_
      refine G.yl (yl_move rfl) rfl rfl rfl ?_
      obtain ⟨r1_4, hy17, hm⟩ := sp_bind hm
      refine G.does (does_fn 0 rfl rfl rfl en50 h15 (fun U hU hp hr hs => M_label_Same_w hp hy17)) rfl rfl rfl ?_
      rintro _ w18 ⟨U21, hb22, rfl, h20⟩
      have h19 : Sat W w18 [] := hb22 h20
      refine G.yl (yl_move rfl) rfl rfl rfl ?_
      rcases sp_b hm with ⟨hc23, hm⟩ | ⟨hc23, hm⟩
      · refine G.offU rfl rfl hc23 rfl ?_
        refine G.offU rfl rfl hc23 rfl ?_
        refine G.offU rfl rfl hc23 rfl ?_
        refine G.offU rfl rfl hc23 rfl ?_
        refine G.offU rfl rfl hc23 rfl ?_
        refine G.offU rfl rfl hc23 rfl ?_
        refine G.yl (yl_pick_t rfl hc23 rfl) rfl rfl rfl ?_
        refine G.yl (yl_assign rfl) rfl rfl rfl ?_
        refine G.nil ?_
        refine QA.then_normal ?_
        refine C.ret ?_
        refine QA.ret1 rfl rfl ?_
        obtain rfl := sp_ret1 hm
        exact ⟨rfl, (Sat.pick [] h19)⟩
      · refine G.on rfl rfl hc23 ?_
        refine G.yl (yl_move rfl) rfl rfl rfl ?_
        refine G.on rfl rfl hc23 ?_
        obtain ⟨r1_5, hy24, hm⟩ := sp_bind hm
        refine G.does (does_fn 0 rfl rfl rfl en84 h19 (fun U hU hp hr hs => M_label_Fold_w hp hy24)) rfl rfl rfl ?_
        rintro _ w25 ⟨U28, hb29, rfl, h27⟩
        have h26 : Sat W w25 [] := hb29 h27
        refine G.on rfl rfl hc23 ?_
        refine G.yl (yl_move rfl) rfl rfl rfl ?_
        refine G.on rfl rfl hc23 ?_
        obtain ⟨r1_6, hy30, hm⟩ := sp_bind hm
        refine G.does (does_fn 0 rfl rfl rfl en84 h26 (fun U hU hp hr hs => M_label_Fold_w hp hy30)) rfl rfl rfl ?_
        rintro _ w31 ⟨U34, hb35, rfl, h33⟩
        have h32 : Sat W w31 [] := hb35 h33
        refine G.on rfl rfl hc23 ?_
        obtain ⟨hc36, hm⟩ := sp_chk hm
        refine G.yl (yl_catS rfl rfl hc36) rfl rfl rfl ?_
        refine G.on rfl rfl hc23 ?_
        obtain ⟨r1_7, hy37, hm⟩ := sp_bind hm
        refine G.does (does_fn 0 rfl rfl rfl en83 h32 (fun U hU hp hr hs => M_strings_HasSuffix_w hp hy37)) rfl rfl rfl ?_
        rintro _ w38 ⟨U41, hb42, rfl, h40⟩
        have h39 : Sat W w38 [] := hb42 h40
        refine G.yl (yl_pick_f rfl hc23 rfl) rfl rfl rfl ?_
        refine G.yl (yl_assign rfl) rfl rfl rfl ?_
        refine G.nil ?_
        refine QA.then_normal ?_
        refine C.ret ?_
        refine QA.ret1 rfl rfl ?_
        obtain rfl := sp_ret1 hm
        exact ⟨rfl, (Sat.pick [] h39)⟩
set_option maxRecDepth 20000 in
theorem M_signpostlaw09_lives_w {W : Base} {w : World}   (h : Sat W w []) {r1 : Bool} (hm : M_signpostlaw09_lives = some r1) :
    Calls Try.prog 47 #[] w (Ret fun v w' => v = (.bool r1) ∧ Sat W w' []) := by
  unfold M_signpostlaw09_lives at hm
  refine C.enter (N := 21) Try.func47 rfl Try.ntmps47 rfl ?_
  show C _ _ _ [] _ _
  refine C.seq ?_
  refine C.region ?_
  refine G.yl (yl_assign rfl) rfl rfl rfl ?_
  refine G.nil ?_
  refine QA.then_normal ?_
  refine C.seq ?_
  refine C.region ?_
  obtain ⟨⟨r3_2, r4_2⟩, hy1, hm⟩ := sp_bind hm
  refine G.does (does_fn 0 rfl rfl rfl en51 h (fun U hU hp hr hs => M_label_Wire_w hp hy1)) rfl rfl rfl ?_
  rintro _ w4 ⟨U7, hb8, r12, r23, rfl, h6⟩
  have h5 : Sat W w4 [ow elU8 r12 r23 5 r3_2] := hb8 h6
  refine G.yl (yl_move rfl) rfl rfl rfl ?_
  refine G.yl (yl_extract rfl rfl) rfl rfl rfl ?_
  refine G.yl (yl_extract rfl rfl) rfl rfl rfl ?_
  refine G.yl (yl_assign rfl) rfl rfl rfl ?_
  refine G.yl (yl_assign rfl) rfl rfl rfl ?_
  refine G.nil ?_
  refine QA.then_normal ?_
  refine C.seq ?_
  refine C.region ?_
  refine G.yl (yl_move rfl) rfl rfl rfl ?_
  refine G.yl (yl_strE Try.underlying22 Try.underlying5 Try.underlying9 rfl rfl (Sat.own_view h5)) rfl rfl rfl ?_
  refine G.yl (yl_eqS rfl rfl) rfl rfl rfl ?_
  refine G.yl (yl_move rfl) rfl rfl rfl ?_
  rcases sp_ite hm with ⟨hc9, hm⟩ | ⟨hc9, hm⟩
  · refine G.on rfl rfl (dec_t hc9) ?_
    refine G.yl (yl_move rfl) rfl rfl rfl ?_
    refine G.on rfl rfl (dec_t hc9) ?_
    refine G.yl (yl_eqI rfl rfl) rfl rfl rfl ?_
    refine G.yl (yl_pick_t rfl (dec_t hc9) rfl) rfl rfl rfl ?_
    refine G.yl (yl_move rfl) rfl rfl rfl ?_
    rcases sp_ite hm with ⟨hc10, hm⟩ | ⟨hc10, hm⟩
    · refine G.on rfl rfl (dec_t hc10) ?_
      obtain ⟨r1_2, hy11, hm⟩ := sp_bind hm
      refine G.does (does_fn 0 rfl rfl rfl en49 h5 (fun U hU hp hr hs => M_label_Under_w hp hy11)) rfl rfl rfl ?_
      rintro _ w12 ⟨U15, hb16, rfl, h14⟩
      have h13 : Sat W w12 [ow elU8 r12 r23 5 r3_2] := hb16 h14
      refine G.yl (yl_pick_t rfl (dec_t hc10) rfl) rfl rfl rfl ?_
      refine G.yl (yl_move rfl) rfl rfl rfl ?_
      rcases sp_b hm with ⟨hc17, hm⟩ | ⟨hc17, hm⟩
      · refine G.on rfl rfl hc17 ?_
        obtain ⟨r1_3, hy18, hm⟩ := sp_bind hm
        refine G.does (does_fn 0 rfl rfl rfl en49 h13 (fun U hU hp hr hs => M_label_Under_w hp hy18)) rfl rfl rfl ?_
        rintro _ w19 ⟨U22, hb23, rfl, h21⟩
        have h20 : Sat W w19 [ow elU8 r12 r23 5 r3_2] := hb23 h21
        refine G.on rfl rfl hc17 ?_
        refine G.yl (yl_not rfl) rfl rfl rfl ?_
        refine G.yl (yl_pick_t rfl hc17 rfl) rfl rfl rfl ?_
        refine G.yl (yl_assign rfl) rfl rfl rfl ?_
        refine G.nil ?_
        refine QA.then_normal ?_
        refine C.ret ?_
        refine QA.ret1 rfl rfl ?_
        obtain rfl := sp_ret1 hm
        exact ⟨rfl, (Sat.pick [] h20)⟩
      · refine G.offU rfl rfl hc17 rfl ?_
        refine G.offU rfl rfl hc17 rfl ?_
        refine G.yl (yl_pick_f rfl hc17 rfl) rfl rfl rfl ?_
        refine G.yl (yl_assign rfl) rfl rfl rfl ?_
        refine G.nil ?_
        refine QA.then_normal ?_
        refine C.ret ?_
        refine QA.ret1 rfl rfl ?_
        obtain rfl := sp_ret1 hm
        exact ⟨rfl, (Sat.pick [] h13)⟩
    · refine G.offU rfl rfl (dec_f hc10) rfl ?_
      refine G.yl (yl_pick_f rfl (dec_f hc10) rfl) rfl rfl rfl ?_
      refine G.yl (yl_move rfl) rfl rfl rfl ?_
      refine G.offU rfl rfl rfl rfl ?_
      refine G.offU rfl rfl rfl rfl ?_
      refine G.yl (yl_pick_f rfl rfl rfl) rfl rfl rfl ?_
      refine G.yl (yl_assign rfl) rfl rfl rfl ?_
      refine G.nil ?_
      refine QA.then_normal ?_
      refine C.ret ?_
      refine QA.ret1 rfl rfl ?_
      obtain rfl := sp_ret1 hm
      exact ⟨rfl, (Sat.pick [] h5)⟩
  · refine G.offU rfl rfl (dec_f hc9) rfl ?_
    refine G.offU rfl rfl (dec_f hc9) rfl ?_
    refine G.yl (yl_pick_f rfl (dec_f hc9) rfl) rfl rfl rfl ?_
    refine G.yl (yl_move rfl) rfl rfl rfl ?_
    refine G.offU rfl rfl rfl rfl ?_
    refine G.yl (yl_pick_f rfl rfl rfl) rfl rfl rfl ?_
    refine G.yl (yl_move rfl) rfl rfl rfl ?_
    refine G.offU rfl rfl rfl rfl ?_
    refine G.offU rfl rfl rfl rfl ?_
    refine G.yl (yl_pick_f rfl rfl rfl) rfl rfl rfl ?_
    refine G.yl (yl_assign rfl) rfl rfl rfl ?_
    refine G.nil ?_
    refine QA.then_normal ?_
    refine C.ret ?_
    refine QA.ret1 rfl rfl ?_
    obtain rfl := sp_ret1 hm
    exact ⟨rfl, (Sat.pick [] h5)⟩
set_option maxRecDepth 20000 in
theorem M_label_part_v_w {W : Base} {w : World} {a : Option Addr} {c : Nat} {b : List UInt8} {at_ : Int} (hv_b : V W a (elU8.row b)) (hq_b : b.length ≤ c) (h : Sat W w []) {r1 : List UInt8} (hm : M_label_part_v b at_ = some r1) :
    Calls Try.prog 88 #[(.slice a b.length c), (vI at_)] w (Ret fun v w' => v = (.string (str r1)) ∧ Sat W w' []) := by
  unfold M_label_part_v at hm
  refine C.enter (N := 35) Try.func88 rfl Try.ntmps88 rfl ?_
  show C _ _ _ [(0, (.slice a b.length c)), (1, (vI at_))] _ _
  refine C.seq ?_
  refine C.region ?_
  refine G.yl (yl_assign rfl) rfl rfl rfl ?_
  refine G.nil ?_
  refine QA.then_normal ?_
  refine C.seq ?_
  refine C.join (γ := Bool) (fun g => match g with | t21 => [(0, (.slice a b.length c)), (1, (vI at_)), (4, (.string (str ([] : List UInt8)))), (21, (.bool t21))]) (fun g ww => match g with | t21 => (M_label_part_v_k1 at_ b t21 = some r1) ∧ Sat W ww []) ?_ ?_
  · refine C.region ?_
    refine G.yl (yl_move rfl) rfl rfl rfl ?_
    refine G.yl (yl_move rfl) rfl rfl rfl ?_
    refine G.yl (yl_lenE Try.underlying22 rfl) rfl rfl rfl ?_
    refine G.yl (yl_geI rfl rfl) rfl rfl rfl ?_
    refine G.yl (yl_move rfl) rfl rfl rfl ?_
    rcases sp_ite hm with ⟨hc1, hm⟩ | ⟨hc1, hm⟩
    · refine G.offU rfl rfl (dec_t hc1) rfl ?_
      refine G.offU rfl rfl (dec_t hc1) rfl ?_
      refine G.offU rfl rfl (dec_t hc1) rfl ?_
      refine G.offU rfl rfl (dec_t hc1) rfl ?_
      refine G.offU rfl rfl (dec_t hc1) rfl ?_
      refine G.offU rfl rfl (dec_t hc1) rfl ?_
      refine G.offU rfl rfl (dec_t hc1) rfl ?_
      refine G.offU rfl rfl (dec_t hc1) rfl ?_
      refine G.offU rfl rfl (dec_t hc1) rfl ?_
      refine G.offU rfl rfl (dec_t hc1) rfl ?_
      refine G.offU rfl rfl (dec_t hc1) rfl ?_
      refine G.yl (yl_pick_t rfl (dec_t hc1) rfl) rfl rfl rfl ?_
      refine G.nil ?_
      exact QA.join true (Sub.of ⟨rfl, rfl, rfl, rfl, trivial⟩) ⟨hm, (Sat.pick [] h)⟩
    · refine G.on rfl rfl (dec_f hc1) ?_
      refine G.yl (yl_move rfl) rfl rfl rfl ?_
      refine G.on rfl rfl (dec_f hc1) ?_
      refine G.yl (yl_move rfl) rfl rfl rfl ?_
      refine G.on rfl rfl (dec_f hc1) ?_
      obtain ⟨x, hy2, hm⟩ := sp_bind hm
      refine G.yl (yl_ixP (l := b) sl22 rfl rfl (View.isA (E := elU8) (hv_b.at_ h) (by decide) (at?_lt hy2)) rfl (at?_lt hy2)) rfl rfl rfl ?_
      refine G.on rfl rfl (dec_f hc1) ?_
      refine G.yl (yl_ld1 (E := elU8) (v := (v8 x)) ag5 rfl (hv_b.at_ h) (at?_some hy2).2 rfl) rfl rfl rfl ?_
      refine G.on rfl rfl (dec_f hc1) ?_
      refine G.yl (yl_8I us5 Try.underlying3 rfl) rfl rfl rfl ?_
      refine G.on rfl rfl (dec_f hc1) ?_
      refine G.yl (yl_move rfl) rfl rfl rfl ?_
      refine G.on rfl rfl (dec_f hc1) ?_
      refine G.yl (yl_lenE Try.underlying22 rfl) rfl rfl rfl ?_
      refine G.on rfl rfl (dec_f hc1) ?_
      refine G.yl (yl_move rfl) rfl rfl rfl ?_
      refine G.on rfl rfl (dec_f hc1) ?_
      obtain ⟨hc3, hm⟩ := sp_chk hm
      refine G.yl (yl_subI rfl rfl hc3) rfl rfl rfl ?_
      refine G.on rfl rfl (dec_f hc1) ?_
      obtain ⟨hc4, hm⟩ := sp_chk hm
      refine G.yl (yl_subI rfl rfl hc4) rfl rfl rfl ?_
      refine G.on rfl rfl (dec_f hc1) ?_
      refine G.yl (yl_gtI rfl rfl) rfl rfl rfl ?_
      refine G.yl (yl_pick_f rfl (dec_f hc1) rfl) rfl rfl rfl ?_
      refine G.nil ?_
      exact QA.join (decide ((((b.length : Int) - at_) - 1) < (x.toNat : Int))) (Sub.of ⟨rfl, rfl, rfl, rfl, trivial⟩) ⟨hm, (Sat.pick [] h)⟩
  · rintro t21 w5 ⟨hm, h6⟩
    show C _ _ _ [(0, (.slice a b.length c)), (1, (vI at_)), (4, (.string (str ([] : List UInt8)))), (21, (.bool t21))] _ _
    unfold M_label_part_v_k1 at hm
    rcases sp_b hm with ⟨hc7, hm⟩ | ⟨hc7, hm⟩
    · refine C.cond_t rfl hc7 ?_
      refine C.seq ?_
      refine C.region ?_
      refine G.yl (yl_assign rfl) rfl rfl rfl ?_
      refine G.nil ?_
      refine QA.then_normal ?_
      refine C.ret ?_
      refine QA.then_ret ?_
      refine QA.ret1 rfl rfl ?_
      obtain rfl := sp_ret1 hm
      exact ⟨rfl, (Sat.pick [] h6)⟩
    · refine C.cond_f rfl hc7 ?_
      refine C.skip ?_
      refine QA.then_normal ?_
      refine C.seq ?_
      refine C.region ?_
      refine G.yl (yl_move rfl) rfl rfl rfl ?_
      refine G.yl (yl_move rfl) rfl rfl rfl ?_
      obtain ⟨hc8, hm⟩ := sp_chk hm
      refine G.yl (yl_addI rfl rfl hc8) rfl rfl rfl ?_
      refine G.yl (yl_move rfl) rfl rfl rfl ?_
      obtain ⟨hc9, hm⟩ := sp_chk hm
      refine G.yl (yl_addI rfl rfl hc9) rfl rfl rfl ?_
      refine G.yl (yl_move rfl) rfl rfl rfl ?_
      refine G.yl (yl_move rfl) rfl rfl rfl ?_
      obtain ⟨x_2, hy10, hm⟩ := sp_bind hm
      refine G.yl (yl_ixP (l := b) sl22 rfl rfl (View.isA (E := elU8) (hv_b.at_ h6) (by decide) (at?_lt hy10)) rfl (at?_lt hy10)) rfl rfl rfl ?_
      refine G.yl (yl_ld1 (E := elU8) (v := (v8 x_2)) ag5 rfl (hv_b.at_ h6) (at?_some hy10).2 rfl) rfl rfl rfl ?_
      refine G.yl (yl_8I us5 Try.underlying3 rfl) rfl rfl rfl ?_
      obtain ⟨hc11, hm⟩ := sp_chk hm
      refine G.yl (yl_addI rfl rfl hc11) rfl rfl rfl ?_
      obtain ⟨a12, ha13⟩ : ∃ p', Cut p' a c ((at_ + 1).toNat) 1 := Cut.mk _ _ _ _
      obtain ⟨hc14, hm⟩ := sp_chk hm
      refine G.yl (yl_slLH (E := elU8) (l := b) sl22 rfl rfl rfl rfl hc14 hq_b ha13) rfl rfl rfl ?_
      refine G.yl (yl_strE Try.underlying22 Try.underlying5 Try.underlying9 rfl rfl (View.cut (View.rtake (hv_b.at_ h6) (((at_ + 1) + (x_2.toNat : Int)).toNat)) ha13 (by have := hq_b; simp only [List.length_drop, List.length_take, List.length_append, List.length_set, List.length_cons, List.length_nil, List.length_ofFn, copyL_length] at *; omega))) rfl rfl rfl ?_
      refine G.yl (yl_assign rfl) rfl rfl rfl ?_
      refine G.nil ?_
      refine QA.then_normal ?_
      refine C.ret ?_
      refine QA.ret1 rfl rfl ?_
      obtain rfl := sp_ret1 hm
      exact ⟨rfl, (Sat.pick [] h6)⟩
set_option maxRecDepth 20000 in
theorem M_label_Unwire_v_w {W : Base} {w : World} {a : Option Addr} {c : Nat} {b : List UInt8} {at_ : Int} (hv_b : V W a (elU8.row b)) (hq_b : b.length ≤ c) (h : Sat W w []) {r1 : List UInt8} {r2 : Int} {r3 : Int} (hm : M_label_Unwire_v b at_ = some (r1, r2, r3)) :
    Calls Try.prog 53 #[(.slice a b.length c), (vI at_)] w (Ret fun v w' => v = (.tuple #[(.string (str r1)), (vI r2), (vI r3)]) ∧ Sat W w' []) := by
  unfold M_label_Unwire_v at hm
  refine C.enter (N := 58) Try.func53 rfl Try.ntmps53 rfl ?_
  show C _ _ _ [(0, (.slice a b.length c)), (1, (vI at_))] _ _
  refine C.seq ?_
  refine C.region ?_
  refine G.yl (yl_assign rfl) rfl rfl rfl ?_
  refine G.yl (yl_assign rfl) rfl rfl rfl ?_
  refine G.yl (yl_assign rfl) rfl rfl rfl ?_
  refine G.nil ?_
  refine QA.then_normal ?_
  refine C.seq ?_
  refine C.join (γ := Bool) (fun g => match g with | t17 => [(0, (.slice a b.length c)), (1, (vI at_)), (4, (.string (str ([] : List UInt8)))), (5, (vI 0)), (6, (vI 0)), (17, (.bool t17))]) (fun g ww => match g with | t17 => (M_label_Unwire_v_k1 at_ b t17 = some (r1, r2, r3)) ∧ Sat W ww []) ?_ ?_
  · refine C.region ?_
    refine G.yl (yl_move rfl) rfl rfl rfl ?_
    refine G.yl (yl_ltI rfl rfl) rfl rfl rfl ?_
    refine G.yl (yl_move rfl) rfl rfl rfl ?_
    rcases sp_ite hm with ⟨hc1, hm⟩ | ⟨hc1, hm⟩
    · refine G.offU rfl rfl (dec_t hc1) rfl ?_
      refine G.offU rfl rfl (dec_t hc1) rfl ?_
      refine G.offU rfl rfl (dec_t hc1) rfl ?_
      refine G.offU rfl rfl (dec_t hc1) rfl ?_
      refine G.yl (yl_pick_t rfl (dec_t hc1) rfl) rfl rfl rfl ?_
      refine G.nil ?_
      exact QA.join true (Sub.of ⟨rfl, rfl, rfl, rfl, rfl, rfl, trivial⟩) ⟨hm, (Sat.pick [] h)⟩
    · refine G.on rfl rfl (dec_f hc1) ?_
      refine G.yl (yl_move rfl) rfl rfl rfl ?_
      refine G.on rfl rfl (dec_f hc1) ?_
      refine G.yl (yl_move rfl) rfl rfl rfl ?_
      refine G.on rfl rfl (dec_f hc1) ?_
      refine G.yl (yl_lenE Try.underlying22 rfl) rfl rfl rfl ?_
      refine G.on rfl rfl (dec_f hc1) ?_
      refine G.yl (yl_geI rfl rfl) rfl rfl rfl ?_
      refine G.yl (yl_pick_f rfl (dec_f hc1) rfl) rfl rfl rfl ?_
      refine G.nil ?_
      exact QA.join (decide ((b.length : Int) ≤ at_)) (Sub.of ⟨rfl, rfl, rfl, rfl, rfl, rfl, trivial⟩) ⟨hm, (Sat.pick [] h)⟩
  · rintro t17 w2 ⟨hm, h3⟩
    show C _ _ _ [(0, (.slice a b.length c)), (1, (vI at_)), (4, (.string (str ([] : List UInt8)))), (5, (vI 0)), (6, (vI 0)), (17, (.bool t17))] _ _
    unfold M_label_Unwire_v_k1 at hm
    rcases sp_b hm with ⟨hc4, hm⟩ | ⟨hc4, hm⟩
    · refine C.cond_t rfl hc4 ?_
      refine C.seq ?_
      refine C.region ?_
      refine G.yl (yl_assign rfl) rfl rfl rfl ?_
      refine G.yl (yl_assign rfl) rfl rfl rfl ?_
      refine G.yl (yl_assign rfl) rfl rfl rfl ?_
      refine G.nil ?_
      refine QA.then_normal ?_
      refine C.ret ?_
      refine QA.then_ret ?_
      refine QA.ret3 rfl rfl rfl rfl ?_
      obtain ⟨rfl, rfl, rfl⟩ := sp_ret3 hm
      exact ⟨rfl, (Sat.pick [] h3)⟩
    · refine C.cond_f rfl hc4 ?_
      refine C.skip ?_
      refine QA.then_normal ?_
      refine C.seq ?_
      refine C.region ?_
      refine G.yl (yl_assign rfl) rfl rfl rfl ?_
      refine G.nil ?_
      refine QA.then_normal ?_
      refine C.seq ?_
      refine C.block ?_
      obtain ⟨o, ho5, hm6⟩ := sp_bind hm
      refine C.left (γ := Int × Option Addr × Nat × List (List UInt8)) (.exit 0) (fun g => match g with | (at__3, a_3, c_3, l_2) => [(0, (.slice a b.length c)), (1, (vI at__3)), (4, (.string (str ([] : List UInt8)))), (5, (vI 0)), (6, (vI 0)), (7, (.slice a_3 l_2.length c_3))]) (fun g ww => match g with | (at__3, a_3, c_3, l_2) => .inl (at__3, l_2) = o ∧ Sat W ww [ow elStr a_3 c_3 9 l_2]) ?_ ?_
      · refine C.loopO (γ := Int × Option Addr × Nat × List (List UInt8)) (fun g => match g with | (at__2, a_2, c_2, l) => [(0, (.slice a b.length c)), (1, (vI at__2)), (4, (.string (str ([] : List UInt8)))), (5, (vI 0)), (6, (vI 0)), (7, (.slice a_2 l.length c_2))]) (fun g ww => match g with | (at__2, a_2, c_2, l) => Sat W ww [ow elStr a_2 c_2 9 l]) (fun g => match g with | (at__2, a_2, c_2, l) => (at__2, l)) (at_, none, 0, ([] : List (List UInt8))) ho5 (Sub.of ⟨rfl, rfl, rfl, rfl, rfl, rfl, trivial⟩) (Sat.pick [0] (Sat.own_zero h3 elStr none 9)) ?_
        rintro ⟨at__2, a_2, c_2, l⟩ k9 w7 y_ h8 hm hg10
        show C _ _ _ [(0, (.slice a b.length c)), (1, (vI at__2)), (4, (.string (str ([] : List UInt8)))), (5, (vI 0)), (6, (vI 0)), (7, (.slice a_2 l.length c_2))] _ _
        change M_label_Unwire_v_b2 b at__2 l = some y_ at hm
        unfold M_label_Unwire_v_b2 at hm
        refine C.seq ?_
        refine C.join (γ := Bool) (fun g => match g with | t28 => [(0, (.slice a b.length c)), (1, (vI at__2)), (4, (.string (str ([] : List UInt8)))), (5, (vI 0)), (6, (vI 0)), (7, (.slice a_2 l.length c_2)), (28, (.bool t28))]) (fun g ww => match g with | t28 => (M_label_Unwire_v_k3 at__2 b l t28 = some y_) ∧ Sat W ww [ow elStr a_2 c_2 9 l]) ?_ ?_
        · refine C.region ?_
          refine G.yl (yl_move rfl) rfl rfl rfl ?_
          refine G.yl (yl_move rfl) rfl rfl rfl ?_
          refine G.yl (yl_lenE Try.underlying22 rfl) rfl rfl rfl ?_
          refine G.yl (yl_ltI rfl rfl) rfl rfl rfl ?_
          refine G.yl (yl_move rfl) rfl rfl rfl ?_
          rcases sp_ite hm with ⟨hc11, hm⟩ | ⟨hc11, hm⟩
          · refine G.on rfl rfl (dec_t hc11) ?_
            refine G.yl (yl_move rfl) rfl rfl rfl ?_
            refine G.on rfl rfl (dec_t hc11) ?_
            refine G.yl (yl_move rfl) rfl rfl rfl ?_
            refine G.on rfl rfl (dec_t hc11) ?_
            obtain ⟨x, hy12, hm⟩ := sp_bind hm
            refine G.yl (yl_ixP (l := b) sl22 rfl rfl (View.isA (E := elU8) (hv_b.at_ h8) (by decide) (at?_lt hy12)) rfl (at?_lt hy12)) rfl rfl rfl ?_
            refine G.on rfl rfl (dec_t hc11) ?_
            refine G.yl (yl_ld1 (E := elU8) (v := (v8 x)) ag5 rfl (hv_b.at_ h8) (at?_some hy12).2 rfl) rfl rfl rfl ?_
            refine G.on rfl rfl (dec_t hc11) ?_
            refine G.yl (yl_ne8 (b := 0) rfl rfl) rfl rfl rfl ?_
            refine G.yl (yl_pick_t rfl (dec_t hc11) rfl) rfl rfl rfl ?_
            refine G.nil ?_
            exact QA.join (!(decide (x = 0))) (Sub.of ⟨rfl, rfl, rfl, rfl, rfl, rfl, rfl, trivial⟩) ⟨hm, (Sat.pick [0] h8)⟩
          · refine G.offU rfl rfl (dec_f hc11) rfl ?_
            refine G.offU rfl rfl (dec_f hc11) rfl ?_
            refine G.offU rfl rfl (dec_f hc11) rfl ?_
            refine G.offU rfl rfl (dec_f hc11) rfl ?_
            refine G.offU rfl rfl (dec_f hc11) rfl ?_
            refine G.yl (yl_pick_f rfl (dec_f hc11) rfl) rfl rfl rfl ?_
            refine G.nil ?_
            exact QA.join false (Sub.of ⟨rfl, rfl, rfl, rfl, rfl, rfl, rfl, trivial⟩) ⟨hm, (Sat.pick [0] h8)⟩
        · rintro t28 w13 ⟨hm, h14⟩
          show C _ _ _ [(0, (.slice a b.length c)), (1, (vI at__2)), (4, (.string (str ([] : List UInt8)))), (5, (vI 0)), (6, (vI 0)), (7, (.slice a_2 l.length c_2)), (28, (.bool t28))] _ _
          unfold M_label_Unwire_v_k3 at hm
          rcases sp_b hm with ⟨hc15, hm⟩ | ⟨hc15, hm⟩
          · refine C.cond_t rfl hc15 ?_
            refine C.skip ?_
            refine QA.then_normal ?_
            refine C.block ?_
            refine C.seq ?_
            refine C.region ?_
            refine G.yl (yl_move rfl) rfl rfl rfl ?_
            refine G.yl (yl_move rfl) rfl rfl rfl ?_
            obtain ⟨r1_2, hy16, hm⟩ := sp_bind hm
            refine G.does (does_fn 0 rfl rfl rfl en88 h14 (fun U hU hp hr hs => M_label_part_v_w (hs.v hv_b) hq_b hp hy16)) rfl rfl rfl ?_
            rintro _ w17 ⟨U20, hb21, rfl, h19⟩
            have h18 : Sat W w17 [ow elStr a_2 c_2 9 l] := hb21 h19
            refine G.yl (yl_assign rfl) rfl rfl rfl ?_
            refine G.nil ?_
            refine QA.then_normal ?_
            refine C.seq ?_
            refine C.seq ?_
            refine C.region ?_
            refine G.yl (yl_move rfl) rfl rfl rfl ?_
            obtain ⟨r1_3, hy22, hm⟩ := sp_bind hm
            refine G.does (does_fn 0 rfl rfl rfl en82 h18 (fun U hU hp hr hs => M_label_Part_w hp hy22)) rfl rfl rfl ?_
            rintro _ w23 ⟨U26, hb27, rfl, h25⟩
            have h24 : Sat W w23 [ow elStr a_2 c_2 9 l] := hb27 h25
            refine G.yl (yl_not rfl) rfl rfl rfl ?_
            refine G.nil ?_
            refine QA.then_normal ?_
            rcases sp_b hm with ⟨hc28, hm⟩ | ⟨hc28, hm⟩
            · refine C.cond_f rfl (not_f hc28) ?_
              refine C.skip ?_
              refine QA.then_normal ?_
              refine C.seq ?_
              refine C.region ?_
              refine G.yl (yl_move rfl) rfl rfl rfl ?_
              refine G.yl (yl_move rfl) rfl rfl rfl ?_
              refine G.does (does_lit (E := elStr) (l := [r1_2]) (vs := [(.string (str r1_2))]) (cs := [(.string (str r1_2))]) (e := 9) h24 rfl (by kernel_rfl) rfl rfl (by decide)) rfl rfl rfl ?_
              rintro _ w30 ⟨a29, rfl, h31⟩
              obtain ⟨hc32, hm⟩ := sp_chk hm
              refine G.does (does_app (E := elStr) (l := l) (l2 := [r1_2]) Try.underlying133 el9 (Sat.pick [1, 0] h31) rfl rfl rfl rfl (by decide) (Sat.own_view h31) hc32 (by decide)) rfl rfl rfl ?_
              rintro _ w35 ⟨a33, c34, rfl, h36⟩
              refine G.yl (yl_assign rfl) rfl rfl rfl ?_
              refine G.nil ?_
              refine QA.then_normal ?_
              refine C.region ?_
              refine G.yl (yl_move rfl) rfl rfl rfl ?_
              refine G.yl (yl_move rfl) rfl rfl rfl ?_
              refine G.yl (yl_slenE Try.underlying9 rfl) rfl rfl rfl ?_
              obtain ⟨hc37, hm⟩ := sp_chk hm
              refine G.yl (yl_addI rfl rfl hc37) rfl rfl rfl ?_
              obtain ⟨hc38, hm⟩ := sp_chk hm
              refine G.yl (yl_addI rfl rfl hc38) rfl rfl rfl ?_
              refine G.yl (yl_assign rfl) rfl rfl rfl ?_
              refine G.nil ?_
              refine QA.block_normal ?_
              obtain rfl := sp_ret1 hm
              exact QA.againO (at__2 + (1 + (r1_2.length : Int)), a33, c34, l ++ [r1_2]) hg10 (Sub.of ⟨rfl, rfl, rfl, rfl, rfl, rfl, trivial⟩) (Sat.pick [0] h36)
            · refine C.cond_t rfl (not_t hc28) ?_
              refine C.seq ?_
              refine C.region ?_
              refine G.yl (yl_assign rfl) rfl rfl rfl ?_
              refine G.yl (yl_assign rfl) rfl rfl rfl ?_
              refine G.yl (yl_assign rfl) rfl rfl rfl ?_
              refine G.nil ?_
              refine QA.then_normal ?_
              refine C.ret ?_
              refine QA.then_ret ?_
              refine QA.block_ret ?_
              refine QA.then_ret ?_
              refine QA.past (by simp) ?_
              refine QA.block_ret ?_
              refine QA.then_ret ?_
              refine QA.ret3 rfl rfl rfl rfl ?_
              obtain rfl := sp_ret1 hm
              obtain rfl : .inr (([] : List UInt8), 0, 10) = o := hg10
              have hm : some (([] : List UInt8), 0, 10) = some (r1, r2, r3) := hm6
              obtain ⟨rfl, rfl, rfl⟩ := sp_ret3 hm
              exact ⟨rfl, (Sat.pick [] h24)⟩
          · refine C.cond_f rfl hc15 ?_
            refine C.exit ?_
            refine QA.then_exit ?_
            refine QA.then_exit ?_
            obtain rfl := sp_ret1 hm
            exact QA.left (at__2, a_2, c_2, l) (Sub.of ⟨rfl, rfl, rfl, rfl, rfl, rfl, trivial⟩) ⟨hg10, (Sat.pick [0] h14)⟩
      · rintro ⟨at__3, a_3, c_3, l_2⟩ w39 ⟨rfl, h40⟩
        have hm := hm6
        show QA _ _ [(0, (.slice a b.length c)), (1, (vI at__3)), (4, (.string (str ([] : List UInt8)))), (5, (vI 0)), (6, (vI 0)), (7, (.slice a_3 l_2.length c_3))] _ _
        refine QA.block_here ?_
        refine QA.then_normal ?_
        refine C.seq ?_
        refine C.region ?_
        refine G.yl (yl_move rfl) rfl rfl rfl ?_
        obtain ⟨hc41, hm⟩ := sp_chk hm
        obtain ⟨hc42, hm⟩ := sp_chk hm
        refine G.does (does_call rfl rfl rfl en89 (join_w (l := l_2) h40 (Sat.own_view h40) (Sat.own_cap h40).1 hc41 hc42)) rfl rfl rfl ?_
        rintro _ w43 ⟨rfl, h44⟩
        refine G.yl (yl_assign rfl) rfl rfl rfl ?_
        refine G.nil ?_
        refine QA.then_normal ?_
        refine C.seq ?_
        refine C.seq ?_
        refine C.region ?_
        refine G.yl (yl_move rfl) rfl rfl rfl ?_
        refine G.yl (yl_move rfl) rfl rfl rfl ?_
        refine G.yl (yl_lenE Try.underlying22 rfl) rfl rfl rfl ?_
        refine G.yl (yl_geI rfl rfl) rfl rfl rfl ?_
        refine G.yl (yl_move rfl) rfl rfl rfl ?_
        rcases sp_ite hm with ⟨hc45, hm⟩ | ⟨hc45, hm⟩
        · refine G.offU rfl rfl (dec_t hc45) rfl ?_
          refine G.offU rfl rfl (dec_t hc45) rfl ?_
          refine G.offU rfl rfl (dec_t hc45) rfl ?_
          refine G.yl (yl_pick_t rfl (dec_t hc45) rfl) rfl rfl rfl ?_
          refine G.nil ?_
          refine QA.then_normal ?_
          refine C.cond_t rfl rfl ?_
          refine C.seq ?_
          refine C.region ?_
          refine G.yl (yl_assign rfl) rfl rfl rfl ?_
          refine G.yl (yl_assign rfl) rfl rfl rfl ?_
          refine G.yl (yl_assign rfl) rfl rfl rfl ?_
          refine G.nil ?_
          refine QA.then_normal ?_
          refine C.ret ?_
          refine QA.then_ret ?_
          refine QA.ret3 rfl rfl rfl rfl ?_
          obtain ⟨rfl, rfl, rfl⟩ := sp_ret3 hm
          exact ⟨rfl, (Sat.pick [] h44)⟩
        · refine G.on rfl rfl (dec_f hc45) ?_
          refine G.yl (yl_move rfl) rfl rfl rfl ?_
          refine G.on rfl rfl (dec_f hc45) ?_
          obtain ⟨r1_4, hy46, hm⟩ := sp_bind hm
          refine G.does (does_fn 0 rfl rfl rfl en48 h44 (fun U hU hp hr hs => M_label_Good_w hp hy46)) rfl rfl rfl ?_
          rintro _ w47 ⟨U50, hb51, rfl, h49⟩
          have h48 : Sat W w47 [ow elStr a_3 c_3 9 l_2] := hb51 h49
          refine G.on rfl rfl (dec_f hc45) ?_
          refine G.yl (yl_not rfl) rfl rfl rfl ?_
          refine G.yl (yl_pick_f rfl (dec_f hc45) rfl) rfl rfl rfl ?_
          refine G.nil ?_
          refine QA.then_normal ?_
          rcases sp_b hm with ⟨hc52, hm⟩ | ⟨hc52, hm⟩
          · refine C.cond_f rfl (not_f hc52) ?_
            refine C.skip ?_
            refine QA.then_normal ?_
            refine C.seq ?_
            refine C.region ?_
            refine G.yl (yl_move rfl) rfl rfl rfl ?_
            refine G.yl (yl_move rfl) rfl rfl rfl ?_
            obtain ⟨hc53, hm⟩ := sp_chk hm
            refine G.yl (yl_addI rfl rfl hc53) rfl rfl rfl ?_
            refine G.yl (yl_assign rfl) rfl rfl rfl ?_
            refine G.yl (yl_assign rfl) rfl rfl rfl ?_
            refine G.yl (yl_assign rfl) rfl rfl rfl ?_
            refine G.nil ?_
            refine QA.then_normal ?_
            refine C.ret ?_
            refine QA.ret3 rfl rfl rfl rfl ?_
            obtain ⟨rfl, rfl, rfl⟩ := sp_ret3 hm
            exact ⟨rfl, (Sat.pick [] h48)⟩
          · refine C.cond_t rfl (not_t hc52) ?_
            refine C.seq ?_
            refine C.region ?_
            refine G.yl (yl_assign rfl) rfl rfl rfl ?_
            refine G.yl (yl_assign rfl) rfl rfl rfl ?_
            refine G.yl (yl_assign rfl) rfl rfl rfl ?_
            refine G.nil ?_
            refine QA.then_normal ?_
            refine C.ret ?_
            refine QA.then_ret ?_
            refine QA.ret3 rfl rfl rfl rfl ?_
            obtain ⟨rfl, rfl, rfl⟩ := sp_ret3 hm
            exact ⟨rfl, (Sat.pick [] h48)⟩
end Go.Proofs.Ytaaahjcldomnbaa
