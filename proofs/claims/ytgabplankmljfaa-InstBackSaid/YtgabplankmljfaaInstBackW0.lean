/-
  That the functions of the program compute what their Lean functions say, part 0. No condition.
-/
import Derived.Test.YtgabplankmljfaaInstBackFct
namespace Go.Proofs.Ytgabplankmljfaa
open Go Go.RowKit
set_option linter.unusedVariables false
set_option linter.unusedSimpArgs false
set_option linter.unnecessarySimpa false
set_option maxRecDepth 20000 in
set_option maxHeartbeats 1000000 in
theorem M_label_parts_w {W : Base} {w : World} {s : List UInt8}  (h : Sat W w [])  (hm : M_label_parts s = some ()) :
    Calls Try.prog 134 #[(.string (str s))] w (Ret fun v w' => ∃ r1 : Nat, v = (.func (.func 156) #[] #[(.pointer (some ⟨r1, 0, none⟩))]) ∧ Sat W w' [blk r1 [(.string (str s))] 9]) := by
  unfold M_label_parts at hm
  refine C.enter (N := 4) Try.func134 rfl Try.ntmps134 rfl ?_
  show C _ _ _ [(0, (.string (str s)))] _ _
  refine C.seq ?_
  refine C.region ?_
  refine G.does (does_box (cs := [(.string (str s))]) h rfl rfl) rfl rfl rfl ?_
  rintro _ w2 ⟨b1, rfl, h3⟩
  refine G.yl (yl_assign rfl) rfl rfl rfl ?_
  refine G.nil ?_
  refine QA.then_normal ?_
  refine C.seq ?_
  refine C.region ?_
  refine G.yl (yl_func rfl rfl) rfl rfl rfl ?_
  refine G.yl (yl_assign rfl) rfl rfl rfl ?_
  refine G.nil ?_
  refine QA.then_normal ?_
  refine C.ret ?_
  refine QA.ret1 rfl rfl ?_
  exact ⟨b1, rfl, (Sat.pick [0] h3)⟩
set_option maxRecDepth 20000 in
set_option maxHeartbeats 1000000 in
theorem M_stringslite_IndexByte_w {W : Base} {w : World} {s : List UInt8} {c : UInt8}  (h : Sat W w [])  (hm : M_stringslite_IndexByte s c = some ()) :
    Calls Try.prog 169 #[(.string (str s)), (v8 c)] w (Ret fun v w' => v = (vI (Lib.indexByte s c)) ∧ Sat W w' []) := by
  unfold M_stringslite_IndexByte at hm
  refine C.enter (N := 8) Try.func169 rfl Try.ntmps169 rfl ?_
  show C _ _ _ [(0, (.string (str s))), (1, (v8 c))] _ _
  refine C.seq ?_
  refine C.region ?_
  refine G.yl (yl_assign rfl) rfl rfl rfl ?_
  refine G.nil ?_
  refine QA.then_normal ?_
  refine C.seq ?_
  refine C.region ?_
  refine G.yl (yl_move rfl) rfl rfl rfl ?_
  refine G.yl (yl_move rfl) rfl rfl rfl ?_
  refine G.yl (yl_ixbS (b := c) rfl rfl rfl Try.func173 ex173) rfl rfl rfl ?_
  refine G.yl (yl_assign rfl) rfl rfl rfl ?_
  refine G.nil ?_
  refine QA.then_normal ?_
  refine C.ret ?_
  refine QA.ret1 rfl rfl ?_
  exact ⟨rfl, (Sat.pick [] h)⟩
set_option maxRecDepth 20000 in
set_option maxHeartbeats 1000000 in
theorem M_stringslite_Index_w {W : Base} {w : World} {s : List UInt8}  (h : Sat W w []) {r1 : Int} (hm : M_stringslite_Index s = some r1) :
    Calls Try.prog 168 #[(.string (str s)), (.string (str ([46] : List UInt8)))] w (Ret fun v w' => v = (vI r1) ∧ Sat W w' []) := by
  unfold M_stringslite_Index at hm
  refine C.enter (N := 143) Try.func168 rfl Try.ntmps168 rfl ?_
  show C _ _ _ [(0, (.string (str s))), (1, (.string (str ([46] : List UInt8))))] _ _
  refine C.seq ?_
  refine C.region ?_
  refine G.yl (yl_assign rfl) rfl rfl rfl ?_
  refine G.nil ?_
  refine QA.then_normal ?_
  refine C.seq ?_
  refine C.region ?_
  refine G.yl (yl_move rfl) rfl rfl rfl ?_
  refine G.yl (yl_slenE Try.underlying9 rfl) rfl rfl rfl ?_
  refine G.yl (yl_assign rfl) rfl rfl rfl ?_
  refine G.nil ?_
  refine QA.then_normal ?_
  refine C.seq ?_
  refine C.block ?_
  refine C.seq ?_
  refine C.region ?_
  refine G.yl (yl_move rfl) rfl rfl rfl ?_
  refine G.yl (yl_eqI rfl rfl) rfl rfl rfl ?_
  refine G.yl (yl_move rfl) rfl rfl rfl ?_
  refine G.on rfl rfl (by decide) ?_
  refine G.yl (yl_move rfl) rfl rfl rfl ?_
  refine G.on rfl rfl (by decide) ?_
  refine G.yl (yl_move rfl) rfl rfl rfl ?_
  refine G.on rfl rfl (by decide) ?_
  refine G.yl (yl_eqS rfl rfl) rfl rfl rfl ?_
  refine G.yl (yl_pick_f rfl (by decide) rfl) rfl rfl rfl ?_
  refine G.yl (yl_assign rfl) rfl rfl rfl ?_
  refine G.nil ?_
  refine QA.then_normal ?_
  rcases sp_ite hm with ⟨hc1, hm⟩ | ⟨hc1, hm⟩
  · refine C.cond_t rfl (dec_t hc1) ?_
    refine C.seq ?_
    refine C.region ?_
    refine G.yl (yl_assign rfl) rfl rfl rfl ?_
    refine G.nil ?_
    refine QA.then_normal ?_
    refine C.ret ?_
    refine QA.block_ret ?_
    refine QA.then_ret ?_
    refine QA.ret1 rfl rfl ?_
    obtain rfl := sp_ret1 hm
    exact ⟨rfl, (Sat.pick [] h)⟩
  · refine C.cond_f rfl (dec_f hc1) ?_
    refine C.seq ?_
    refine C.region ?_
    refine G.yl (yl_move rfl) rfl rfl rfl ?_
    refine G.yl (yl_eqI rfl rfl) rfl rfl rfl ?_
    refine G.yl (yl_assign rfl) rfl rfl rfl ?_
    refine G.nil ?_
    refine QA.then_normal ?_
    refine C.cond_t rfl (by decide) ?_
    refine C.seq ?_
    refine C.region ?_
    refine G.yl (yl_move rfl) rfl rfl rfl ?_
    refine G.yl (yl_move rfl) rfl rfl rfl ?_
    obtain ⟨c, hy2, hm⟩ := sp_bind hm
    refine G.yl (yl_ixS Try.underlying9 rfl rfl hy2) rfl rfl rfl ?_
    obtain ⟨_, hy3, hm⟩ := sp_bind hm
    refine G.does (does_fn 0 rfl rfl rfl en169 h (fun U hU hp hr hs => M_stringslite_IndexByte_w (s := s) (c := c) hp hy3)) rfl rfl rfl ?_
    rintro _ w4 ⟨U7, hb8, rfl, h6⟩
    have h5 : Sat W w4 [] := hb8 h6
    refine G.yl (yl_assign rfl) rfl rfl rfl ?_
    refine G.nil ?_
    refine QA.then_normal ?_
    refine C.ret ?_
    refine QA.block_ret ?_
    refine QA.then_ret ?_
    refine QA.ret1 rfl rfl ?_
    obtain rfl := sp_ret1 hm
    exact ⟨rfl, (Sat.pick [] h5)⟩
set_option maxRecDepth 20000 in
set_option maxHeartbeats 1000000 in
theorem M_stringslite_Cut_w {W : Base} {w : World} {s : List UInt8}  (h : Sat W w []) {r1 : List UInt8} {r2 : List UInt8} {r3 : Bool} (hm : M_stringslite_Cut s = some (r1, r2, r3)) :
    Calls Try.prog 165 #[(.string (str s)), (.string (str ([46] : List UInt8)))] w (Ret fun v w' => v = (.tuple #[(.string (str r1)), (.string (str r2)), (.bool r3)]) ∧ Sat W w' []) := by
  unfold M_stringslite_Cut at hm
  refine C.enter (N := 23) Try.func165 rfl Try.ntmps165 rfl ?_
  show C _ _ _ [(0, (.string (str s))), (1, (.string (str ([46] : List UInt8))))] _ _
  refine C.seq ?_
  refine C.region ?_
  refine G.yl (yl_assign rfl) rfl rfl rfl ?_
  refine G.yl (yl_assign rfl) rfl rfl rfl ?_
  refine G.yl (yl_assign rfl) rfl rfl rfl ?_
  refine G.nil ?_
  refine QA.then_normal ?_
  refine C.seq ?_
  refine C.seq ?_
  refine C.region ?_
  refine G.yl (yl_move rfl) rfl rfl rfl ?_
  refine G.yl (yl_move rfl) rfl rfl rfl ?_
  obtain ⟨r1_2, hy1, hm⟩ := sp_bind hm
  refine G.does (does_fn 0 rfl rfl rfl en168 h (fun U hU hp hr hs => M_stringslite_Index_w (s := s) hp hy1)) rfl rfl rfl ?_
  rintro _ w2 ⟨U5, hb6, rfl, h4⟩
  have h3 : Sat W w2 [] := hb6 h4
  refine G.yl (yl_assign rfl) rfl rfl rfl ?_
  refine G.nil ?_
  refine QA.then_normal ?_
  refine C.seq ?_
  refine C.region ?_
  refine G.yl (yl_move rfl) rfl rfl rfl ?_
  refine G.yl (yl_geI rfl rfl) rfl rfl rfl ?_
  refine G.nil ?_
  refine QA.then_normal ?_
  rcases sp_ite hm with ⟨hc7, hm⟩ | ⟨hc7, hm⟩
  · refine C.cond_t rfl (dec_t hc7) ?_
    refine C.seq ?_
    refine C.draw (V := fun w' => True) (nd := []) (sp := []) (n := 12) rfl h3 rfl rfl ?_
    intro w8 h9
    have hS10 : Cls (fun w' => True) [] [] #[false, false, false, false, false, false, false, false, false, false, false, false] w8 := Cls.keep (trivial) (by kernel_rfl)
    refine GH.yl (i := 0) (listed' := #[true, false, false, false, false, false, false, false, false, false, false, false]) rfl (by kernel_rfl) rfl (NP.next (NP.next NP.body)) rfl rfl rfl (fun w' => yl_move rfl) hS10 (fun hS11 => ?_)
    refine GH.yl (i := 1) (listed' := #[true, true, false, false, false, false, false, false, false, false, false, false]) rfl (by kernel_rfl) rfl (NP.next (NP.next NP.body)) rfl rfl rfl (fun w' => yl_move rfl) hS11 (fun hS12 => ?_)
    obtain ⟨hc13, hm⟩ := sp_chk hm
    refine GH.yl (i := 2) (listed' := #[true, true, true, false, false, false, false, false, false, false, false, false]) rfl (by kernel_rfl) rfl (NP.next (NP.next NP.body)) rfl rfl rfl (fun w' => yl_slHS Try.underlying9 rfl rfl hc13) hS12 (fun hS14 => ?_)
    refine GH.yl (i := 3) (listed' := #[true, true, true, true, false, false, false, false, false, false, false, false]) rfl (by kernel_rfl) rfl (NP.next (NP.next NP.body)) rfl rfl rfl (fun w' => yl_move rfl) hS14 (fun hS15 => ?_)
    refine GH.yl (i := 4) (listed' := #[true, true, true, true, true, false, false, false, false, false, false, false]) rfl (by kernel_rfl) rfl (NP.next (NP.next NP.body)) rfl rfl rfl (fun w' => yl_move rfl) hS15 (fun hS16 => ?_)
    refine GH.yl (i := 5) (listed' := #[true, true, true, true, true, true, false, false, false, false, false, false]) rfl (by kernel_rfl) rfl (NP.next (NP.next NP.body)) rfl rfl rfl (fun w' => yl_move rfl) hS16 (fun hS17 => ?_)
    refine GH.yl (i := 6) (listed' := #[true, true, true, true, true, true, true, false, false, false, false, false]) rfl (by kernel_rfl) rfl (NP.next (NP.next NP.body)) rfl rfl rfl (fun w' => yl_slenE Try.underlying9 rfl) hS17 (fun hS18 => ?_)
    obtain ⟨hc19, hm⟩ := sp_chk hm
    refine GH.yl (i := 7) (listed' := #[true, true, true, true, true, true, true, true, false, false, false, false]) rfl (by kernel_rfl) rfl (NP.next (NP.next NP.body)) rfl rfl rfl (fun w' => yl_addI rfl rfl hc19) hS18 (fun hS20 => ?_)
    obtain ⟨hc21, hm⟩ := sp_chk hm
    refine GH.yl (i := 8) (listed' := #[true, true, true, true, true, true, true, true, true, false, false, false]) rfl (by kernel_rfl) rfl (NP.next (NP.next NP.body)) rfl rfl rfl (fun w' => yl_slLS Try.underlying9 rfl rfl hc21) hS20 (fun hS22 => ?_)
    refine GH.yl (i := 9) (listed' := #[true, true, true, true, true, true, true, true, true, true, false, false]) rfl (by kernel_rfl) rfl (NP.next (NP.next NP.body)) rfl rfl rfl (fun w' => yl_assign rfl) hS22 (fun hS23 => ?_)
    refine GH.yl (i := 10) (listed' := #[true, true, true, true, true, true, true, true, true, true, true, false]) rfl (by kernel_rfl) rfl (NP.next (NP.next NP.body)) rfl rfl rfl (fun w' => yl_assign rfl) hS23 (fun hS24 => ?_)
    refine GH.yl (i := 11) (listed' := #[true, true, true, true, true, true, true, true, true, true, true, true]) rfl (by kernel_rfl) rfl (NP.next (NP.next NP.body)) rfl rfl rfl (fun w' => yl_assign rfl) hS24 (fun hS25 => ?_)
    refine GH.done (by kernel_rfl) ?_
    refine QA.then_normal ?_
    refine C.ret ?_
    refine QA.then_ret ?_
    refine QA.ret3 rfl rfl rfl rfl ?_
    obtain ⟨rfl, rfl, rfl⟩ := sp_ret3 hm
    exact ⟨rfl, (Sat.pick [] h9)⟩
  · refine C.cond_f rfl (dec_f hc7) ?_
    refine C.skip ?_
    refine QA.then_normal ?_
    refine C.seq ?_
    refine C.region ?_
    refine G.yl (yl_move rfl) rfl rfl rfl ?_
    refine G.yl (yl_assign rfl) rfl rfl rfl ?_
    refine G.yl (yl_assign rfl) rfl rfl rfl ?_
    refine G.yl (yl_assign rfl) rfl rfl rfl ?_
    refine G.nil ?_
    refine QA.then_normal ?_
    refine C.ret ?_
    refine QA.ret3 rfl rfl rfl rfl ?_
    obtain ⟨rfl, rfl, rfl⟩ := sp_ret3 hm
    exact ⟨rfl, (Sat.pick [] h3)⟩
set_option maxRecDepth 20000 in
set_option maxHeartbeats 1000000 in
theorem M_strings_Cut_w {W : Base} {w : World} {s : List UInt8}  (h : Sat W w []) {r1 : List UInt8} {r2 : List UInt8} {r3 : Bool} (hm : M_strings_Cut s = some (r1, r2, r3)) :
    Calls Try.prog 157 #[(.string (str s)), (.string (str ([46] : List UInt8)))] w (Ret fun v w' => v = (.tuple #[(.string (str r1)), (.string (str r2)), (.bool r3)]) ∧ Sat W w' []) := by
  unfold M_strings_Cut at hm
  refine C.enter (N := 13) Try.func157 rfl Try.ntmps157 rfl ?_
  show C _ _ _ [(0, (.string (str s))), (1, (.string (str ([46] : List UInt8))))] _ _
  refine C.seq ?_
  refine C.region ?_
  refine G.yl (yl_assign rfl) rfl rfl rfl ?_
  refine G.yl (yl_assign rfl) rfl rfl rfl ?_
  refine G.yl (yl_assign rfl) rfl rfl rfl ?_
  refine G.nil ?_
  refine QA.then_normal ?_
  refine C.seq ?_
  refine C.region ?_
  refine G.yl (yl_move rfl) rfl rfl rfl ?_
  refine G.yl (yl_move rfl) rfl rfl rfl ?_
  obtain ⟨⟨r1_2, r2_2, r3_2⟩, hy1, hm⟩ := sp_bind hm
  refine G.does (does_fn 0 rfl rfl rfl en165 h (fun U hU hp hr hs => M_stringslite_Cut_w (s := s) hp hy1)) rfl rfl rfl ?_
  rintro _ w2 ⟨U5, hb6, rfl, h4⟩
  have h3 : Sat W w2 [] := hb6 h4
  refine G.yl (yl_extract rfl rfl) rfl rfl rfl ?_
  refine G.yl (yl_extract rfl rfl) rfl rfl rfl ?_
  refine G.yl (yl_extract rfl rfl) rfl rfl rfl ?_
  refine G.yl (yl_assign rfl) rfl rfl rfl ?_
  refine G.yl (yl_assign rfl) rfl rfl rfl ?_
  refine G.yl (yl_assign rfl) rfl rfl rfl ?_
  refine G.nil ?_
  refine QA.then_normal ?_
  refine C.ret ?_
  refine QA.ret3 rfl rfl rfl rfl ?_
  obtain ⟨rfl, rfl, rfl⟩ := sp_ret3 hm
  exact ⟨rfl, (Sat.pick [] h3)⟩
set_option maxRecDepth 20000 in
set_option maxHeartbeats 1000000 in
theorem M_label_parts_1_p_it {W : Base} {w : World} {b : Nat} {x : List UInt8}  :
    IterOk Try.prog 156 [(.pointer (some ⟨b, 0, none⟩))] (fun (x : List UInt8) => [(.string (str x))]) (@fun σ_ ρ_ f_ z_ => M_label_parts_1_p f_ x z_) [blk b [(.string (str x))] 9] W w := by
  intro σ_ ρ_ f_ z_ o_ B_ X_ l_ hm hyld_ u_ hch_ h
  change M_label_parts_1_p f_ x z_ = some o_ at hm
  replace h : Sat W u_ [blk b [(.string (str x))] 9, B_ z_] := h
  unfold M_label_parts_1_p at hm
  refine C.enter (N := 21) Try.func156 rfl Try.ntmps156 rfl ?_
  show C _ _ _ [(0, (.func (.yield l_) #[] #[])), (1, (.pointer (some ⟨b, 0, none⟩)))] _ _
  refine C.block ?_
  obtain ⟨o, ho1, hm2⟩ := sp_bind hm
  refine C.loopO (γ := σ_ × List UInt8) (fun g => match g with | (z, t1) => [(0, (.func (.yield l_) #[] #[])), (1, (.pointer (some ⟨b, 0, none⟩)))]) (fun g ww => match g with | (z, t1) => Sat W ww [B_ z, blk b [(.string (str t1))] 9]) (fun g => match g with | (z, t1) => (z, t1)) (z_, x) ho1 (Sub.of ⟨rfl, rfl, trivial⟩) (Sat.pick [1, 0] h) ?_
  rintro ⟨z, t1⟩ k5 w3 y_ h4 hm hg6
  show C _ _ _ [(0, (.func (.yield l_) #[] #[])), (1, (.pointer (some ⟨b, 0, none⟩)))] _ _
  change M_label_parts_1_p_b1 f_ z t1 = some y_ at hm
  unfold M_label_parts_1_p_b1 at hm
  refine C.block ?_
  refine C.seq ?_
  refine C.region ?_
  refine G.yl (yl_load (v := (.string (str t1))) ag9 rfl (View.at0 (j := 0) (Sat.pick [1] h4).isBlk.view0 rfl)) rfl rfl rfl ?_
  obtain ⟨⟨r1, r2, r3⟩, hy7, hm⟩ := sp_bind hm
  refine G.does (does_fn 0 rfl rfl rfl en157 h4 (fun U hU hp hr hs => M_strings_Cut_w (s := t1) hp hy7)) rfl rfl rfl ?_
  rintro _ w8 ⟨U11, hb12, rfl, h10⟩
  have h9 : Sat W w8 [B_ z, blk b [(.string (str t1))] 9] := hb12 h10
  refine G.yl (yl_move rfl) rfl rfl rfl ?_
  refine G.yl (yl_extract rfl rfl) rfl rfl rfl ?_
  refine G.yl (yl_extract rfl rfl) rfl rfl rfl ?_
  refine G.yl (yl_extract rfl rfl) rfl rfl rfl ?_
  refine G.yl (yl_assign rfl) rfl rfl rfl ?_
  refine G.yl (yl_assign rfl) rfl rfl rfl ?_
  refine G.yl (yl_assign rfl) rfl rfl rfl ?_
  refine G.nil ?_
  refine QA.then_normal ?_
  refine C.seq ?_
  refine C.seq ?_
  refine C.region ?_
  refine G.yl (yl_move rfl) rfl rfl rfl ?_
  refine G.yl (yl_move rfl) rfl rfl rfl ?_
  obtain ⟨y__2, hy13, hm⟩ := sp_bind hm
  rcases y__2 with z_2 | x_2
  · refine G.yield_go hyld_ rfl rfl hy13 h9 rfl rfl (fun w14 h15 => ?_)
    refine G.yl (yl_not rfl) rfl rfl rfl ?_
    refine G.yl (yl_move rfl) rfl rfl rfl ?_
    refine G.on rfl rfl (not_f rfl) ?_
    refine G.yl (yl_move rfl) rfl rfl rfl ?_
    refine G.on rfl rfl (not_f rfl) ?_
    refine G.yl (yl_not rfl) rfl rfl rfl ?_
    refine G.yl (yl_pick_f rfl (not_f rfl) rfl) rfl rfl rfl ?_
    refine G.nil ?_
    refine QA.then_normal ?_
    rcases sp_b hm with ⟨hc16, hm⟩ | ⟨hc16, hm⟩
    · refine C.cond_f rfl (not_f hc16) ?_
      refine C.skip ?_
      refine QA.then_normal ?_
      refine C.region ?_
      refine G.yl (yl_move rfl) rfl rfl rfl ?_
      refine G.unit (does_store (vs := [(.string (str r2))]) (Sat.pick [1, 0] h15) sz9 rfl rfl rfl rfl (List.forall_mem_cons.2 ⟨rfl, (fun _ hh => by cases hh)⟩) (Nat.le_of_ble_eq_true rfl)) rfl rfl ?_
      rintro _ w17 h19
      have h18 : Sat W w17 [blk b [(.string (str r2))] 9, B_ z_2] := h19
      refine G.nil ?_
      refine QA.block_normal ?_
      obtain rfl := sp_ret1 hm
      exact QA.againO (z_2, r2) hg6 (Sub.of ⟨rfl, rfl, trivial⟩) (Sat.pick [1, 0] h18)
    · refine C.cond_t rfl (not_t hc16) ?_
      refine C.ret ?_
      refine QA.then_ret ?_
      refine QA.block_ret ?_
      refine QA.then_ret ?_
      refine QA.block_ret ?_
      refine QA.ret0 rfl ?_
      obtain rfl := sp_ret1 hm
      obtain rfl : (.inl z_2) = o := hg6
      have hm : some (.inl z_2) = some o_ := hm2
      obtain rfl := sp_ret1 hm
      exact .inl ⟨_, rfl, Sat.one h15⟩
  · refine G.yield_stop hyld_ rfl rfl hy13 h9 rfl rfl (fun w20 h21 => ?_)
    refine G.yl (yl_not rfl) rfl rfl rfl ?_
    refine G.yl (yl_move rfl) rfl rfl rfl ?_
    refine G.offU rfl rfl (not_t rfl) rfl ?_
    refine G.offU rfl rfl (not_t rfl) rfl ?_
    refine G.yl (yl_pick_t rfl (not_t rfl) rfl) rfl rfl rfl ?_
    refine G.nil ?_
    refine QA.then_normal ?_
    refine C.cond_t rfl rfl ?_
    refine C.ret ?_
    refine QA.then_ret ?_
    refine QA.block_ret ?_
    refine QA.then_ret ?_
    refine QA.block_ret ?_
    refine QA.ret0 rfl ?_
    obtain rfl := sp_ret1 hm
    obtain rfl : (.inr x_2) = o := hg6
    have hm : some (.inr x_2) = some o_ := hm2
    obtain rfl := sp_ret1 hm
    exact .inr ⟨_, rfl, Sat.one h21⟩
set_option maxRecDepth 20000 in
set_option maxHeartbeats 1000000 in
theorem M_label_plain_w {W : Base} {w : World} {c : UInt8}  (h : Sat W w []) {r1 : Bool} (hm : M_label_plain c = some r1) :
    Calls Try.prog 158 #[(v8 c)] w (Ret fun v w' => v = (.bool r1) ∧ Sat W w' []) := by
  unfold M_label_plain at hm
  refine C.enter (N := 30) Try.func158 rfl Try.ntmps158 rfl ?_
  show C _ _ _ [(0, (v8 c))] _ _
  refine C.seq ?_
  refine C.region ?_
  refine G.yl (yl_assign rfl) rfl rfl rfl ?_
  refine G.nil ?_
  refine QA.then_normal ?_
  refine C.seq ?_
  refine C.block ?_
  refine C.seq ?_
  refine C.block ?_
  refine C.block ?_
  refine C.block ?_
  refine C.seq ?_
  refine C.join (γ := Unit) (fun g => match g with | () => [(0, (v8 c)), (2, (.bool false))]) (fun g ww => match g with | () => (M_label_plain_k1 c = some r1) ∧ Sat W ww []) ?_ ?_
  · refine C.seq ?_
    refine C.region ?_
    refine G.yl (yl_move rfl) rfl rfl rfl ?_
    refine G.yl (yl_ge8 (b := 97) rfl rfl) rfl rfl rfl ?_
    refine G.yl (yl_move rfl) rfl rfl rfl ?_
    rcases sp_ite hm with ⟨hc1, hm⟩ | ⟨hc1, hm⟩
    · refine G.on rfl rfl (dec_t hc1) ?_
      refine G.yl (yl_move rfl) rfl rfl rfl ?_
      refine G.on rfl rfl (dec_t hc1) ?_
      refine G.yl (yl_le8 (b := 122) rfl rfl) rfl rfl rfl ?_
      refine G.yl (yl_pick_t rfl (dec_t hc1) rfl) rfl rfl rfl ?_
      refine G.yl (yl_assign rfl) rfl rfl rfl ?_
      refine G.nil ?_
      refine QA.then_normal ?_
      rcases sp_ite hm with ⟨hc2, hm⟩ | ⟨hc2, hm⟩
      · refine C.cond_t rfl (dec_t hc2) ?_
        refine C.exit ?_
        refine QA.then_exit ?_
        refine QA.then_exit ?_
        refine QA.block_here ?_
        refine QA.block_normal ?_
        refine QA.block_normal ?_
        refine QA.then_normal ?_
        refine C.seq ?_
        refine C.seq ?_
        refine C.region ?_
        refine G.yl (yl_assign rfl) rfl rfl rfl ?_
        refine G.nil ?_
        refine QA.then_normal ?_
        refine C.ret ?_
        refine QA.then_ret ?_
        refine QA.block_ret ?_
        refine QA.then_ret ?_
        refine QA.ret1 rfl rfl ?_
        obtain rfl := sp_ret1 hm
        exact ⟨rfl, (Sat.pick [] h)⟩
      · refine C.cond_f rfl (dec_f hc2) ?_
        refine C.skip ?_
        exact QA.join () (Sub.of ⟨rfl, rfl, trivial⟩) ⟨hm, (Sat.pick [] h)⟩
    · refine G.offU rfl rfl (dec_f hc1) rfl ?_
      refine G.offU rfl rfl (dec_f hc1) rfl ?_
      refine G.yl (yl_pick_f rfl (dec_f hc1) rfl) rfl rfl rfl ?_
      refine G.yl (yl_assign rfl) rfl rfl rfl ?_
      refine G.nil ?_
      refine QA.then_normal ?_
      refine C.cond_f rfl rfl ?_
      refine C.skip ?_
      exact QA.join () (Sub.of ⟨rfl, rfl, trivial⟩) ⟨hm, (Sat.pick [] h)⟩
  · rintro _ w3 ⟨hm, h4⟩
    show C _ _ _ [(0, (v8 c)), (2, (.bool false))] _ _
    unfold M_label_plain_k1 at hm
    refine C.join (γ := Unit) (fun g => match g with | () => [(0, (v8 c)), (2, (.bool false))]) (fun g ww => match g with | () => (M_label_plain_k2 c = some r1) ∧ Sat W ww []) ?_ ?_
    · refine C.seq ?_
      refine C.region ?_
      refine G.yl (yl_move rfl) rfl rfl rfl ?_
      refine G.yl (yl_ge8 (b := 65) rfl rfl) rfl rfl rfl ?_
      refine G.yl (yl_move rfl) rfl rfl rfl ?_
      rcases sp_ite hm with ⟨hc5, hm⟩ | ⟨hc5, hm⟩
      · refine G.on rfl rfl (dec_t hc5) ?_
        refine G.yl (yl_move rfl) rfl rfl rfl ?_
        refine G.on rfl rfl (dec_t hc5) ?_
        refine G.yl (yl_le8 (b := 90) rfl rfl) rfl rfl rfl ?_
        refine G.yl (yl_pick_t rfl (dec_t hc5) rfl) rfl rfl rfl ?_
        refine G.yl (yl_assign rfl) rfl rfl rfl ?_
        refine G.nil ?_
        refine QA.then_normal ?_
        rcases sp_ite hm with ⟨hc6, hm⟩ | ⟨hc6, hm⟩
        · refine C.cond_t rfl (dec_t hc6) ?_
          refine C.exit ?_
          refine QA.then_exit ?_
          refine QA.then_exit ?_
          refine QA.block_other rfl ?_
          refine QA.block_here ?_
          refine QA.block_normal ?_
          refine QA.then_normal ?_
          refine C.seq ?_
          refine C.seq ?_
          refine C.region ?_
          refine G.yl (yl_assign rfl) rfl rfl rfl ?_
          refine G.nil ?_
          refine QA.then_normal ?_
          refine C.ret ?_
          refine QA.then_ret ?_
          refine QA.block_ret ?_
          refine QA.then_ret ?_
          refine QA.ret1 rfl rfl ?_
          obtain rfl := sp_ret1 hm
          exact ⟨rfl, (Sat.pick [] h4)⟩
        · refine C.cond_f rfl (dec_f hc6) ?_
          refine C.skip ?_
          exact QA.join () (Sub.of ⟨rfl, rfl, trivial⟩) ⟨hm, (Sat.pick [] h4)⟩
      · refine G.offU rfl rfl (dec_f hc5) rfl ?_
        refine G.offU rfl rfl (dec_f hc5) rfl ?_
        refine G.yl (yl_pick_f rfl (dec_f hc5) rfl) rfl rfl rfl ?_
        refine G.yl (yl_assign rfl) rfl rfl rfl ?_
        refine G.nil ?_
        refine QA.then_normal ?_
        refine C.cond_f rfl rfl ?_
        refine C.skip ?_
        exact QA.join () (Sub.of ⟨rfl, rfl, trivial⟩) ⟨hm, (Sat.pick [] h4)⟩
    · rintro _ w7 ⟨hm, h8⟩
      show C _ _ _ [(0, (v8 c)), (2, (.bool false))] _ _
      unfold M_label_plain_k2 at hm
      refine C.seq ?_
      refine C.region ?_
      refine G.yl (yl_move rfl) rfl rfl rfl ?_
      refine G.yl (yl_ge8 (b := 48) rfl rfl) rfl rfl rfl ?_
      refine G.yl (yl_move rfl) rfl rfl rfl ?_
      rcases sp_ite hm with ⟨hc9, hm⟩ | ⟨hc9, hm⟩
      · refine G.on rfl rfl (dec_t hc9) ?_
        refine G.yl (yl_move rfl) rfl rfl rfl ?_
        refine G.on rfl rfl (dec_t hc9) ?_
        refine G.yl (yl_le8 (b := 57) rfl rfl) rfl rfl rfl ?_
        refine G.yl (yl_pick_t rfl (dec_t hc9) rfl) rfl rfl rfl ?_
        refine G.yl (yl_assign rfl) rfl rfl rfl ?_
        refine G.nil ?_
        refine QA.then_normal ?_
        rcases sp_ite hm with ⟨hc10, hm⟩ | ⟨hc10, hm⟩
        · refine C.cond_t rfl (dec_t hc10) ?_
          refine C.exit ?_
          refine QA.then_exit ?_
          refine QA.block_other rfl ?_
          refine QA.block_other rfl ?_
          refine QA.block_here ?_
          refine QA.then_normal ?_
          refine C.seq ?_
          refine C.seq ?_
          refine C.region ?_
          refine G.yl (yl_assign rfl) rfl rfl rfl ?_
          refine G.nil ?_
          refine QA.then_normal ?_
          refine C.ret ?_
          refine QA.then_ret ?_
          refine QA.block_ret ?_
          refine QA.then_ret ?_
          refine QA.ret1 rfl rfl ?_
          obtain rfl := sp_ret1 hm
          exact ⟨rfl, (Sat.pick [] h8)⟩
        · refine C.cond_f rfl (dec_f hc10) ?_
          refine C.skip ?_
          refine QA.then_normal ?_
          refine C.exit ?_
          refine QA.block_other rfl ?_
          refine QA.block_other rfl ?_
          refine QA.block_other rfl ?_
          refine QA.then_exit ?_
          refine QA.block_here ?_
          refine QA.then_normal ?_
          refine C.seq ?_
          refine C.region ?_
          refine G.yl (yl_move rfl) rfl rfl rfl ?_
          refine G.yl (yl_eq8 (b := 45) rfl rfl) rfl rfl rfl ?_
          refine G.yl (yl_move rfl) rfl rfl rfl ?_
          rcases sp_ite hm with ⟨hc11, hm⟩ | ⟨hc11, hm⟩
          · refine G.offU rfl rfl (dec_t hc11) rfl ?_
            refine G.offU rfl rfl (dec_t hc11) rfl ?_
            refine G.yl (yl_pick_t rfl (dec_t hc11) rfl) rfl rfl rfl ?_
            refine G.yl (yl_assign rfl) rfl rfl rfl ?_
            refine G.nil ?_
            refine QA.then_normal ?_
            refine C.ret ?_
            refine QA.ret1 rfl rfl ?_
            obtain rfl := sp_ret1 hm
            exact ⟨rfl, (Sat.pick [] h8)⟩
          · refine G.on rfl rfl (dec_f hc11) ?_
            refine G.yl (yl_move rfl) rfl rfl rfl ?_
            refine G.on rfl rfl (dec_f hc11) ?_
            refine G.yl (yl_eq8 (b := 95) rfl rfl) rfl rfl rfl ?_
            refine G.yl (yl_pick_f rfl (dec_f hc11) rfl) rfl rfl rfl ?_
            refine G.yl (yl_assign rfl) rfl rfl rfl ?_
            refine G.nil ?_
            refine QA.then_normal ?_
            refine C.ret ?_
            refine QA.ret1 rfl rfl ?_
            obtain rfl := sp_ret1 hm
            exact ⟨rfl, (Sat.pick [] h8)⟩
      · refine G.offU rfl rfl (dec_f hc9) rfl ?_
        refine G.offU rfl rfl (dec_f hc9) rfl ?_
        refine G.yl (yl_pick_f rfl (dec_f hc9) rfl) rfl rfl rfl ?_
        refine G.yl (yl_assign rfl) rfl rfl rfl ?_
        refine G.nil ?_
        refine QA.then_normal ?_
        refine C.cond_f rfl rfl ?_
        refine C.skip ?_
        refine QA.then_normal ?_
        refine C.exit ?_
        refine QA.block_other rfl ?_
        refine QA.block_other rfl ?_
        refine QA.block_other rfl ?_
        refine QA.then_exit ?_
        refine QA.block_here ?_
        refine QA.then_normal ?_
        refine C.seq ?_
        refine C.region ?_
        refine G.yl (yl_move rfl) rfl rfl rfl ?_
        refine G.yl (yl_eq8 (b := 45) rfl rfl) rfl rfl rfl ?_
        refine G.yl (yl_move rfl) rfl rfl rfl ?_
        rcases sp_ite hm with ⟨hc12, hm⟩ | ⟨hc12, hm⟩
        · refine G.offU rfl rfl (dec_t hc12) rfl ?_
          refine G.offU rfl rfl (dec_t hc12) rfl ?_
          refine G.yl (yl_pick_t rfl (dec_t hc12) rfl) rfl rfl rfl ?_
          refine G.yl (yl_assign rfl) rfl rfl rfl ?_
          refine G.nil ?_
          refine QA.then_normal ?_
          refine C.ret ?_
          refine QA.ret1 rfl rfl ?_
          obtain rfl := sp_ret1 hm
          exact ⟨rfl, (Sat.pick [] h8)⟩
        · refine G.on rfl rfl (dec_f hc12) ?_
          refine G.yl (yl_move rfl) rfl rfl rfl ?_
          refine G.on rfl rfl (dec_f hc12) ?_
          refine G.yl (yl_eq8 (b := 95) rfl rfl) rfl rfl rfl ?_
          refine G.yl (yl_pick_f rfl (dec_f hc12) rfl) rfl rfl rfl ?_
          refine G.yl (yl_assign rfl) rfl rfl rfl ?_
          refine G.nil ?_
          refine QA.then_normal ?_
          refine C.ret ?_
          refine QA.ret1 rfl rfl ?_
          obtain rfl := sp_ret1 hm
          exact ⟨rfl, (Sat.pick [] h8)⟩
set_option maxRecDepth 20000 in
set_option maxHeartbeats 1000000 in
theorem M_label_Part_w {W : Base} {w : World} {s : List UInt8}  (h : Sat W w []) {r1 : Bool} (hm : M_label_Part s = some r1) :
    Calls Try.prog 135 #[(.string (str s))] w (Ret fun v w' => v = (.bool r1) ∧ Sat W w' []) := by
  unfold M_label_Part at hm
  refine C.enter (N := 37) Try.func135 rfl Try.ntmps135 rfl ?_
  show C _ _ _ [(0, (.string (str s)))] _ _
  refine C.seq ?_
  refine C.region ?_
  refine G.yl (yl_assign rfl) rfl rfl rfl ?_
  refine G.nil ?_
  refine QA.then_normal ?_
  refine C.seq ?_
  refine C.join (γ := Bool) (fun g => match g with | t25 => [(0, (.string (str s))), (2, (.bool false)), (25, (.bool t25))]) (fun g ww => match g with | t25 => (M_label_Part_k1 s t25 = some r1) ∧ Sat W ww []) ?_ ?_
  · refine C.region ?_
    refine G.yl (yl_move rfl) rfl rfl rfl ?_
    refine G.yl (yl_slenE Try.underlying9 rfl) rfl rfl rfl ?_
    refine G.yl (yl_ltI rfl rfl) rfl rfl rfl ?_
    refine G.yl (yl_move rfl) rfl rfl rfl ?_
    rcases sp_ite hm with ⟨hc1, hm⟩ | ⟨hc1, hm⟩
    · refine G.offU rfl rfl (dec_t hc1) rfl ?_
      refine G.offU rfl rfl (dec_t hc1) rfl ?_
      refine G.offU rfl rfl (dec_t hc1) rfl ?_
      refine G.yl (yl_pick_t rfl (dec_t hc1) rfl) rfl rfl rfl ?_
      refine G.yl (yl_move rfl) rfl rfl rfl ?_
      refine G.offU rfl rfl rfl rfl ?_
      refine G.offU rfl rfl rfl rfl ?_
      refine G.offU rfl rfl rfl rfl ?_
      refine G.yl (yl_pick_t rfl rfl rfl) rfl rfl rfl ?_
      refine G.yl (yl_move rfl) rfl rfl rfl ?_
      refine G.offU rfl rfl rfl rfl ?_
      refine G.offU rfl rfl rfl rfl ?_
      refine G.offU rfl rfl rfl rfl ?_
      refine G.offU rfl rfl rfl rfl ?_
      refine G.offU rfl rfl rfl rfl ?_
      refine G.offU rfl rfl rfl rfl ?_
      refine G.yl (yl_pick_t rfl rfl rfl) rfl rfl rfl ?_
      refine G.nil ?_
      exact QA.join true (Sub.of ⟨rfl, rfl, rfl, trivial⟩) ⟨hm, (Sat.pick [] h)⟩
    · refine G.on rfl rfl (dec_f hc1) ?_
      refine G.yl (yl_move rfl) rfl rfl rfl ?_
      refine G.on rfl rfl (dec_f hc1) ?_
      refine G.yl (yl_slenE Try.underlying9 rfl) rfl rfl rfl ?_
      refine G.on rfl rfl (dec_f hc1) ?_
      refine G.yl (yl_gtI rfl rfl) rfl rfl rfl ?_
      refine G.yl (yl_pick_f rfl (dec_f hc1) rfl) rfl rfl rfl ?_
      refine G.yl (yl_move rfl) rfl rfl rfl ?_
      rcases sp_ite hm with ⟨hc2, hm⟩ | ⟨hc2, hm⟩
      · refine G.offU rfl rfl (dec_t hc2) rfl ?_
        refine G.offU rfl rfl (dec_t hc2) rfl ?_
        refine G.offU rfl rfl (dec_t hc2) rfl ?_
        refine G.yl (yl_pick_t rfl (dec_t hc2) rfl) rfl rfl rfl ?_
        refine G.yl (yl_move rfl) rfl rfl rfl ?_
        refine G.offU rfl rfl rfl rfl ?_
        refine G.offU rfl rfl rfl rfl ?_
        refine G.offU rfl rfl rfl rfl ?_
        refine G.offU rfl rfl rfl rfl ?_
        refine G.offU rfl rfl rfl rfl ?_
        refine G.offU rfl rfl rfl rfl ?_
        refine G.yl (yl_pick_t rfl rfl rfl) rfl rfl rfl ?_
        refine G.nil ?_
        exact QA.join true (Sub.of ⟨rfl, rfl, rfl, trivial⟩) ⟨hm, (Sat.pick [] h)⟩
      · refine G.on rfl rfl (dec_f hc2) ?_
        refine G.yl (yl_move rfl) rfl rfl rfl ?_
        refine G.on rfl rfl (dec_f hc2) ?_
        obtain ⟨c, hy3, hm⟩ := sp_bind hm
        refine G.yl (yl_ixS Try.underlying9 rfl rfl hy3) rfl rfl rfl ?_
        refine G.on rfl rfl (dec_f hc2) ?_
        refine G.yl (yl_eq8 (b := 45) rfl rfl) rfl rfl rfl ?_
        refine G.yl (yl_pick_f rfl (dec_f hc2) rfl) rfl rfl rfl ?_
        refine G.yl (yl_move rfl) rfl rfl rfl ?_
        rcases sp_ite hm with ⟨hc4, hm⟩ | ⟨hc4, hm⟩
        · refine G.offU rfl rfl (dec_t hc4) rfl ?_
          refine G.offU rfl rfl (dec_t hc4) rfl ?_
          refine G.offU rfl rfl (dec_t hc4) rfl ?_
          refine G.offU rfl rfl (dec_t hc4) rfl ?_
          refine G.offU rfl rfl (dec_t hc4) rfl ?_
          refine G.offU rfl rfl (dec_t hc4) rfl ?_
          refine G.yl (yl_pick_t rfl (dec_t hc4) rfl) rfl rfl rfl ?_
          refine G.nil ?_
          exact QA.join true (Sub.of ⟨rfl, rfl, rfl, trivial⟩) ⟨hm, (Sat.pick [] h)⟩
        · refine G.on rfl rfl (dec_f hc4) ?_
          refine G.yl (yl_move rfl) rfl rfl rfl ?_
          refine G.on rfl rfl (dec_f hc4) ?_
          refine G.yl (yl_move rfl) rfl rfl rfl ?_
          refine G.on rfl rfl (dec_f hc4) ?_
          refine G.yl (yl_slenE Try.underlying9 rfl) rfl rfl rfl ?_
          refine G.on rfl rfl (dec_f hc4) ?_
          obtain ⟨hc5, hm⟩ := sp_chk hm
          refine G.yl (yl_subI rfl rfl hc5) rfl rfl rfl ?_
          refine G.on rfl rfl (dec_f hc4) ?_
          obtain ⟨c_2, hy6, hm⟩ := sp_bind hm
          refine G.yl (yl_ixS Try.underlying9 rfl rfl hy6) rfl rfl rfl ?_
          refine G.on rfl rfl (dec_f hc4) ?_
          refine G.yl (yl_eq8 (b := 45) rfl rfl) rfl rfl rfl ?_
          refine G.yl (yl_pick_f rfl (dec_f hc4) rfl) rfl rfl rfl ?_
          refine G.nil ?_
          exact QA.join (decide (c_2 = 45)) (Sub.of ⟨rfl, rfl, rfl, trivial⟩) ⟨hm, (Sat.pick [] h)⟩
  · rintro t25 w7 ⟨hm, h8⟩
    show C _ _ _ [(0, (.string (str s))), (2, (.bool false)), (25, (.bool t25))] _ _
    unfold M_label_Part_k1 at hm
    rcases sp_b hm with ⟨hc9, hm⟩ | ⟨hc9, hm⟩
    · refine C.cond_t rfl hc9 ?_
      refine C.seq ?_
      refine C.region ?_
      refine G.yl (yl_assign rfl) rfl rfl rfl ?_
      refine G.nil ?_
      refine QA.then_normal ?_
      refine C.ret ?_
      refine QA.then_ret ?_
      refine QA.ret1 rfl rfl ?_
      obtain rfl := sp_ret1 hm
      exact ⟨rfl, (Sat.pick [] h8)⟩
    · refine C.cond_f rfl hc9 ?_
      refine C.skip ?_
      refine QA.then_normal ?_
      refine C.seq ?_
      refine C.seq ?_
      refine C.region ?_
      refine G.yl (yl_move rfl) rfl rfl rfl ?_
      obtain ⟨hc10, hm⟩ := sp_chk hm
      refine G.does (does_bytes h8 Try.underlying9 Try.underlying49 Try.underlying5 el5 rfl hc10) rfl rfl rfl ?_
      rintro _ w13 ⟨a11, c12, rfl, h14⟩
      refine G.yl (yl_lenE Try.underlying49 rfl) rfl rfl rfl ?_
      refine G.yl (yl_move rfl) rfl rfl rfl ?_
      refine G.nil ?_
      refine QA.then_normal ?_
      refine C.block ?_
      obtain ⟨o, ho15, hm16⟩ := sp_bind hm
      refine C.left (γ := Unit) (.exit 0) (fun g => match g with | () => [(2, (.bool false))]) (fun g ww => match g with | () => .inl () = o ∧ Sat W ww []) ?_ ?_
      · refine C.loopO (γ := Int) (fun g => match g with | t29 => [(2, (.bool false)), (27, (.slice a11 s.length c12)), (28, (vI (s.length : Int))), (29, (vI t29))]) (fun g ww => match g with | t29 => Sat W ww [ow elU8 a11 c12 5 s]) (fun g => match g with | t29 => t29) 0 ho15 (Sub.of ⟨rfl, rfl, rfl, rfl, trivial⟩) (Sat.pick [0] h14) ?_
        rintro t29 k19 w17 y_ h18 hm hg20
        show C _ _ _ [(2, (.bool false)), (27, (.slice a11 s.length c12)), (28, (vI (s.length : Int))), (29, (vI t29))] _ _
        change M_label_Part_b2 s t29 = some y_ at hm
        unfold M_label_Part_b2 at hm
        refine C.seq ?_
        refine C.region ?_
        refine G.yl (yl_ltI rfl rfl) rfl rfl rfl ?_
        refine G.nil ?_
        refine QA.then_normal ?_
        refine C.seq ?_
        rcases sp_ite hm with ⟨hc21, hm⟩ | ⟨hc21, hm⟩
        · refine C.cond_t rfl (dec_t hc21) ?_
          refine C.skip ?_
          refine QA.then_normal ?_
          refine C.seq ?_
          refine C.block ?_
          refine C.seq ?_
          refine C.region ?_
          obtain ⟨x, hy22, hm⟩ := sp_bind hm
          refine G.yl (yl_ixP (l := s) sl49 rfl rfl (View.isA (E := elU8) (Sat.own_view h18) (by decide) (at?_lt hy22)) rfl (at?_lt hy22)) rfl rfl rfl ?_
          refine G.yl (yl_ld1 (E := elU8) (v := (v8 x)) ag5 rfl (Sat.own_view h18) (at?_some hy22).2 rfl) rfl rfl rfl ?_
          refine G.yl (yl_assign rfl) rfl rfl rfl ?_
          refine G.nil ?_
          refine QA.then_normal ?_
          refine C.seq ?_
          refine C.region ?_
          refine G.yl (yl_move rfl) rfl rfl rfl ?_
          obtain ⟨r1_2, hy23, hm⟩ := sp_bind hm
          refine G.does (does_fn 0 rfl rfl rfl en158 h18 (fun U hU hp hr hs => M_label_plain_w (c := x) hp hy23)) rfl rfl rfl ?_
          rintro _ w24 ⟨U27, hb28, rfl, h26⟩
          have h25 : Sat W w24 [ow elU8 a11 c12 5 s] := hb28 h26
          refine G.yl (yl_not rfl) rfl rfl rfl ?_
          refine G.nil ?_
          refine QA.then_normal ?_
          rcases sp_b hm with ⟨hc29, hm⟩ | ⟨hc29, hm⟩
          · refine C.cond_f rfl (not_f hc29) ?_
            refine C.skip ?_
            refine QA.block_normal ?_
            refine QA.then_normal ?_
            refine C.region ?_
            obtain ⟨hc30, hm⟩ := sp_chk hm
            refine G.yl (yl_addI rfl rfl hc30) rfl rfl rfl ?_
            refine G.yl (yl_move rfl) rfl rfl rfl ?_
            refine G.nil ?_
            obtain rfl := sp_ret1 hm
            exact QA.againO (t29 + 1) hg20 (Sub.of ⟨rfl, rfl, rfl, rfl, trivial⟩) (Sat.pick [0] h25)
          · refine C.cond_t rfl (not_t hc29) ?_
            refine C.seq ?_
            refine C.region ?_
            refine G.yl (yl_assign rfl) rfl rfl rfl ?_
            refine G.nil ?_
            refine QA.then_normal ?_
            refine C.ret ?_
            refine QA.block_ret ?_
            refine QA.then_ret ?_
            refine QA.then_ret ?_
            refine QA.past (by simp) ?_
            refine QA.block_ret ?_
            refine QA.then_ret ?_
            refine QA.ret1 rfl rfl ?_
            obtain rfl := sp_ret1 hm
            obtain rfl : .inr false = o := hg20
            have hm : some false = some r1 := hm16
            obtain rfl := sp_ret1 hm
            exact ⟨rfl, (Sat.pick [] h25)⟩
        · refine C.cond_f rfl (dec_f hc21) ?_
          refine C.exit ?_
          refine QA.then_exit ?_
          refine QA.then_exit ?_
          obtain rfl := sp_ret1 hm
          exact QA.left () (Sub.of ⟨rfl, trivial⟩) ⟨hg20, (Sat.pick [] h18)⟩
      · rintro _ w31 ⟨rfl, h32⟩
        have hm := hm16
        show QA _ _ [(2, (.bool false))] _ _
        refine QA.block_here ?_
        refine QA.then_normal ?_
        refine C.seq ?_
        refine C.region ?_
        refine G.yl (yl_assign rfl) rfl rfl rfl ?_
        refine G.nil ?_
        refine QA.then_normal ?_
        refine C.ret ?_
        refine QA.ret1 rfl rfl ?_
        obtain rfl := sp_ret1 hm
        exact ⟨rfl, (Sat.pick [] h32)⟩
set_option maxRecDepth 20000 in
set_option maxHeartbeats 1000000 in
theorem M_label_Good_w {W : Base} {w : World} {s : List UInt8}  (h : Sat W w []) {r1 : Bool} (hm : M_label_Good s = some r1) :
    Calls Try.prog 92 #[(.string (str s))] w (Ret fun v w' => v = (.bool r1) ∧ Sat W w' []) := by
  unfold M_label_Good at hm
  refine C.enterM (N := 13) Try.func92 rfl Try.ntmps92 rfl ?_
  show C _ _ _ [(0, (.string (str s)))] _ _
  refine C.seq ?_
  refine C.region ?_
  refine G.does (does_alloc (cs := [(.bool false)]) h z4 rfl) rfl rfl rfl ?_
  rintro _ w2 ⟨b1, rfl, h3⟩
  refine G.nil ?_
  refine QA.then_normal ?_
  refine C.seq ?_
  refine C.seq ?_
  refine C.region ?_
  refine G.yl (yl_move rfl) rfl rfl rfl ?_
  refine G.yl (yl_slenE Try.underlying9 rfl) rfl rfl rfl ?_
  refine G.yl (yl_gtI rfl rfl) rfl rfl rfl ?_
  refine G.nil ?_
  refine QA.then_normal ?_
  rcases sp_ite hm with ⟨hc4, hm⟩ | ⟨hc4, hm⟩
  · refine C.cond_t rfl (dec_t hc4) ?_
    refine C.seq ?_
    refine C.region ?_
    refine G.unit (does_store (vs := [(.bool false)]) h3 sz4 rfl rfl rfl rfl (List.forall_mem_cons.2 ⟨rfl, (fun _ hh => by cases hh)⟩) (Nat.le_of_ble_eq_true rfl)) rfl rfl ?_
    rintro _ w5 h7
    have h6 : Sat W w5 [blk b1 [(.bool false)] 4] := h7
    refine G.nil ?_
    refine QA.then_normal ?_
    refine C.ret ?_
    refine QA.then_ret ?_
    refine QA.out (.inl rfl) ?_
    refine QA.ret_c rfl (InCell.one (v := (.bool false)) rfl ag4 (View.at0 (j := 0) h6.isBlk.view0 rfl)) ?_
    obtain rfl := sp_ret1 hm
    exact ⟨rfl, (Sat.pick [] h6)⟩
  · refine C.cond_f rfl (dec_f hc4) ?_
    refine C.skip ?_
    refine QA.then_normal ?_
    refine C.seq ?_
    refine C.seq ?_
    refine C.region ?_
    refine G.yl (yl_move rfl) rfl rfl rfl ?_
    obtain ⟨_, hy8, hm⟩ := sp_bind hm
    refine G.does (does_fn 0 rfl rfl rfl en134 h3 (fun U hU hp hr hs => M_label_parts_w (s := s) hp hy8)) rfl rfl rfl ?_
    rintro _ w10 ⟨U13, hb14, r19, rfl, h12⟩
    have h11 : Sat W w10 [blk r19 [(.string (str s))] 9, blk b1 [(.bool false)] 4] := hb14 h12
    refine G.nil ?_
    refine QA.then_normal ?_
    refine C.block ?_
    obtain ⟨o, ho15, hm16⟩ := sp_bind hm
    refine C.rangeFunc (γ := Unit) (δ := Unit) (σ := Unit) (ρ := Unit) (M := @fun σ_ ρ_ f_ z_ => M_label_parts_1_p f_ s z_) (f := (fun (_ : Unit) x => M_label_Good_r1 x)) (enc := (fun (x : List UInt8) => [(.string (str x))])) (K := [blk r19 [(.string (str s))] 9]) (l := []) (fun g => match g with | () => [blk b1 [(.bool false)] 4]) (fun g => match g with | () => True) (fun g => match g with | () => ()) (fun d => match d with | () => [blk b1 [(.bool false)] 4]) (fun d => match d with | () => True) (fun d => match d with | () => ()) (fun d => match d with | () => .ret) (fun x => [(2, (.pointer (some ⟨b1, 0, none⟩))), (9, (.string (str x))), (3, (.string (str x)))]) () ho15 trivial rfl en156 (Sat.pick [0, 0] h11) (fun V w1 hs hc => M_label_parts_1_p_it (x := s)) (fun _ => rfl) rfl ?_ ?_ ?_ ?_
    · intro rd_ x u_
      refine C.sub (A := [(2, (.pointer (some ⟨b1, 0, none⟩))), (9, (.string (str x)))]) (Sub.of ⟨rfl, rfl, trivial⟩) ?_
      refine C.region ?_
      refine G.yl (yl_assign rfl) rfl rfl rfl ?_
      refine G.nil ?_
      exact fun a_ ha_ => ⟨rfl, ha_.sub (Sub.of ⟨rfl, rfl, rfl, trivial⟩), rfl⟩
    · intro W w1_ hs_
      rintro rd_ _ x y_ u_ R_ _ h_ hm
      replace h_ : Sat W u_ [blk b1 [(.bool false)] 4, R_] := h_
      change M_label_Good_r1 x = some y_ at hm
      unfold M_label_Good_r1 at hm
      refine C.block ?_
      refine C.seq ?_
      refine C.region ?_
      refine G.yl (yl_move rfl) rfl rfl rfl ?_
      obtain ⟨r1_2, hy17, hm⟩ := sp_bind hm
      refine G.does (does_fn 0 rfl rfl rfl en135 h_ (fun U hU hp hr hs => M_label_Part_w (s := x) hp hy17)) rfl rfl rfl ?_
      rintro _ w18 ⟨U21, hb22, rfl, h20⟩
      have h19 : Sat W w18 [blk b1 [(.bool false)] 4, R_] := hb22 h20
      refine G.yl (yl_not rfl) rfl rfl rfl ?_
      refine G.nil ?_
      refine QA.then_normal ?_
      rcases sp_b hm with ⟨hc23, hm⟩ | ⟨hc23, hm⟩
      · refine C.cond_f rfl (not_f hc23) ?_
        refine C.skip ?_
        refine QA.block_normal ?_
        obtain rfl := sp_ret1 hm
        exact fun _ _ => .inl ⟨rfl, (), rfl, trivial, (Sat.pick [0, 0] h19)⟩
      · refine C.cond_t rfl (not_t hc23) ?_
        refine C.seq ?_
        refine C.region ?_
        refine G.unit (does_store (vs := [(.bool false)]) h19 sz4 rfl rfl rfl rfl (List.forall_mem_cons.2 ⟨rfl, (fun _ hh => by cases hh)⟩) (Nat.le_of_ble_eq_true rfl)) rfl rfl ?_
        rintro _ w24 h26
        have h25 : Sat W w24 [blk b1 [(.bool false)] 4, R_] := h26
        refine G.nil ?_
        refine QA.then_normal ?_
        refine C.ret ?_
        refine QA.block_ret ?_
        obtain rfl := sp_ret1 hm
        exact fun _ _ => .inr ⟨(), rfl, trivial, rfl, rfl, (Sat.pick [0, 0] h25)⟩
    · rintro D _ w27 ho29 _ h28
      subst ho29
      have hm := hm16
      replace h28 : Sat W w27 [obj D (.deferred (some [])), blk b1 [(.bool false)] 4] := h28
      refine QA.block_normal ?_
      refine QA.then_normal ?_
      refine C.seq ?_
      refine C.region ?_
      refine G.unit (does_store (vs := [(.bool true)]) (Sat.pick [1, 0] h28) sz4 rfl rfl rfl rfl (List.forall_mem_cons.2 ⟨rfl, (fun _ hh => by cases hh)⟩) (Nat.le_of_ble_eq_true rfl)) rfl rfl ?_
      rintro _ w30 h32
      have h31 : Sat W w30 [blk b1 [(.bool true)] 4, obj D (.deferred (some []))] := h32
      refine G.nil ?_
      refine QA.then_normal ?_
      refine C.ret ?_
      refine QA.outM (.inl rfl) (Sat.obj_at (Sat.pick [1, 0] h31)) ?_
      have h33 := (Sat.obj_put (Sat.pick [1, 0] h31) (.deferred none)).tail
      replace h33 : Sat W (World.putObj w30 D (.deferred none)) [blk b1 [(.bool true)] 4] := h33
      refine QA.out (.inl rfl) ?_
      refine QA.ret_c rfl (InCell.one (v := (.bool true)) rfl ag4 (View.at0 (j := 0) h33.isBlk.view0 rfl)) ?_
      obtain rfl := sp_ret1 hm
      exact ⟨rfl, (Sat.pick [] h33)⟩
    · intro D d_ w2_ hod_ hfx_ hd_
      subst hod_
      have hm := hm16
      replace hd_ : Sat W w2_ [obj D (.deferred (some [])), blk b1 [(.bool false)] 4] := hd_
      show QA _ .ret _ _ _
      refine QA.block_ret ?_
      refine QA.then_ret ?_
      refine QA.outM (.inl rfl) (Sat.obj_at (Sat.pick [0, 0] hd_)) ?_
      have h37 := (Sat.obj_put (Sat.pick [0, 0] hd_) (.deferred none)).tail
      replace h37 : Sat W (World.putObj w2_ D (.deferred none)) [blk b1 [(.bool false)] 4] := h37
      refine QA.out (.inl rfl) ?_
      refine QA.ret_c rfl (InCell.one (v := (.bool false)) rfl ag4 (View.at0 (j := 0) h37.isBlk.view0 rfl)) ?_
      obtain rfl := sp_ret1 hm
      exact ⟨rfl, (Sat.pick [] h37)⟩
set_option maxRecDepth 20000 in
set_option maxHeartbeats 1000000 in
theorem M_label_Fold_w {W : Base} {w : World} {s : List UInt8}  (h : Sat W w []) {r1 : List UInt8} (hm : M_label_Fold s = some r1) :
    Calls Try.prog 93 #[(.string (str s))] w (Ret fun v w' => v = (.string (str r1)) ∧ Sat W w' []) := by
  unfold M_label_Fold at hm
  refine C.enter (N := 29) Try.func93 rfl Try.ntmps93 rfl ?_
  show C _ _ _ [(0, (.string (str s)))] _ _
  refine C.seq ?_
  refine C.region ?_
  refine G.yl (yl_assign rfl) rfl rfl rfl ?_
  refine G.nil ?_
  refine QA.then_normal ?_
  refine C.seq ?_
  refine C.region ?_
  refine G.yl (yl_move rfl) rfl rfl rfl ?_
  obtain ⟨hc1, hm⟩ := sp_chk hm
  refine G.does (does_bytes h Try.underlying9 Try.underlying49 Try.underlying5 el5 rfl hc1) rfl rfl rfl ?_
  rintro _ w4 ⟨a2, c3, rfl, h5⟩
  refine G.yl (yl_assign rfl) rfl rfl rfl ?_
  refine G.nil ?_
  refine QA.then_normal ?_
  refine C.seq ?_
  refine C.seq ?_
  refine C.region ?_
  refine G.yl (yl_move rfl) rfl rfl rfl ?_
  refine G.yl (yl_lenE Try.underlying49 rfl) rfl rfl rfl ?_
  refine G.yl (yl_move rfl) rfl rfl rfl ?_
  refine G.nil ?_
  refine QA.then_normal ?_
  refine C.block ?_
  obtain ⟨o, ho8, hm9⟩ := sp_bind hm
  refine C.left (γ := List UInt8) (.exit 0) (fun g => match g with | b_2 => [(2, (.string (str ([] : List UInt8)))), (3, (.slice a2 s.length c3))]) (fun g ww => match g with | b_2 => b_2 = o ∧ (b_2.length = s.length) ∧ Sat W ww [ow elU8 a2 c3 5 b_2]) ?_ ?_
  · refine C.loopO (γ := List UInt8 × Int) (fun g => match g with | (b, t10) => [(2, (.string (str ([] : List UInt8)))), (3, (.slice a2 s.length c3)), (8, (.slice a2 s.length c3)), (9, (vI (s.length : Int))), (10, (vI t10))]) (fun g ww => match g with | (b, t10) => (b.length = s.length) ∧ Sat W ww [ow elU8 a2 c3 5 b]) (fun g => match g with | (b, t10) => (b, t10)) (s, 0) ho8 (Sub.of ⟨rfl, rfl, rfl, rfl, rfl, trivial⟩) ⟨(by simp [copyL_length]), (Sat.pick [0] h5)⟩ ?_
    rintro ⟨b, t10⟩ k12 w10 y_ ⟨hl6, h11⟩ hm hg13
    show C _ _ _ [(2, (.string (str ([] : List UInt8)))), (3, (.slice a2 s.length c3)), (8, (.slice a2 s.length c3)), (9, (vI (s.length : Int))), (10, (vI t10))] _ _
    change M_label_Fold_b1 s b t10 = some y_ at hm
    unfold M_label_Fold_b1 at hm
    refine C.seq ?_
    refine C.region ?_
    refine G.yl (yl_ltI rfl rfl) rfl rfl rfl ?_
    refine G.nil ?_
    refine QA.then_normal ?_
    refine C.seq ?_
    rcases sp_ite hm with ⟨hc14, hm⟩ | ⟨hc14, hm⟩
    · refine C.cond_t rfl (dec_t hc14) ?_
      refine C.skip ?_
      refine QA.then_normal ?_
      refine C.seq ?_
      refine C.block ?_
      refine C.seq ?_
      refine C.region ?_
      refine G.yl (yl_move rfl) rfl rfl rfl ?_
      obtain ⟨x, hy15, hm⟩ := sp_bind hm
      refine G.yl (yl_ixP (l := b) sl49 rfl rfl (View.isA (E := elU8) (Sat.own_view h11) (by decide) (at?_lt hy15)) (by simp [copyL_length, hl6]) (at?_lt hy15)) rfl rfl rfl ?_
      refine G.yl (yl_ld1 (E := elU8) (v := (v8 x)) ag5 rfl (Sat.own_view h11) (at?_some hy15).2 rfl) rfl rfl rfl ?_
      refine G.yl (yl_assign rfl) rfl rfl rfl ?_
      refine G.yl (yl_assign rfl) rfl rfl rfl ?_
      refine G.nil ?_
      refine QA.then_normal ?_
      refine C.join (γ := Bool) (fun g => match g with | t20 => [(2, (.string (str ([] : List UInt8)))), (3, (.slice a2 s.length c3)), (4, (vI t10)), (5, (v8 x)), (8, (.slice a2 s.length c3)), (9, (vI (s.length : Int))), (10, (vI t10)), (20, (.bool t20))]) (fun g ww => match g with | t20 => (M_label_Fold_k2 b t10 x t20 = some y_) ∧ Sat W ww [ow elU8 a2 c3 5 b]) ?_ ?_
      · refine C.region ?_
        refine G.yl (yl_move rfl) rfl rfl rfl ?_
        refine G.yl (yl_ge8 (b := 65) rfl rfl) rfl rfl rfl ?_
        refine G.yl (yl_move rfl) rfl rfl rfl ?_
        rcases sp_ite hm with ⟨hc16, hm⟩ | ⟨hc16, hm⟩
        · refine G.on rfl rfl (dec_t hc16) ?_
          refine G.yl (yl_move rfl) rfl rfl rfl ?_
          refine G.on rfl rfl (dec_t hc16) ?_
          refine G.yl (yl_le8 (b := 90) rfl rfl) rfl rfl rfl ?_
          refine G.yl (yl_pick_t rfl (dec_t hc16) rfl) rfl rfl rfl ?_
          refine G.nil ?_
          exact QA.join (decide (x ≤ 90)) (Sub.of ⟨rfl, rfl, rfl, rfl, rfl, rfl, rfl, rfl, trivial⟩) ⟨hm, (Sat.pick [0] h11)⟩
        · refine G.offU rfl rfl (dec_f hc16) rfl ?_
          refine G.offU rfl rfl (dec_f hc16) rfl ?_
          refine G.yl (yl_pick_f rfl (dec_f hc16) rfl) rfl rfl rfl ?_
          refine G.nil ?_
          exact QA.join false (Sub.of ⟨rfl, rfl, rfl, rfl, rfl, rfl, rfl, rfl, trivial⟩) ⟨hm, (Sat.pick [0] h11)⟩
      · rintro t20 w17 ⟨hm, h18⟩
        show C _ _ _ [(2, (.string (str ([] : List UInt8)))), (3, (.slice a2 s.length c3)), (4, (vI t10)), (5, (v8 x)), (8, (.slice a2 s.length c3)), (9, (vI (s.length : Int))), (10, (vI t10)), (20, (.bool t20))] _ _
        unfold M_label_Fold_k2 at hm
        rcases sp_b hm with ⟨hc19, hm⟩ | ⟨hc19, hm⟩
        · refine C.cond_t rfl hc19 ?_
          refine C.region ?_
          refine G.yl (yl_move rfl) rfl rfl rfl ?_
          refine G.yl (yl_move rfl) rfl rfl rfl ?_
          refine G.yl (yl_move rfl) rfl rfl rfl ?_
          refine G.yl (yl_or8 (b := 32) rfl rfl) rfl rfl rfl ?_
          obtain ⟨x_2, hy20, hm⟩ := sp_bind hm
          refine G.yl (yl_ixP (l := b) sl49 rfl rfl (View.isA (E := elU8) (Sat.own_view h18) (by decide) (at?_lt hy20)) (by simp [copyL_length, hl6]) (at?_lt hy20)) rfl rfl rfl ?_
          refine G.unit (does_stE (E := elU8) (r := x ||| 32) h18 sz5 rfl rfl (by decide) rfl (List.getElem?_eq_some_iff.1 (at?_some hy20).2).1) rfl rfl ?_
          rintro _ w21 h22
          refine G.nil ?_
          refine QA.block_normal ?_
          refine QA.then_normal ?_
          refine C.region ?_
          obtain ⟨hc23, hm⟩ := sp_chk hm
          refine G.yl (yl_addI rfl rfl hc23) rfl rfl rfl ?_
          refine G.yl (yl_move rfl) rfl rfl rfl ?_
          refine G.nil ?_
          obtain rfl := sp_ret1 hm
          exact QA.againO (b.set t10.toNat (x ||| 32), t10 + 1) hg13 (Sub.of ⟨rfl, (look_eq rfl (by simp [copyL_length, hl6])), (look_eq rfl (by simp [copyL_length, hl6])), rfl, rfl, trivial⟩) ⟨(by simp [copyL_length, hl6]), (Sat.pick [0] h22)⟩
        · refine C.cond_f rfl hc19 ?_
          refine C.skip ?_
          refine QA.block_normal ?_
          refine QA.then_normal ?_
          refine C.region ?_
          obtain ⟨hc24, hm⟩ := sp_chk hm
          refine G.yl (yl_addI rfl rfl hc24) rfl rfl rfl ?_
          refine G.yl (yl_move rfl) rfl rfl rfl ?_
          refine G.nil ?_
          obtain rfl := sp_ret1 hm
          exact QA.againO (b, t10 + 1) hg13 (Sub.of ⟨rfl, (look_eq rfl (by simp [copyL_length, hl6])), (look_eq rfl (by simp [copyL_length, hl6])), rfl, rfl, trivial⟩) ⟨(by simp [copyL_length, hl6]), (Sat.pick [0] h18)⟩
    · refine C.cond_f rfl (dec_f hc14) ?_
      refine C.exit ?_
      refine QA.then_exit ?_
      refine QA.then_exit ?_
      obtain rfl := sp_ret1 hm
      exact QA.left b (Sub.of ⟨rfl, (look_eq rfl (by simp [copyL_length, hl6])), trivial⟩) ⟨hg13, (by simp [copyL_length, hl6]), (Sat.pick [0] h11)⟩
  · rintro b_2 w25 ⟨rfl, hl7, h26⟩
    have hm := hm9
    show QA _ _ [(2, (.string (str ([] : List UInt8)))), (3, (.slice a2 s.length c3))] _ _
    refine QA.block_here ?_
    refine QA.then_normal ?_
    refine C.seq ?_
    refine C.region ?_
    refine G.yl (yl_move rfl) rfl rfl rfl ?_
    refine G.yl (yl_strE (l := b_2) Try.underlying49 Try.underlying5 Try.underlying9 rfl (by simp [copyL_length, hl7]) (Sat.own_view h26)) rfl rfl rfl ?_
    refine G.yl (yl_assign rfl) rfl rfl rfl ?_
    refine G.nil ?_
    refine QA.then_normal ?_
    refine C.ret ?_
    refine QA.ret1 rfl rfl ?_
    obtain rfl := sp_ret1 hm
    exact ⟨rfl, (Sat.pick [] h26)⟩
set_option maxRecDepth 20000 in
set_option maxHeartbeats 1000000 in
theorem M_inst_Good_w {W : Base} {w : World} {i : G_api_Instance}  (h : Sat W w []) {r1 : Bool} (hm : M_inst_Good i = some r1) :
    Calls Try.prog 32 #[(.agg (bytesV (List.ofFn (n := 20) i.Publisher) ++ ([(v64 i.Seq), (v64 i.Born), (v32 i.Life), (.bool i.Gone), (v16 i.Priority), (v16 i.Weight), (v16 i.Port), (.string (str i.Target))] : List Value)).toArray)] w (Ret fun v w' => v = (.bool r1) ∧ Sat W w' []) := by
  unfold M_inst_Good at hm
  refine C.enter (N := 38) Try.func32 rfl Try.ntmps32 rfl ?_
  show C _ _ _ [(0, (.agg (bytesV (List.ofFn (n := 20) i.Publisher) ++ ([(v64 i.Seq), (v64 i.Born), (v32 i.Life), (.bool i.Gone), (v16 i.Priority), (v16 i.Weight), (v16 i.Port), (.string (str i.Target))] : List Value)).toArray))] _ _
  refine C.seq ?_
  refine C.region ?_
  refine G.does (does_box (cs := (bytesV (List.ofFn (n := 20) i.Publisher) ++ ([(v64 i.Seq), (v64 i.Born), (v32 i.Life), (.bool i.Gone), (v16 i.Priority), (v16 i.Weight), (v16 i.Port), (.string (str i.Target))] : List Value))) h rfl rfl) rfl rfl rfl ?_
  rintro _ w2 ⟨b1, rfl, h3⟩
  refine G.yl (yl_assign rfl) rfl rfl rfl ?_
  refine G.nil ?_
  refine QA.then_normal ?_
  refine C.seq ?_
  refine C.join (γ := Bool) (fun g => match g with | t11 => [(1, (.pointer (some ⟨b1, 0, none⟩))), (2, (.bool false)), (11, (.bool t11))]) (fun g ww => match g with | t11 => (M_inst_Good_k1 i t11 = some r1) ∧ Sat W ww [blk b1 (bytesV (List.ofFn (n := 20) i.Publisher) ++ ([(v64 i.Seq), (v64 i.Born), (v32 i.Life), (.bool i.Gone), (v16 i.Priority), (v16 i.Weight), (v16 i.Port), (.string (str i.Target))] : List Value)) 47]) ?_ ?_
  · refine C.region ?_
    refine G.yl (yl_fieldAddr fo47_3 rfl) rfl rfl rfl ?_
    refine G.yl (yl_load (v := (v32 i.Life)) ag44 rfl (View.at_ (j := 2) (View.span_tail h3.isBlk.view0) rfl)) rfl rfl rfl ?_
    refine G.yl (yl_lt32 (b := 1) rfl rfl) rfl rfl rfl ?_
    refine G.yl (yl_move rfl) rfl rfl rfl ?_
    rcases sp_ite hm with ⟨hc4, hm⟩ | ⟨hc4, hm⟩
    · refine G.offU rfl rfl (dec_t hc4) rfl ?_
      refine G.offU rfl rfl (dec_t hc4) rfl ?_
      refine G.offU rfl rfl (dec_t hc4) rfl ?_
      refine G.yl (yl_pick_t rfl (dec_t hc4) rfl) rfl rfl rfl ?_
      refine G.nil ?_
      exact QA.join true (Sub.of ⟨rfl, rfl, rfl, trivial⟩) ⟨hm, (Sat.pick [0] h3)⟩
    · refine G.on rfl rfl (dec_f hc4) ?_
      refine G.yl (yl_fieldAddr fo47_3 rfl) rfl rfl rfl ?_
      refine G.on rfl rfl (dec_f hc4) ?_
      refine G.yl (yl_load (v := (v32 i.Life)) ag44 rfl (View.at_ (j := 2) (View.span_tail h3.isBlk.view0) rfl)) rfl rfl rfl ?_
      refine G.on rfl rfl (dec_f hc4) ?_
      refine G.yl (yl_gt32 (b := 2147483647) rfl rfl) rfl rfl rfl ?_
      refine G.yl (yl_pick_f rfl (dec_f hc4) rfl) rfl rfl rfl ?_
      refine G.nil ?_
      exact QA.join (decide ((2147483647 : UInt32) < i.Life)) (Sub.of ⟨rfl, rfl, rfl, trivial⟩) ⟨hm, (Sat.pick [0] h3)⟩
  · rintro t11 w5 ⟨hm, h6⟩
    show C _ _ _ [(1, (.pointer (some ⟨b1, 0, none⟩))), (2, (.bool false)), (11, (.bool t11))] _ _
    unfold M_inst_Good_k1 at hm
    rcases sp_b hm with ⟨hc7, hm⟩ | ⟨hc7, hm⟩
    · refine C.cond_t rfl hc7 ?_
      refine C.seq ?_
      refine C.region ?_
      refine G.yl (yl_assign rfl) rfl rfl rfl ?_
      refine G.nil ?_
      refine QA.then_normal ?_
      refine C.ret ?_
      refine QA.then_ret ?_
      refine QA.ret1 rfl rfl ?_
      obtain rfl := sp_ret1 hm
      exact ⟨rfl, (Sat.pick [] h6)⟩
    · refine C.cond_f rfl hc7 ?_
      refine C.skip ?_
      refine QA.then_normal ?_
      refine C.seq ?_
      refine C.seq ?_
      refine C.region ?_
      refine G.yl (yl_fieldAddr fo47_4 rfl) rfl rfl rfl ?_
      refine G.yl (yl_load (v := (.bool i.Gone)) ag4 rfl (View.at_ (j := 3) (View.span_tail h6.isBlk.view0) rfl)) rfl rfl rfl ?_
      refine G.nil ?_
      refine QA.then_normal ?_
      rcases sp_b hm with ⟨hc8, hm⟩ | ⟨hc8, hm⟩
      · refine C.cond_t rfl hc8 ?_
        refine C.seq ?_
        refine C.region ?_
        refine G.yl (yl_loadN (vs := (bytesV (List.ofFn (n := 20) i.Publisher) ++ ([(v64 i.Seq), (v64 i.Born), (v32 i.Life), (.bool i.Gone), (v16 i.Priority), (v16 i.Weight), (v16 i.Port), (.string (str i.Target))] : List Value))) ag47 sz47 (by simp [bytesV_length]) rfl (h6.isBlk.view0)) rfl rfl rfl ?_
        refine G.does (does_alloc (cs := (bytesV (List.ofFn (n := 20) (fun _ => 0)) ++ ([(.int .u64 0), (.int .u64 0), (.int .u32 0), (.bool false), (.int .u16 0), (.int .u16 0), (.int .u16 0), (.string (str ([] : List UInt8)))] : List Value))) h6 z47 rfl) rfl rfl rfl ?_
        rintro _ w10 ⟨b9, rfl, h11⟩
        refine G.unit (does_store (vs := (bytesV (List.ofFn (n := 20) i.Publisher) ++ ([(v64 i.Seq), (v64 i.Born), (v32 i.Life), (.bool i.Gone), (v16 i.Priority), (v16 i.Weight), (v16 i.Port), (.string (str i.Target))] : List Value))) h11 sz47 rfl rfl rfl (by simp [bytesV_length]) (List.forall_mem_append.2 ⟨(bytesV_one _), (List.forall_mem_cons.2 ⟨rfl, (List.forall_mem_cons.2 ⟨rfl, (List.forall_mem_cons.2 ⟨rfl, (List.forall_mem_cons.2 ⟨rfl, (List.forall_mem_cons.2 ⟨rfl, (List.forall_mem_cons.2 ⟨rfl, (List.forall_mem_cons.2 ⟨rfl, (List.forall_mem_cons.2 ⟨rfl, (fun _ hh => by cases hh)⟩)⟩)⟩)⟩)⟩)⟩)⟩)⟩)⟩) (by simp [bytesV_length])) rfl rfl ?_
        rintro _ w12 h14
        have h13 : Sat W w12 [blk b9 (bytesV (List.ofFn (n := 20) i.Publisher) ++ ([(v64 i.Seq), (v64 i.Born), (v32 i.Life), (.bool i.Gone), (v16 i.Priority), (v16 i.Weight), (v16 i.Port), (.string (str i.Target))] : List Value)) 47, blk b1 (bytesV (List.ofFn (n := 20) i.Publisher) ++ ([(v64 i.Seq), (v64 i.Born), (v32 i.Life), (.bool i.Gone), (v16 i.Priority), (v16 i.Weight), (v16 i.Port), (.string (str i.Target))] : List Value)) 47] := sl_blk (setN_all _ _ (by simp [bytesV_length])) h14
        refine G.nil ?_
        refine QA.then_normal ?_
        refine C.seq ?_
        refine C.region ?_
        refine G.yl (yl_fieldAddr fo47_5 rfl) rfl rfl rfl ?_
        refine G.unit (does_store (vs := [(.int .u16 0)]) h13 sz45 rfl rfl rfl (by simp [bytesV_length]) (List.forall_mem_cons.2 ⟨rfl, (fun _ hh => by cases hh)⟩) (by simp [bytesV_length])) rfl rfl ?_
        rintro _ w15 h17
        have h16 : Sat W w15 [blk b9 (bytesV (List.ofFn (n := 20) i.Publisher) ++ ([(v64 i.Seq), (v64 i.Born), (v32 i.Life), (.bool i.Gone), (.int .u16 0), (v16 i.Weight), (v16 i.Port), (.string (str i.Target))] : List Value)) 47, blk b1 (bytesV (List.ofFn (n := 20) i.Publisher) ++ ([(v64 i.Seq), (v64 i.Born), (v32 i.Life), (.bool i.Gone), (v16 i.Priority), (v16 i.Weight), (v16 i.Port), (.string (str i.Target))] : List Value)) 47] := sl_blk (by kernel_rfl) h17
        refine G.yl (yl_fieldAddr fo47_6 rfl) rfl rfl rfl ?_
        refine G.unit (does_store (vs := [(.int .u16 0)]) h16 sz45 rfl rfl rfl (by simp [bytesV_length]) (List.forall_mem_cons.2 ⟨rfl, (fun _ hh => by cases hh)⟩) (by simp [bytesV_length])) rfl rfl ?_
        rintro _ w18 h20
        have h19 : Sat W w18 [blk b9 (bytesV (List.ofFn (n := 20) i.Publisher) ++ ([(v64 i.Seq), (v64 i.Born), (v32 i.Life), (.bool i.Gone), (.int .u16 0), (.int .u16 0), (v16 i.Port), (.string (str i.Target))] : List Value)) 47, blk b1 (bytesV (List.ofFn (n := 20) i.Publisher) ++ ([(v64 i.Seq), (v64 i.Born), (v32 i.Life), (.bool i.Gone), (v16 i.Priority), (v16 i.Weight), (v16 i.Port), (.string (str i.Target))] : List Value)) 47] := sl_blk (by kernel_rfl) h20
        refine G.yl (yl_fieldAddr fo47_7 rfl) rfl rfl rfl ?_
        refine G.unit (does_store (vs := [(.int .u16 0)]) h19 sz45 rfl rfl rfl (by simp [bytesV_length]) (List.forall_mem_cons.2 ⟨rfl, (fun _ hh => by cases hh)⟩) (by simp [bytesV_length])) rfl rfl ?_
        rintro _ w21 h23
        have h22 : Sat W w21 [blk b9 (bytesV (List.ofFn (n := 20) i.Publisher) ++ ([(v64 i.Seq), (v64 i.Born), (v32 i.Life), (.bool i.Gone), (.int .u16 0), (.int .u16 0), (.int .u16 0), (.string (str i.Target))] : List Value)) 47, blk b1 (bytesV (List.ofFn (n := 20) i.Publisher) ++ ([(v64 i.Seq), (v64 i.Born), (v32 i.Life), (.bool i.Gone), (v16 i.Priority), (v16 i.Weight), (v16 i.Port), (.string (str i.Target))] : List Value)) 47] := sl_blk (by kernel_rfl) h23
        refine G.yl (yl_fieldAddr fo47_8 rfl) rfl rfl rfl ?_
        refine G.unit (does_store (vs := [(.string (str ([] : List UInt8)))]) h22 sz9 rfl rfl rfl (by simp [bytesV_length]) (List.forall_mem_cons.2 ⟨rfl, (fun _ hh => by cases hh)⟩) (by simp [bytesV_length])) rfl rfl ?_
        rintro _ w24 h26
        have h25 : Sat W w24 [blk b9 (bytesV (List.ofFn (n := 20) i.Publisher) ++ ([(v64 i.Seq), (v64 i.Born), (v32 i.Life), (.bool i.Gone), (.int .u16 0), (.int .u16 0), (.int .u16 0), (.string (str ([] : List UInt8)))] : List Value)) 47, blk b1 (bytesV (List.ofFn (n := 20) i.Publisher) ++ ([(v64 i.Seq), (v64 i.Born), (v32 i.Life), (.bool i.Gone), (v16 i.Priority), (v16 i.Weight), (v16 i.Port), (.string (str i.Target))] : List Value)) 47] := sl_blk (by kernel_rfl) h26
        refine G.nil ?_
        refine QA.then_normal ?_
        refine C.seq ?_
        refine C.region ?_
        refine G.yl (yl_loadN (vs := (bytesV (List.ofFn (n := 20) i.Publisher) ++ ([(v64 i.Seq), (v64 i.Born), (v32 i.Life), (.bool i.Gone), (.int .u16 0), (.int .u16 0), (.int .u16 0), (.string (str ([] : List UInt8)))] : List Value))) ag47 sz47 (by simp [bytesV_length]) rfl (h25.isBlk.view0)) rfl rfl rfl ?_
        refine G.yl (yl_loadN (vs := (bytesV (List.ofFn (n := 20) i.Publisher) ++ ([(v64 i.Seq), (v64 i.Born), (v32 i.Life), (.bool i.Gone), (v16 i.Priority), (v16 i.Weight), (v16 i.Port), (.string (str i.Target))] : List Value))) ag47 sz47 (by simp [bytesV_length]) rfl ((Sat.pick [1] h25).isBlk.view0)) rfl rfl rfl ?_
        obtain ⟨hc27, hm⟩ := sp_chk hm
        refine G.yl (yl_eq_agg (r := decide ((G_api_Instance.mk i.Publisher i.Seq i.Born i.Life i.Gone 0 0 0 ([] : List UInt8)) = i)) (vs := (el_G_api_Instance.f (G_api_Instance.mk i.Publisher i.Seq i.Born i.Life i.Gone 0 0 0 ([] : List UInt8)))) (us := (el_G_api_Instance.f i)) rfl rfl (by rw [decide_eq_true_eq]; exact G_api_Instance_inj) eqT47.1 eqT47.2.1 eqT47.2.2.1 eqT47.2.2.2.1 eqT47.2.2.2.2 (G_api_Instance_fits (G_api_Instance.mk i.Publisher i.Seq i.Born i.Life i.Gone 0 0 0 ([] : List UInt8)) (by first | decide | exact Nat.zero_le _)) (G_api_Instance_fits i hc27)) rfl rfl rfl ?_
        refine G.yl (yl_assign rfl) rfl rfl rfl ?_
        refine G.nil ?_
        refine QA.then_normal ?_
        refine C.ret ?_
        refine QA.then_ret ?_
        refine QA.ret1 rfl rfl ?_
        obtain rfl := sp_ret1 hm
        exact ⟨rfl, (Sat.pick [] h25)⟩
      · refine C.cond_f rfl hc8 ?_
        refine C.skip ?_
        refine QA.then_normal ?_
        refine C.seq ?_
        refine C.draw (V := fun w' => View w' (some ⟨b1, 0, none⟩) (bytesV (List.ofFn (n := 20) i.Publisher) ++ ([(v64 i.Seq), (v64 i.Born), (v32 i.Life), (.bool i.Gone), (v16 i.Priority), (v16 i.Weight), (v16 i.Port), (.string (str i.Target))] : List Value))) (nd := [1, 4, 5, 9, 10, 12, 13, 14]) (sp := []) (n := 17) rfl h6 rfl rfl ?_
        intro w28 h29
        have hS30 : Cls (fun w' => View w' (some ⟨b1, 0, none⟩) (bytesV (List.ofFn (n := 20) i.Publisher) ++ ([(v64 i.Seq), (v64 i.Born), (v32 i.Life), (.bool i.Gone), (v16 i.Priority), (v16 i.Weight), (v16 i.Port), (.string (str i.Target))] : List Value))) [1, 4, 5, 9, 10, 12, 13, 14] [] #[nn, nn, nn, nn, nn, nn, nn, nn, nn, nn, nn, nn, nn, nn, nn, nn, nn] w28 := Cls.keep (h29.isBlk.view0) (by kernel_rfl)
        refine GH.yl (i := 0) (listed' := #[yy, nn, nn, nn, nn, nn, nn, nn, nn, nn, nn, nn, nn, nn, nn, nn, nn]) rfl (by kernel_rfl) rfl (NP.next NP.body) rfl rfl rfl (fun w' => yl_fieldAddr fo47_7 rfl) hS30 (fun hS31 => ?_)
        refine GH.yr (i := 1) (listed' := #[yy, yy, nn, nn, nn, nn, nn, nn, nn, nn, nn, nn, nn, nn, nn, nn, nn]) rfl (by kernel_rfl) rfl rfl (NP.next NP.body) rfl rfl rfl (fun w' hw' => yl_load (v := (v16 i.Port)) ag45 rfl (View.at_ (j := 6) (View.span_tail hw') rfl)) hS31 (fun hS32 => ?_)
        refine GH.yl (i := 2) (listed' := #[yy, yy, yy, nn, nn, nn, nn, nn, nn, nn, nn, nn, nn, nn, nn, nn, nn]) rfl (by kernel_rfl) rfl (NP.next NP.body) rfl rfl rfl (fun w' => yl_ne16 (b := 0) rfl rfl) hS32 (fun hS33 => ?_)
        refine GH.yl (i := 3) (listed' := #[yy, yy, yy, yy, nn, nn, nn, nn, nn, nn, nn, nn, nn, nn, nn, nn, nn]) rfl (by kernel_rfl) rfl (NP.next NP.body) rfl rfl rfl (fun w' => yl_move rfl) hS33 (fun hS34 => ?_)
        rcases sp_ite hm with ⟨hc35, hm⟩ | ⟨hc35, hm⟩
        · refine GH.off (i := 4) (listed' := #[yy, yy, yy, yy, yy, nn, nn, nn, nn, nn, nn, nn, nn, nn, nn, nn, nn]) rfl (by kernel_rfl) rfl (NP.next NP.body) rfl rfl rfl rfl (not_f (dec_t hc35)) hS34 (fun hS36 => ?_)
          refine GH.off (i := 5) (listed' := #[yy, yy, yy, yy, yy, yy, nn, nn, nn, nn, nn, nn, nn, nn, nn, nn, nn]) rfl (by kernel_rfl) rfl (NP.next NP.body) rfl rfl rfl rfl (not_f (dec_t hc35)) hS36 (fun hS37 => ?_)
          refine GH.off (i := 6) (listed' := #[yy, yy, yy, yy, yy, yy, yy, nn, nn, nn, nn, nn, nn, nn, nn, nn, nn]) rfl (by kernel_rfl) rfl (NP.next NP.body) rfl rfl rfl rfl (not_f (dec_t hc35)) hS37 (fun hS38 => ?_)
          refine GH.yl (i := 7) (listed' := #[yy, yy, yy, yy, yy, yy, yy, yy, nn, nn, nn, nn, nn, nn, nn, nn, nn]) rfl (by kernel_rfl) rfl (NP.next NP.body) rfl rfl rfl (fun w' => yl_pick_f rfl (not_f (dec_t hc35)) rfl) hS38 (fun hS39 => ?_)
          refine GH.yl (i := 8) (listed' := #[yy, yy, yy, yy, yy, yy, yy, yy, yy, nn, nn, nn, nn, nn, nn, nn, nn]) rfl (by kernel_rfl) rfl (NP.next NP.body) rfl rfl rfl (fun w' => yl_move rfl) hS39 (fun hS40 => ?_)
          refine GH.off (i := 9) (listed' := #[yy, yy, yy, yy, yy, yy, yy, yy, yy, yy, nn, nn, nn, nn, nn, nn, nn]) rfl (by kernel_rfl) rfl (NP.next NP.body) rfl rfl rfl rfl rfl hS40 (fun hS41 => ?_)
          refine GH.off (i := 10) (listed' := #[yy, yy, yy, yy, yy, yy, yy, yy, yy, yy, yy, nn, nn, nn, nn, nn, nn]) rfl (by kernel_rfl) rfl (NP.next NP.body) rfl rfl rfl rfl rfl hS41 (fun hS42 => ?_)
          refine GH.off (i := 11) (listed' := #[yy, yy, yy, yy, yy, yy, yy, yy, yy, yy, yy, yy, nn, nn, nn, nn, nn]) rfl (by kernel_rfl) rfl (NP.next NP.body) rfl rfl rfl rfl rfl hS42 (fun hS43 => ?_)
          refine GH.off (i := 12) (listed' := #[yy, yy, yy, yy, yy, yy, yy, yy, yy, yy, yy, yy, yy, nn, nn, nn, nn]) rfl (by kernel_rfl) rfl (NP.next NP.body) rfl rfl rfl rfl rfl hS43 (fun hS44 => ?_)
          refine GH.off (i := 13) (listed' := #[yy, yy, yy, yy, yy, yy, yy, yy, yy, yy, yy, yy, yy, yy, nn, nn, nn]) rfl (by kernel_rfl) rfl (NP.next NP.body) rfl rfl rfl rfl rfl hS44 (fun hS45 => ?_)
          refine GH.off (i := 14) (listed' := #[yy, yy, yy, yy, yy, yy, yy, yy, yy, yy, yy, yy, yy, yy, yy, nn, nn]) rfl (by kernel_rfl) rfl (NP.next NP.body) rfl rfl rfl rfl rfl hS45 (fun hS46 => ?_)
          refine GH.yl (i := 15) (listed' := #[yy, yy, yy, yy, yy, yy, yy, yy, yy, yy, yy, yy, yy, yy, yy, yy, nn]) rfl (by kernel_rfl) rfl (NP.next NP.body) rfl rfl rfl (fun w' => yl_pick_f rfl rfl rfl) hS46 (fun hS47 => ?_)
          refine GH.yl (i := 16) (listed' := #[yy, yy, yy, yy, yy, yy, yy, yy, yy, yy, yy, yy, yy, yy, yy, yy, yy]) rfl (by kernel_rfl) rfl (NP.next NP.body) rfl rfl rfl (fun w' => yl_assign rfl) hS47 (fun hS48 => ?_)
          refine GH.done (by kernel_rfl) ?_
          refine QA.then_normal ?_
          refine C.ret ?_
          refine QA.ret1 rfl rfl ?_
          obtain rfl := sp_ret1 hm
          exact ⟨rfl, (Sat.pick [] h29)⟩
        · refine GH.on (i := 4) (listed' := #[yy, yy, yy, yy, yy, nn, nn, nn, nn, nn, nn, nn, nn, nn, nn, nn, nn]) rfl (by kernel_rfl) rfl rfl (NP.next NP.body) rfl rfl rfl rfl (not_t (dec_f hc35)) (fun w' hw' => yl_fieldAddr fo47_8 rfl) hS34 (fun hS49 => ?_)
          refine GH.on (i := 5) (listed' := #[yy, yy, yy, yy, yy, yy, nn, nn, nn, nn, nn, nn, nn, nn, nn, nn, nn]) rfl (by kernel_rfl) rfl rfl (NP.next NP.body) rfl rfl rfl rfl (not_t (dec_f hc35)) (fun w' hw' => yl_load (v := (.string (str i.Target))) ag9 rfl (View.at_ (j := 7) (View.span_tail hw') rfl)) hS49 (fun hS50 => ?_)
          obtain ⟨r1_2, hy51, hm⟩ := sp_bind hm
          refine GH.doesOn (i := 6) (listed' := #[yy, yy, yy, yy, yy, yy, yy, nn, nn, nn, nn, nn, nn, nn, nn, nn, nn]) rfl (by kernel_rfl) rfl rfl rfl (not_t (dec_f hc35)) rfl rfl (does_fn 0 rfl rfl rfl en92 h29 (fun U hU hp hr hs => M_label_Good_w (s := i.Target) hp hy51)) ?_
          rintro _ w52 ⟨U55, hb56, rfl, h54⟩
          have h53 : Sat W w52 [blk b1 (bytesV (List.ofFn (n := 20) i.Publisher) ++ ([(v64 i.Seq), (v64 i.Born), (v32 i.Life), (.bool i.Gone), (v16 i.Priority), (v16 i.Weight), (v16 i.Port), (.string (str i.Target))] : List Value)) 47] := hb56 h54
          have hS57 : Cls (fun w' => View w' (some ⟨b1, 0, none⟩) (bytesV (List.ofFn (n := 20) i.Publisher) ++ ([(v64 i.Seq), (v64 i.Born), (v32 i.Life), (.bool i.Gone), (v16 i.Priority), (v16 i.Weight), (v16 i.Port), (.string (str i.Target))] : List Value))) [1, 4, 5, 9, 10, 12, 13, 14] [] #[yy, yy, yy, yy, yy, yy, yy, nn, nn, nn, nn, nn, nn, nn, nn, nn, nn] w52 := Cls.keep (h53.isBlk.view0) (by kernel_rfl)
          refine ⟨hS57, ?_⟩
          refine GH.yl (i := 7) (listed' := #[yy, yy, yy, yy, yy, yy, yy, yy, nn, nn, nn, nn, nn, nn, nn, nn, nn]) rfl (by kernel_rfl) rfl (NP.next NP.body) rfl rfl rfl (fun w' => yl_pick_t rfl (not_t (dec_f hc35)) rfl) hS57 (fun hS58 => ?_)
          refine GH.yl (i := 8) (listed' := #[yy, yy, yy, yy, yy, yy, yy, yy, yy, nn, nn, nn, nn, nn, nn, nn, nn]) rfl (by kernel_rfl) rfl (NP.next NP.body) rfl rfl rfl (fun w' => yl_move rfl) hS58 (fun hS59 => ?_)
          rcases sp_b hm with ⟨hc60, hm⟩ | ⟨hc60, hm⟩
          · refine GH.on (i := 9) (listed' := #[yy, yy, yy, yy, yy, yy, yy, yy, yy, yy, nn, nn, nn, nn, nn, nn, nn]) rfl (by kernel_rfl) rfl rfl (NP.next NP.body) rfl rfl rfl rfl hc60 (fun w' hw' => yl_fieldAddr fo47_8 rfl) hS59 (fun hS61 => ?_)
            refine GH.on (i := 10) (listed' := #[yy, yy, yy, yy, yy, yy, yy, yy, yy, yy, yy, nn, nn, nn, nn, nn, nn]) rfl (by kernel_rfl) rfl rfl (NP.next NP.body) rfl rfl rfl rfl hc60 (fun w' hw' => yl_load (v := (.string (str i.Target))) ag9 rfl (View.at_ (j := 7) (View.span_tail hw') rfl)) hS61 (fun hS62 => ?_)
            refine GH.on (i := 12) (listed' := #[yy, yy, yy, yy, yy, yy, yy, yy, yy, yy, yy, nn, yy, nn, nn, nn, nn]) rfl (by kernel_rfl) rfl rfl (NP.next NP.body) rfl rfl rfl rfl hc60 (fun w' hw' => yl_fieldAddr fo47_8 rfl) hS62 (fun hS63 => ?_)
            refine GH.on (i := 13) (listed' := #[yy, yy, yy, yy, yy, yy, yy, yy, yy, yy, yy, nn, yy, yy, nn, nn, nn]) rfl (by kernel_rfl) rfl rfl (NP.next NP.body) rfl rfl rfl rfl hc60 (fun w' hw' => yl_load (v := (.string (str i.Target))) ag9 rfl (View.at_ (j := 7) (View.span_tail hw') rfl)) hS63 (fun hS64 => ?_)
            obtain ⟨r1_3, hy65, hm⟩ := sp_bind hm
            refine GH.doesOn (i := 11) (listed' := #[yy, yy, yy, yy, yy, yy, yy, yy, yy, yy, yy, yy, yy, yy, nn, nn, nn]) rfl (by kernel_rfl) rfl rfl rfl hc60 rfl rfl (does_fn 0 rfl rfl rfl en93 h53 (fun U hU hp hr hs => M_label_Fold_w (s := i.Target) hp hy65)) ?_
            rintro _ w66 ⟨U69, hb70, rfl, h68⟩
            have h67 : Sat W w66 [blk b1 (bytesV (List.ofFn (n := 20) i.Publisher) ++ ([(v64 i.Seq), (v64 i.Born), (v32 i.Life), (.bool i.Gone), (v16 i.Priority), (v16 i.Weight), (v16 i.Port), (.string (str i.Target))] : List Value)) 47] := hb70 h68
            have hS71 : Cls (fun w' => View w' (some ⟨b1, 0, none⟩) (bytesV (List.ofFn (n := 20) i.Publisher) ++ ([(v64 i.Seq), (v64 i.Born), (v32 i.Life), (.bool i.Gone), (v16 i.Priority), (v16 i.Weight), (v16 i.Port), (.string (str i.Target))] : List Value))) [1, 4, 5, 9, 10, 12, 13, 14] [] #[yy, yy, yy, yy, yy, yy, yy, yy, yy, yy, yy, yy, yy, yy, nn, nn, nn] w66 := Cls.keep (h67.isBlk.view0) (by kernel_rfl)
            refine ⟨hS71, ?_⟩
            refine GH.on (i := 14) (listed' := #[yy, yy, yy, yy, yy, yy, yy, yy, yy, yy, yy, yy, yy, yy, yy, nn, nn]) rfl (by kernel_rfl) rfl rfl (NP.next NP.body) rfl rfl rfl rfl hc60 (fun w' hw' => yl_eqS rfl rfl) hS71 (fun hS72 => ?_)
            refine GH.yl (i := 15) (listed' := #[yy, yy, yy, yy, yy, yy, yy, yy, yy, yy, yy, yy, yy, yy, yy, yy, nn]) rfl (by kernel_rfl) rfl (NP.next NP.body) rfl rfl rfl (fun w' => yl_pick_t rfl hc60 rfl) hS72 (fun hS73 => ?_)
            refine GH.yl (i := 16) (listed' := #[yy, yy, yy, yy, yy, yy, yy, yy, yy, yy, yy, yy, yy, yy, yy, yy, yy]) rfl (by kernel_rfl) rfl (NP.next NP.body) rfl rfl rfl (fun w' => yl_assign rfl) hS73 (fun hS74 => ?_)
            refine GH.done (by kernel_rfl) ?_
            refine QA.then_normal ?_
            refine C.ret ?_
            refine QA.ret1 rfl rfl ?_
            obtain rfl := sp_ret1 hm
            exact ⟨rfl, (Sat.pick [] h67)⟩
          · refine GH.off (i := 9) (listed' := #[yy, yy, yy, yy, yy, yy, yy, yy, yy, yy, nn, nn, nn, nn, nn, nn, nn]) rfl (by kernel_rfl) rfl (NP.next NP.body) rfl rfl rfl rfl hc60 hS59 (fun hS75 => ?_)
            refine GH.off (i := 10) (listed' := #[yy, yy, yy, yy, yy, yy, yy, yy, yy, yy, yy, nn, nn, nn, nn, nn, nn]) rfl (by kernel_rfl) rfl (NP.next NP.body) rfl rfl rfl rfl hc60 hS75 (fun hS76 => ?_)
            refine GH.off (i := 11) (listed' := #[yy, yy, yy, yy, yy, yy, yy, yy, yy, yy, yy, yy, nn, nn, nn, nn, nn]) rfl (by kernel_rfl) rfl (NP.next NP.body) rfl rfl rfl rfl hc60 hS76 (fun hS77 => ?_)
            refine GH.off (i := 12) (listed' := #[yy, yy, yy, yy, yy, yy, yy, yy, yy, yy, yy, yy, yy, nn, nn, nn, nn]) rfl (by kernel_rfl) rfl (NP.next NP.body) rfl rfl rfl rfl hc60 hS77 (fun hS78 => ?_)
            refine GH.off (i := 13) (listed' := #[yy, yy, yy, yy, yy, yy, yy, yy, yy, yy, yy, yy, yy, yy, nn, nn, nn]) rfl (by kernel_rfl) rfl (NP.next NP.body) rfl rfl rfl rfl hc60 hS78 (fun hS79 => ?_)
            refine GH.off (i := 14) (listed' := #[yy, yy, yy, yy, yy, yy, yy, yy, yy, yy, yy, yy, yy, yy, yy, nn, nn]) rfl (by kernel_rfl) rfl (NP.next NP.body) rfl rfl rfl rfl hc60 hS79 (fun hS80 => ?_)
            refine GH.yl (i := 15) (listed' := #[yy, yy, yy, yy, yy, yy, yy, yy, yy, yy, yy, yy, yy, yy, yy, yy, nn]) rfl (by kernel_rfl) rfl (NP.next NP.body) rfl rfl rfl (fun w' => yl_pick_f rfl hc60 rfl) hS80 (fun hS81 => ?_)
            refine GH.yl (i := 16) (listed' := #[yy, yy, yy, yy, yy, yy, yy, yy, yy, yy, yy, yy, yy, yy, yy, yy, yy]) rfl (by kernel_rfl) rfl (NP.next NP.body) rfl rfl rfl (fun w' => yl_assign rfl) hS81 (fun hS82 => ?_)
            refine GH.done (by kernel_rfl) ?_
            refine QA.then_normal ?_
            refine C.ret ?_
            refine QA.ret1 rfl rfl ?_
            obtain rfl := sp_ret1 hm
            exact ⟨rfl, (Sat.pick [] h53)⟩
set_option maxRecDepth 20000 in
set_option maxHeartbeats 1000000 in
theorem M_bytes_Clone_v_w {W : Base} {w : World} {a : Option Addr} {c : Nat} {b : List UInt8} (hv_b : V W a (elU8.row b)) (hq_b : b.length ≤ c) (h : Sat W w []) {r3 : List UInt8} (hm : M_bytes_Clone_v b = some r3) :
    Calls Try.prog 86 #[(.slice a b.length c)] w (Ret fun v w' => ∃ r1 : Option Addr, ∃ r2 : Nat, v = (.slice r1 r3.length r2) ∧ Sat W w' [ow elU8 r1 r2 5 r3]) := by
  unfold M_bytes_Clone_v at hm
  refine C.enter (N := 8) Try.func86 rfl Try.ntmps86 rfl ?_
  show C _ _ _ [(0, (.slice a b.length c))] _ _
  refine C.seq ?_
  refine C.region ?_
  refine G.yl (yl_assign rfl) rfl rfl rfl ?_
  refine G.nil ?_
  refine QA.then_normal ?_
  refine C.seq ?_
  refine C.seq ?_
  refine C.region ?_
  refine G.yl (yl_move rfl) rfl rfl rfl ?_
  refine G.yl (yl_eq_slnil Try.underlying49 rfl rfl) rfl rfl rfl ?_
  refine G.nil ?_
  refine QA.then_normal ?_
  rcases Bool.eq_false_or_eq_true (Option.isNone a) with hc1 | hc1
  · obtain rfl : b = [] := isnil_view (by decide) hc1 (hv_b.at_ h)
    refine C.cond_t rfl hc1 ?_
    refine C.seq ?_
    refine C.region ?_
    refine G.yl (yl_assign rfl) rfl rfl rfl ?_
    refine G.nil ?_
    refine QA.then_normal ?_
    refine C.ret ?_
    refine QA.then_ret ?_
    refine QA.ret1 rfl rfl ?_
    obtain rfl : r3 = ([] : List UInt8) := by simpa using hm.symm
    exact ⟨none, 0, rfl, (Sat.pick [0] (Sat.own_zero h elU8 none 5))⟩
  · refine C.cond_f rfl hc1 ?_
    refine C.skip ?_
    refine QA.then_normal ?_
    refine C.seq ?_
    refine C.region ?_
    refine G.does (does_lit (E := elU8) (l := ([] : List UInt8)) (vs := []) (cs := []) (e := 5) h rfl (by kernel_rfl) rfl rfl (by decide)) rfl rfl rfl ?_
    rintro _ w3 ⟨a2, rfl, h4⟩
    refine G.yl (yl_move rfl) rfl rfl rfl ?_
    obtain ⟨hc5, hm⟩ := sp_chk hm
    refine G.does (does_app (E := elU8) (l := ([] : List UInt8)) (l2 := b) Try.underlying49 el5 (Sat.own_zero h4 elU8 a2 5) rfl rfl rfl rfl (by decide) (hv_b.at_ h4) hc5 (by decide)) rfl rfl rfl ?_
    rintro _ w8 ⟨a6, c7, rfl, h9⟩
    refine G.yl (yl_assign rfl) rfl rfl rfl ?_
    refine G.nil ?_
    refine QA.then_normal ?_
    refine C.ret ?_
    refine QA.ret1 rfl rfl ?_
    obtain rfl := sp_ret1 hm
    exact ⟨a6, c7, rfl, (Sat.pick [0] h9)⟩
set_option maxRecDepth 20000 in
set_option maxHeartbeats 1000000 in
theorem M_octet_may_w {W : Base} {w : World} {width : Int}  (h : Sat W w []) {r1 : Bool} (hm : M_octet_may width = some r1) :
    Calls Try.prog 133 #[(vI width)] w (Ret fun v w' => v = (.bool r1) ∧ Sat W w' []) := by
  unfold M_octet_may at hm
  refine C.enter (N := 9) Try.func133 rfl Try.ntmps133 rfl ?_
  show C _ _ _ [(0, (vI width))] _ _
  refine C.seq ?_
  refine C.region ?_
  refine G.yl (yl_assign rfl) rfl rfl rfl ?_
  refine G.nil ?_
  refine QA.then_normal ?_
  refine C.seq ?_
  refine C.region ?_
  refine G.yl (yl_move rfl) rfl rfl rfl ?_
  refine G.yl (yl_geI rfl rfl) rfl rfl rfl ?_
  refine G.yl (yl_move rfl) rfl rfl rfl ?_
  rcases sp_ite hm with ⟨hc1, hm⟩ | ⟨hc1, hm⟩
  · refine G.on rfl rfl (dec_t hc1) ?_
    refine G.yl (yl_move rfl) rfl rfl rfl ?_
    refine G.on rfl rfl (dec_t hc1) ?_
    refine G.yl (yl_leI rfl rfl) rfl rfl rfl ?_
    refine G.yl (yl_pick_t rfl (dec_t hc1) rfl) rfl rfl rfl ?_
    refine G.yl (yl_assign rfl) rfl rfl rfl ?_
    refine G.nil ?_
    refine QA.then_normal ?_
    refine C.ret ?_
    refine QA.ret1 rfl rfl ?_
    obtain rfl := sp_ret1 hm
    exact ⟨rfl, (Sat.pick [] h)⟩
  · refine G.offU rfl rfl (dec_f hc1) rfl ?_
    refine G.offU rfl rfl (dec_f hc1) rfl ?_
    refine G.yl (yl_pick_f rfl (dec_f hc1) rfl) rfl rfl rfl ?_
    refine G.yl (yl_assign rfl) rfl rfl rfl ?_
    refine G.nil ?_
    refine QA.then_normal ?_
    refine C.ret ?_
    refine QA.ret1 rfl rfl ?_
    obtain rfl := sp_ret1 hm
    exact ⟨rfl, (Sat.pick [] h)⟩
set_option maxRecDepth 20000 in
set_option maxHeartbeats 1000000 in
theorem M_octet_Put_v_w {W : Base} {w : World} {a : Option Addr} {c : Nat} {b : List UInt8} {n : UInt64} {width : Int} (hv_b : V W a (elU8.row b)) (hq_b : b.length ≤ c) (h : Sat W w []) {r3 : List UInt8} (hm : M_octet_Put_v b n width = some r3) :
    Calls Try.prog 88 #[(.slice a b.length c), (v64 n), (vI width)] w (Ret fun v w' => ∃ r1 : Option Addr, ∃ r2 : Nat, v = (.slice r1 r3.length r2) ∧ Sat W w' [ow elU8 r1 r2 5 r3]) := by
  unfold M_octet_Put_v at hm
  refine C.enter (N := 34) Try.func88 rfl Try.ntmps88 rfl ?_
  show C _ _ _ [(0, (.slice a b.length c)), (1, (v64 n)), (2, (vI width))] _ _
  refine C.seq ?_
  refine C.region ?_
  refine G.yl (yl_assign rfl) rfl rfl rfl ?_
  refine G.nil ?_
  refine QA.then_normal ?_
  refine C.seq ?_
  refine C.region ?_
  refine G.does (does_lit (E := elU8) (l := ([] : List UInt8)) (vs := []) (cs := []) (e := 5) h rfl (by kernel_rfl) rfl rfl (by decide)) rfl rfl rfl ?_
  rintro _ w2 ⟨a1, rfl, h3⟩
  refine G.yl (yl_move rfl) rfl rfl rfl ?_
  obtain ⟨hc4, hm⟩ := sp_chk hm
  refine G.does (does_app (E := elU8) (l := ([] : List UInt8)) (l2 := b) Try.underlying49 el5 (Sat.own_zero h3 elU8 a1 5) rfl rfl rfl rfl (by decide) (hv_b.at_ h3) hc4 (by decide)) rfl rfl rfl ?_
  rintro _ w7 ⟨a5, c6, rfl, h8⟩
  refine G.yl (yl_assign rfl) rfl rfl rfl ?_
  refine G.nil ?_
  refine QA.then_normal ?_
  refine C.seq ?_
  refine C.seq ?_
  refine C.region ?_
  refine G.yl (yl_move rfl) rfl rfl rfl ?_
  obtain ⟨r1_2, hy9, hm⟩ := sp_bind hm
  refine G.does (does_fn 0 rfl rfl rfl en133 h8 (fun U hU hp hr hs => M_octet_may_w (width := width) hp hy9)) rfl rfl rfl ?_
  rintro _ w10 ⟨U13, hb14, rfl, h12⟩
  have h11 : Sat W w10 [ow elU8 a5 c6 5 (([] : List UInt8) ++ b), ow elU8 a1 0 5 ([] : List UInt8)] := hb14 h12
  refine G.yl (yl_not rfl) rfl rfl rfl ?_
  refine G.nil ?_
  refine QA.then_normal ?_
  rcases sp_b hm with ⟨hc15, hm⟩ | ⟨hc15, hm⟩
  · refine C.cond_f rfl (not_f hc15) ?_
    refine C.skip ?_
    refine QA.then_normal ?_
    refine C.seq ?_
    refine C.seq ?_
    refine C.region ?_
    refine G.yl (yl_move rfl) rfl rfl rfl ?_
    refine G.yl (yl_move rfl) rfl rfl rfl ?_
    refine G.nil ?_
    refine QA.then_normal ?_
    refine C.block ?_
    obtain ⟨o, ho16, hm17⟩ := sp_bind hm
    refine C.left (γ := Option Addr × Nat × List UInt8) (.exit 0) (fun g => match g with | (a_3, c_3, out_2) => [(6, (.slice none 0 0)), (7, (.slice a_3 out_2.length c_3))]) (fun g ww => match g with | (a_3, c_3, out_2) => out_2 = o ∧ Sat W ww [ow elU8 a_3 c_3 5 out_2]) ?_ ?_
    · refine C.loopO (γ := Option Addr × Nat × List UInt8 × Int) (fun g => match g with | (a_2, c_2, out, t17) => [(1, (v64 n)), (2, (vI width)), (6, (.slice none 0 0)), (7, (.slice a_2 out.length c_2)), (16, (vI width)), (17, (vI t17))]) (fun g ww => match g with | (a_2, c_2, out, t17) => Sat W ww [ow elU8 a_2 c_2 5 out]) (fun g => match g with | (a_2, c_2, out, t17) => (out, t17)) (a5, c6, ([] : List UInt8) ++ b, 0) ho16 (Sub.of ⟨rfl, rfl, rfl, rfl, rfl, rfl, trivial⟩) (Sat.pick [0] h11) ?_
      rintro ⟨a_2, c_2, out, t17⟩ k20 w18 y_ h19 hm hg21
      show C _ _ _ [(1, (v64 n)), (2, (vI width)), (6, (.slice none 0 0)), (7, (.slice a_2 out.length c_2)), (16, (vI width)), (17, (vI t17))] _ _
      change M_octet_Put_v_b1 n width out t17 = some y_ at hm
      unfold M_octet_Put_v_b1 at hm
      refine C.seq ?_
      refine C.region ?_
      refine G.yl (yl_ltI rfl rfl) rfl rfl rfl ?_
      refine G.nil ?_
      refine QA.then_normal ?_
      refine C.seq ?_
      rcases sp_ite hm with ⟨hc22, hm⟩ | ⟨hc22, hm⟩
      · refine C.cond_t rfl (dec_t hc22) ?_
        refine C.skip ?_
        refine QA.then_normal ?_
        refine C.seq ?_
        refine C.block ?_
        refine C.seq ?_
        refine C.region ?_
        refine G.yl (yl_move rfl) rfl rfl rfl ?_
        refine G.yl (yl_assign rfl) rfl rfl rfl ?_
        refine G.nil ?_
        refine QA.then_normal ?_
        refine C.region ?_
        refine G.yl (yl_move rfl) rfl rfl rfl ?_
        refine G.yl (yl_move rfl) rfl rfl rfl ?_
        refine G.yl (yl_move rfl) rfl rfl rfl ?_
        obtain ⟨hc23, hm⟩ := sp_chk hm
        refine G.yl (yl_subI rfl rfl hc23) rfl rfl rfl ?_
        refine G.yl (yl_move rfl) rfl rfl rfl ?_
        obtain ⟨hc24, hm⟩ := sp_chk hm
        refine G.yl (yl_subI rfl rfl hc24) rfl rfl rfl ?_
        obtain ⟨hc25, hm⟩ := sp_chk hm
        refine G.yl (yl_mulI rfl rfl hc25) rfl rfl rfl ?_
        refine G.yl (yl_I64 us3 Try.underlying48 rfl) rfl rfl rfl ?_
        refine G.yl (yl_shr64 rfl rfl (by omega)) rfl rfl rfl ?_
        refine G.yl (yl_64to8 us28 Try.underlying5 rfl) rfl rfl rfl ?_
        refine G.does (does_lit (E := elU8) (l := [(shr64 n ((UInt64.ofInt (8 * ((width - 1) - t17))).toNat)).toUInt8]) (vs := [(v8 ((shr64 n ((UInt64.ofInt (8 * ((width - 1) - t17))).toNat)).toUInt8))]) (cs := [(v8 ((shr64 n ((UInt64.ofInt (8 * ((width - 1) - t17))).toNat)).toUInt8))]) (e := 5) h19 rfl (by kernel_rfl) rfl rfl (by decide)) rfl rfl rfl ?_
        rintro _ w27 ⟨a26, rfl, h28⟩
        obtain ⟨hc29, hm⟩ := sp_chk hm
        refine G.does (does_app (E := elU8) (l := out) (l2 := [(shr64 n ((UInt64.ofInt (8 * ((width - 1) - t17))).toNat)).toUInt8]) Try.underlying49 el5 (Sat.pick [1, 0] h28) rfl rfl rfl rfl (by decide) (Sat.own_view h28) hc29 (by decide)) rfl rfl rfl ?_
        rintro _ w32 ⟨a30, c31, rfl, h33⟩
        refine G.yl (yl_assign rfl) rfl rfl rfl ?_
        refine G.nil ?_
        refine QA.block_normal ?_
        refine QA.then_normal ?_
        refine C.region ?_
        obtain ⟨hc34, hm⟩ := sp_chk hm
        refine G.yl (yl_addI rfl rfl hc34) rfl rfl rfl ?_
        refine G.yl (yl_move rfl) rfl rfl rfl ?_
        refine G.nil ?_
        obtain rfl := sp_ret1 hm
        exact QA.againO (a30, c31, out ++ [(shr64 n ((UInt64.ofInt (8 * ((width - 1) - t17))).toNat)).toUInt8], t17 + 1) hg21 (Sub.of ⟨rfl, rfl, rfl, rfl, rfl, rfl, trivial⟩) (Sat.pick [0] h33)
      · refine C.cond_f rfl (dec_f hc22) ?_
        refine C.exit ?_
        refine QA.then_exit ?_
        refine QA.then_exit ?_
        obtain rfl := sp_ret1 hm
        exact QA.left (a_2, c_2, out) (Sub.of ⟨rfl, rfl, trivial⟩) ⟨hg21, (Sat.pick [0] h19)⟩
    · rintro ⟨a_3, c_3, out_2⟩ w35 ⟨rfl, h36⟩
      have hm := hm17
      show QA _ _ [(6, (.slice none 0 0)), (7, (.slice a_3 out_2.length c_3))] _ _
      refine QA.block_here ?_
      refine QA.then_normal ?_
      refine C.seq ?_
      refine C.region ?_
      refine G.yl (yl_move rfl) rfl rfl rfl ?_
      refine G.yl (yl_assign rfl) rfl rfl rfl ?_
      refine G.nil ?_
      refine QA.then_normal ?_
      refine C.ret ?_
      refine QA.ret1 rfl rfl ?_
      obtain rfl := sp_ret1 hm
      exact ⟨a_3, c_3, rfl, (Sat.pick [0] h36)⟩
  · refine C.cond_t rfl (not_t hc15) ?_
    refine C.seq ?_
    refine C.region ?_
    refine G.yl (yl_move rfl) rfl rfl rfl ?_
    refine G.yl (yl_assign rfl) rfl rfl rfl ?_
    refine G.nil ?_
    refine QA.then_normal ?_
    refine C.ret ?_
    refine QA.then_ret ?_
    refine QA.ret1 rfl rfl ?_
    obtain rfl := sp_ret1 hm
    exact ⟨a5, c6, rfl, (Sat.pick [0] h11)⟩
set_option maxRecDepth 20000 in
set_option maxHeartbeats 1000000 in
theorem M_inst_Bytes_1_po_w {W : Base} {w : World} {n : UInt64} {width : Int} {b : Nat} {a : Option Addr} {c : Nat} {x : List UInt8}  (h : Sat W w [blk b [(.slice a x.length c)] 49, ow elU8 a c 5 x]) {r3 : List UInt8} (hm : M_inst_Bytes_1_po n width x = some r3) :
    Calls Try.prog 87 #[(v64 n), (vI width), (.pointer (some ⟨b, 0, none⟩))] w (Ret fun v w' => ∃ r1 : Option Addr, ∃ r2 : Nat, v = (.tuple #[]) ∧ Sat W w' [blk b [(.slice r1 r3.length r2)] 49, ow elU8 r1 r2 5 r3]) := by
  unfold M_inst_Bytes_1_po at hm
  refine C.enter (N := 9) Try.func87 rfl Try.ntmps87 rfl ?_
  show C _ _ _ [(0, (v64 n)), (1, (vI width)), (2, (.pointer (some ⟨b, 0, none⟩)))] _ _
  refine C.region ?_
  refine G.yl (yl_load (v := (.slice a x.length c)) ag49 rfl (View.at0 (j := 0) h.isBlk.view0 rfl)) rfl rfl rfl ?_
  refine G.yl (yl_move rfl) rfl rfl rfl ?_
  refine G.yl (yl_move rfl) rfl rfl rfl ?_
  obtain ⟨r3_2, hy1, hm⟩ := sp_bind hm
  refine G.does (does_fn 0 rfl rfl rfl en88 h (fun U hU hp hr hs => M_octet_Put_v_w (b := x) (n := n) (width := width) (Rest.view (Rest.front 1 hr)) (Sat.own_cap (Sat.pick [1] h)).1 hp hy1)) rfl rfl rfl ?_
  rintro _ w4 ⟨U7, hb8, r12, r23, rfl, h6⟩
  have h5 : Sat W w4 [ow elU8 r12 r23 5 r3_2, blk b [(.slice a x.length c)] 49, ow elU8 a c 5 x] := hb8 h6
  refine G.unit (does_store (vs := [(.slice r12 r3_2.length r23)]) (Sat.pick [1, 0, 0] h5) sz49 rfl rfl rfl rfl (List.forall_mem_cons.2 ⟨rfl, (fun _ hh => by cases hh)⟩) (Nat.le_of_ble_eq_true rfl)) rfl rfl ?_
  rintro _ w9 h11
  have h10 : Sat W w9 [blk b [(.slice r12 r3_2.length r23)] 49, ow elU8 r12 r23 5 r3_2, ow elU8 a c 5 x] := h11
  refine G.nil ?_
  refine QA.end0 rfl ?_
  obtain rfl := sp_ret1 hm
  exact ⟨r12, r23, rfl, (Sat.pick [0, 0] h10)⟩
set_option maxRecDepth 20000 in
set_option maxHeartbeats 1000000 in
theorem M_octet_Text_v_w {W : Base} {w : World} {a : Option Addr} {c : Nat} {b : List UInt8} {s : List UInt8} (hv_b : V W a (elU8.row b)) (hq_b : b.length ≤ c) (h : Sat W w []) {r3 : List UInt8} {r4 : Int} (hm : M_octet_Text_v b s = some (r3, r4)) :
    Calls Try.prog 89 #[(.slice a b.length c), (.string (str s))] w (Ret fun v w' => ∃ r1 : Option Addr, ∃ r2 : Nat, v = (.tuple #[(.slice r1 r3.length r2), (vI r4)]) ∧ Sat W w' [ow elU8 r1 r2 5 r3]) := by
  unfold M_octet_Text_v at hm
  refine C.enter (N := 16) Try.func89 rfl Try.ntmps89 rfl ?_
  show C _ _ _ [(0, (.slice a b.length c)), (1, (.string (str s)))] _ _
  refine C.seq ?_
  refine C.region ?_
  refine G.yl (yl_assign rfl) rfl rfl rfl ?_
  refine G.yl (yl_assign rfl) rfl rfl rfl ?_
  refine G.nil ?_
  refine QA.then_normal ?_
  refine C.seq ?_
  refine C.seq ?_
  refine C.region ?_
  refine G.yl (yl_move rfl) rfl rfl rfl ?_
  refine G.yl (yl_slenE Try.underlying9 rfl) rfl rfl rfl ?_
  refine G.yl (yl_gtI rfl rfl) rfl rfl rfl ?_
  refine G.nil ?_
  refine QA.then_normal ?_
  rcases sp_ite hm with ⟨hc1, hm⟩ | ⟨hc1, hm⟩
  · refine C.cond_t rfl (dec_t hc1) ?_
    refine C.seq ?_
    refine C.region ?_
    refine G.yl (yl_assign rfl) rfl rfl rfl ?_
    refine G.yl (yl_assign rfl) rfl rfl rfl ?_
    refine G.nil ?_
    refine QA.then_normal ?_
    refine C.ret ?_
    refine QA.then_ret ?_
    refine QA.ret2 rfl rfl rfl ?_
    obtain ⟨rfl, rfl⟩ := sp_ret2 hm
    exact ⟨none, 0, rfl, (Sat.pick [0] (Sat.own_zero h elU8 none 5))⟩
  · refine C.cond_f rfl (dec_f hc1) ?_
    refine C.skip ?_
    refine QA.then_normal ?_
    refine C.seq ?_
    refine C.region ?_
    refine G.yl (yl_move rfl) rfl rfl rfl ?_
    refine G.yl (yl_move rfl) rfl rfl rfl ?_
    refine G.yl (yl_slenE Try.underlying9 rfl) rfl rfl rfl ?_
    refine G.yl (yl_I64 us3 Try.underlying28 rfl) rfl rfl rfl ?_
    obtain ⟨r3_2, hy2, hm⟩ := sp_bind hm
    refine G.does (does_fn 0 rfl rfl rfl en88 h (fun U hU hp hr hs => M_octet_Put_v_w (b := b) (n := UInt64.ofInt (s.length : Int)) (width := 2) (hs.v hv_b) hq_b hp hy2)) rfl rfl rfl ?_
    rintro _ w5 ⟨U8, hb9, r13, r24, rfl, h7⟩
    have h6 : Sat W w5 [ow elU8 r13 r24 5 r3_2] := hb9 h7
    refine G.yl (yl_move rfl) rfl rfl rfl ?_
    obtain ⟨hc10, hm⟩ := sp_chk hm
    refine G.does (does_appS (l := r3_2) (s := s) Try.underlying49 el5 h6 rfl rfl rfl hc10 Try.underlying9 (by decide)) rfl rfl rfl ?_
    rintro _ w13 ⟨a11, c12, rfl, h14⟩
    refine G.yl (yl_assign rfl) rfl rfl rfl ?_
    refine G.yl (yl_assign rfl) rfl rfl rfl ?_
    refine G.nil ?_
    refine QA.then_normal ?_
    refine C.ret ?_
    refine QA.ret2 rfl rfl rfl ?_
    obtain ⟨rfl, rfl⟩ := sp_ret2 hm
    exact ⟨a11, c12, rfl, (Sat.pick [0] h14)⟩
set_option maxRecDepth 20000 in
set_option maxHeartbeats 1000000 in
theorem M_inst_Bytes_w {W : Base} {w : World} {i : G_api_Instance}  (h : Sat W w []) {r3 : List UInt8} {r4 : Int} (hm : M_inst_Bytes i = some (r3, r4)) :
    Calls Try.prog 30 #[(.agg (bytesV (List.ofFn (n := 20) i.Publisher) ++ ([(v64 i.Seq), (v64 i.Born), (v32 i.Life), (.bool i.Gone), (v16 i.Priority), (v16 i.Weight), (v16 i.Port), (.string (str i.Target))] : List Value)).toArray)] w (Ret fun v w' => ∃ r1 : Option Addr, ∃ r2 : Nat, v = (.tuple #[(.slice r1 r3.length r2), (vI r4)]) ∧ Sat W w' [ow elU8 r1 r2 5 r3]) := by
  unfold M_inst_Bytes at hm
  refine C.enter (N := 54) Try.func30 rfl Try.ntmps30 rfl ?_
  show C _ _ _ [(0, (.agg (bytesV (List.ofFn (n := 20) i.Publisher) ++ ([(v64 i.Seq), (v64 i.Born), (v32 i.Life), (.bool i.Gone), (v16 i.Priority), (v16 i.Weight), (v16 i.Port), (.string (str i.Target))] : List Value)).toArray))] _ _
  refine C.seq ?_
  refine C.region ?_
  refine G.does (does_box (cs := (bytesV (List.ofFn (n := 20) i.Publisher) ++ ([(v64 i.Seq), (v64 i.Born), (v32 i.Life), (.bool i.Gone), (v16 i.Priority), (v16 i.Weight), (v16 i.Port), (.string (str i.Target))] : List Value))) h rfl rfl) rfl rfl rfl ?_
  rintro _ w2 ⟨b1, rfl, h3⟩
  refine G.yl (yl_assign rfl) rfl rfl rfl ?_
  refine G.yl (yl_assign rfl) rfl rfl rfl ?_
  refine G.nil ?_
  refine QA.then_normal ?_
  refine C.seq ?_
  refine C.seq ?_
  refine C.region ?_
  refine G.yl (yl_loadN (vs := (bytesV (List.ofFn (n := 20) i.Publisher) ++ ([(v64 i.Seq), (v64 i.Born), (v32 i.Life), (.bool i.Gone), (v16 i.Priority), (v16 i.Weight), (v16 i.Port), (.string (str i.Target))] : List Value))) ag47 sz47 (by simp [bytesV_length]) rfl (h3.isBlk.view0)) rfl rfl rfl ?_
  obtain ⟨r1_2, hy4, hm⟩ := sp_bind hm
  refine G.does (does_fn 0 rfl rfl rfl en32 h3 (fun U hU hp hr hs => M_inst_Good_w (i := i) hp hy4)) rfl rfl rfl ?_
  rintro _ w5 ⟨U8, hb9, rfl, h7⟩
  have h6 : Sat W w5 [blk b1 (bytesV (List.ofFn (n := 20) i.Publisher) ++ ([(v64 i.Seq), (v64 i.Born), (v32 i.Life), (.bool i.Gone), (v16 i.Priority), (v16 i.Weight), (v16 i.Port), (.string (str i.Target))] : List Value)) 47] := hb9 h7
  refine G.yl (yl_not rfl) rfl rfl rfl ?_
  refine G.nil ?_
  refine QA.then_normal ?_
  rcases sp_b hm with ⟨hc10, hm⟩ | ⟨hc10, hm⟩
  · refine C.cond_f rfl (not_f hc10) ?_
    refine C.skip ?_
    refine QA.then_normal ?_
    refine C.seq ?_
    refine C.region ?_
    refine G.yl (yl_fieldAddr fo47_0 rfl) rfl rfl rfl ?_
    refine G.yl (yl_slice_arr (n := 20) (l := 0) (h := 20) (s := 1) (v := (.slice (some ⟨b1, 0, none⟩) 20 20)) Try.underlying43 (by kernel_rfl) (by kernel_rfl) rfl rfl rfl (by decide) (by decide) rfl) rfl rfl rfl ?_
    obtain ⟨r3_2, hy11, hm⟩ := sp_bind hm
    refine G.does (does_fn 0 rfl rfl rfl en86 h6 (fun U hU hp hr hs => M_bytes_Clone_v_w (b := List.ofFn i.Publisher) (V.of_bytes (V.span_head (Rest.blk hr 0))) (by simp) hp hy11)) rfl rfl rfl ?_
    rintro _ w14 ⟨U17, hb18, r112, r213, rfl, h16⟩
    have h15 : Sat W w14 [ow elU8 r112 r213 5 r3_2, blk b1 (bytesV (List.ofFn (n := 20) i.Publisher) ++ ([(v64 i.Seq), (v64 i.Born), (v32 i.Life), (.bool i.Gone), (v16 i.Priority), (v16 i.Weight), (v16 i.Port), (.string (str i.Target))] : List Value)) 47] := hb18 h16
    refine G.does (does_alloc (cs := [(.slice none 0 0)]) h15 z49 rfl) rfl rfl rfl ?_
    rintro _ w20 ⟨b19, rfl, h21⟩
    refine G.unit (does_store (vs := [(.slice r112 r3_2.length r213)]) h21 sz49 rfl rfl rfl rfl (List.forall_mem_cons.2 ⟨rfl, (fun _ hh => by cases hh)⟩) (Nat.le_of_ble_eq_true rfl)) rfl rfl ?_
    rintro _ w22 h24
    have h23 : Sat W w22 [blk b19 [(.slice r112 r3_2.length r213)] 49, ow elU8 r112 r213 5 r3_2, blk b1 (bytesV (List.ofFn (n := 20) i.Publisher) ++ ([(v64 i.Seq), (v64 i.Born), (v32 i.Life), (.bool i.Gone), (v16 i.Priority), (v16 i.Weight), (v16 i.Port), (.string (str i.Target))] : List Value)) 47] := h24
    refine G.nil ?_
    refine QA.then_normal ?_
    refine C.seq ?_
    refine C.region ?_
    refine G.yl (yl_func rfl rfl) rfl rfl rfl ?_
    refine G.yl (yl_assign rfl) rfl rfl rfl ?_
    refine G.nil ?_
    refine QA.then_normal ?_
    refine C.seq ?_
    refine C.region ?_
    refine G.yl (yl_move rfl) rfl rfl rfl ?_
    refine G.yl (yl_fieldAddr fo47_1 rfl) rfl rfl rfl ?_
    refine G.yl (yl_load (v := (v64 i.Seq)) ag28 rfl (View.at_ (j := 0) (View.span_tail (Sat.pick [2] h23).isBlk.view0) rfl)) rfl rfl rfl ?_
    obtain ⟨r3_3, hy25, hm⟩ := sp_bind hm
    refine G.does (does_fn 2 rfl rfl rfl en87 (Sat.pick [0, 0, 0] h23) (fun U hU hp hr hs => M_inst_Bytes_1_po_w (n := i.Seq) (width := 8) (x := r3_2) hp hy25)) rfl rfl rfl ?_
    rintro _ w28 ⟨U31, hb32, r126, r227, rfl, h30⟩
    have h29 : Sat W w28 [blk b19 [(.slice r126 r3_3.length r227)] 49, ow elU8 r126 r227 5 r3_3, blk b1 (bytesV (List.ofFn (n := 20) i.Publisher) ++ ([(v64 i.Seq), (v64 i.Born), (v32 i.Life), (.bool i.Gone), (v16 i.Priority), (v16 i.Weight), (v16 i.Port), (.string (str i.Target))] : List Value)) 47] := hb32 h30
    refine G.nil ?_
    refine QA.then_normal ?_
    refine C.seq ?_
    refine C.region ?_
    refine G.yl (yl_move rfl) rfl rfl rfl ?_
    refine G.yl (yl_fieldAddr fo47_2 rfl) rfl rfl rfl ?_
    refine G.yl (yl_load (v := (v64 i.Born)) ag28 rfl (View.at_ (j := 1) (View.span_tail (Sat.pick [2] h29).isBlk.view0) rfl)) rfl rfl rfl ?_
    obtain ⟨r3_4, hy33, hm⟩ := sp_bind hm
    refine G.does (does_fn 2 rfl rfl rfl en87 (Sat.pick [0, 0, 0] h29) (fun U hU hp hr hs => M_inst_Bytes_1_po_w (n := i.Born) (width := 8) (x := r3_3) hp hy33)) rfl rfl rfl ?_
    rintro _ w36 ⟨U39, hb40, r134, r235, rfl, h38⟩
    have h37 : Sat W w36 [blk b19 [(.slice r134 r3_4.length r235)] 49, ow elU8 r134 r235 5 r3_4, blk b1 (bytesV (List.ofFn (n := 20) i.Publisher) ++ ([(v64 i.Seq), (v64 i.Born), (v32 i.Life), (.bool i.Gone), (v16 i.Priority), (v16 i.Weight), (v16 i.Port), (.string (str i.Target))] : List Value)) 47] := hb40 h38
    refine G.nil ?_
    refine QA.then_normal ?_
    refine C.seq ?_
    refine C.region ?_
    refine G.yl (yl_move rfl) rfl rfl rfl ?_
    refine G.yl (yl_fieldAddr fo47_3 rfl) rfl rfl rfl ?_
    refine G.yl (yl_load (v := (v32 i.Life)) ag44 rfl (View.at_ (j := 2) (View.span_tail (Sat.pick [2] h37).isBlk.view0) rfl)) rfl rfl rfl ?_
    refine G.yl (yl_32to64 us44 Try.underlying28 rfl) rfl rfl rfl ?_
    obtain ⟨r3_5, hy41, hm⟩ := sp_bind hm
    refine G.does (does_fn 2 rfl rfl rfl en87 (Sat.pick [0, 0, 0] h37) (fun U hU hp hr hs => M_inst_Bytes_1_po_w (n := i.Life.toUInt64) (width := 4) (x := r3_4) hp hy41)) rfl rfl rfl ?_
    rintro _ w44 ⟨U47, hb48, r142, r243, rfl, h46⟩
    have h45 : Sat W w44 [blk b19 [(.slice r142 r3_5.length r243)] 49, ow elU8 r142 r243 5 r3_5, blk b1 (bytesV (List.ofFn (n := 20) i.Publisher) ++ ([(v64 i.Seq), (v64 i.Born), (v32 i.Life), (.bool i.Gone), (v16 i.Priority), (v16 i.Weight), (v16 i.Port), (.string (str i.Target))] : List Value)) 47] := hb48 h46
    refine G.nil ?_
    refine QA.then_normal ?_
    refine C.seq ?_
    refine C.seq ?_
    refine C.region ?_
    refine G.yl (yl_fieldAddr fo47_4 rfl) rfl rfl rfl ?_
    refine G.yl (yl_load (v := (.bool i.Gone)) ag4 rfl (View.at_ (j := 3) (View.span_tail (Sat.pick [2] h45).isBlk.view0) rfl)) rfl rfl rfl ?_
    refine G.nil ?_
    refine QA.then_normal ?_
    rcases sp_b hm with ⟨hc49, hm⟩ | ⟨hc49, hm⟩
    · refine C.cond_t rfl hc49 ?_
      refine C.seq ?_
      refine C.region ?_
      refine G.yl (yl_move rfl) rfl rfl rfl ?_
      obtain ⟨r3_6, hy50, hm⟩ := sp_bind hm
      refine G.does (does_fn 2 rfl rfl rfl en87 (Sat.pick [0, 0, 0] h45) (fun U hU hp hr hs => M_inst_Bytes_1_po_w (n := 1) (width := 1) (x := r3_5) hp hy50)) rfl rfl rfl ?_
      rintro _ w53 ⟨U56, hb57, r151, r252, rfl, h55⟩
      have h54 : Sat W w53 [blk b19 [(.slice r151 r3_6.length r252)] 49, ow elU8 r151 r252 5 r3_6, blk b1 (bytesV (List.ofFn (n := 20) i.Publisher) ++ ([(v64 i.Seq), (v64 i.Born), (v32 i.Life), (.bool i.Gone), (v16 i.Priority), (v16 i.Weight), (v16 i.Port), (.string (str i.Target))] : List Value)) 47] := hb57 h55
      refine G.nil ?_
      refine QA.then_normal ?_
      refine C.seq ?_
      refine C.region ?_
      refine G.yl (yl_load (v := (.slice r151 r3_6.length r252)) ag49 rfl (View.at0 (j := 0) h54.isBlk.view0 rfl)) rfl rfl rfl ?_
      refine G.yl (yl_assign rfl) rfl rfl rfl ?_
      refine G.yl (yl_assign rfl) rfl rfl rfl ?_
      refine G.nil ?_
      refine QA.then_normal ?_
      refine C.ret ?_
      refine QA.then_ret ?_
      refine QA.ret2 rfl rfl rfl ?_
      obtain ⟨rfl, rfl⟩ := sp_ret2 hm
      exact ⟨r151, r252, rfl, (Sat.pick [1] h54)⟩
    · refine C.cond_f rfl hc49 ?_
      refine C.skip ?_
      refine QA.then_normal ?_
      refine C.seq ?_
      refine C.region ?_
      refine G.yl (yl_move rfl) rfl rfl rfl ?_
      obtain ⟨r3_7, hy58, hm⟩ := sp_bind hm
      refine G.does (does_fn 2 rfl rfl rfl en87 (Sat.pick [0, 0, 0] h45) (fun U hU hp hr hs => M_inst_Bytes_1_po_w (n := 0) (width := 1) (x := r3_5) hp hy58)) rfl rfl rfl ?_
      rintro _ w61 ⟨U64, hb65, r159, r260, rfl, h63⟩
      have h62 : Sat W w61 [blk b19 [(.slice r159 r3_7.length r260)] 49, ow elU8 r159 r260 5 r3_7, blk b1 (bytesV (List.ofFn (n := 20) i.Publisher) ++ ([(v64 i.Seq), (v64 i.Born), (v32 i.Life), (.bool i.Gone), (v16 i.Priority), (v16 i.Weight), (v16 i.Port), (.string (str i.Target))] : List Value)) 47] := hb65 h63
      refine G.nil ?_
      refine QA.then_normal ?_
      refine C.seq ?_
      refine C.region ?_
      refine G.yl (yl_move rfl) rfl rfl rfl ?_
      refine G.yl (yl_fieldAddr fo47_5 rfl) rfl rfl rfl ?_
      refine G.yl (yl_load (v := (v16 i.Priority)) ag45 rfl (View.at_ (j := 4) (View.span_tail (Sat.pick [2] h62).isBlk.view0) rfl)) rfl rfl rfl ?_
      refine G.yl (yl_16to64 us45 Try.underlying28 rfl) rfl rfl rfl ?_
      obtain ⟨r3_8, hy66, hm⟩ := sp_bind hm
      refine G.does (does_fn 2 rfl rfl rfl en87 (Sat.pick [0, 0, 0] h62) (fun U hU hp hr hs => M_inst_Bytes_1_po_w (n := i.Priority.toUInt64) (width := 2) (x := r3_7) hp hy66)) rfl rfl rfl ?_
      rintro _ w69 ⟨U72, hb73, r167, r268, rfl, h71⟩
      have h70 : Sat W w69 [blk b19 [(.slice r167 r3_8.length r268)] 49, ow elU8 r167 r268 5 r3_8, blk b1 (bytesV (List.ofFn (n := 20) i.Publisher) ++ ([(v64 i.Seq), (v64 i.Born), (v32 i.Life), (.bool i.Gone), (v16 i.Priority), (v16 i.Weight), (v16 i.Port), (.string (str i.Target))] : List Value)) 47] := hb73 h71
      refine G.nil ?_
      refine QA.then_normal ?_
      refine C.seq ?_
      refine C.region ?_
      refine G.yl (yl_move rfl) rfl rfl rfl ?_
      refine G.yl (yl_fieldAddr fo47_6 rfl) rfl rfl rfl ?_
      refine G.yl (yl_load (v := (v16 i.Weight)) ag45 rfl (View.at_ (j := 5) (View.span_tail (Sat.pick [2] h70).isBlk.view0) rfl)) rfl rfl rfl ?_
      refine G.yl (yl_16to64 us45 Try.underlying28 rfl) rfl rfl rfl ?_
      obtain ⟨r3_9, hy74, hm⟩ := sp_bind hm
      refine G.does (does_fn 2 rfl rfl rfl en87 (Sat.pick [0, 0, 0] h70) (fun U hU hp hr hs => M_inst_Bytes_1_po_w (n := i.Weight.toUInt64) (width := 2) (x := r3_8) hp hy74)) rfl rfl rfl ?_
      rintro _ w77 ⟨U80, hb81, r175, r276, rfl, h79⟩
      have h78 : Sat W w77 [blk b19 [(.slice r175 r3_9.length r276)] 49, ow elU8 r175 r276 5 r3_9, blk b1 (bytesV (List.ofFn (n := 20) i.Publisher) ++ ([(v64 i.Seq), (v64 i.Born), (v32 i.Life), (.bool i.Gone), (v16 i.Priority), (v16 i.Weight), (v16 i.Port), (.string (str i.Target))] : List Value)) 47] := hb81 h79
      refine G.nil ?_
      refine QA.then_normal ?_
      refine C.seq ?_
      refine C.region ?_
      refine G.yl (yl_move rfl) rfl rfl rfl ?_
      refine G.yl (yl_fieldAddr fo47_7 rfl) rfl rfl rfl ?_
      refine G.yl (yl_load (v := (v16 i.Port)) ag45 rfl (View.at_ (j := 6) (View.span_tail (Sat.pick [2] h78).isBlk.view0) rfl)) rfl rfl rfl ?_
      refine G.yl (yl_16to64 us45 Try.underlying28 rfl) rfl rfl rfl ?_
      obtain ⟨r3_10, hy82, hm⟩ := sp_bind hm
      refine G.does (does_fn 2 rfl rfl rfl en87 (Sat.pick [0, 0, 0] h78) (fun U hU hp hr hs => M_inst_Bytes_1_po_w (n := i.Port.toUInt64) (width := 2) (x := r3_9) hp hy82)) rfl rfl rfl ?_
      rintro _ w85 ⟨U88, hb89, r183, r284, rfl, h87⟩
      have h86 : Sat W w85 [blk b19 [(.slice r183 r3_10.length r284)] 49, ow elU8 r183 r284 5 r3_10, blk b1 (bytesV (List.ofFn (n := 20) i.Publisher) ++ ([(v64 i.Seq), (v64 i.Born), (v32 i.Life), (.bool i.Gone), (v16 i.Priority), (v16 i.Weight), (v16 i.Port), (.string (str i.Target))] : List Value)) 47] := hb89 h87
      refine G.nil ?_
      refine QA.then_normal ?_
      refine C.seq ?_
      refine C.region ?_
      refine G.yl (yl_load (v := (.slice r183 r3_10.length r284)) ag49 rfl (View.at0 (j := 0) h86.isBlk.view0 rfl)) rfl rfl rfl ?_
      refine G.yl (yl_fieldAddr fo47_8 rfl) rfl rfl rfl ?_
      refine G.yl (yl_load (v := (.string (str i.Target))) ag9 rfl (View.at_ (j := 7) (View.span_tail (Sat.pick [2] h86).isBlk.view0) rfl)) rfl rfl rfl ?_
      obtain ⟨⟨r3_11, r4_2⟩, hy90, hm⟩ := sp_bind hm
      refine G.does (does_fn 0 rfl rfl rfl en89 h86 (fun U hU hp hr hs => M_octet_Text_v_w (b := r3_10) (s := i.Target) (Rest.view (Rest.front 1 hr)) (Sat.own_cap (Sat.pick [1] h86)).1 hp hy90)) rfl rfl rfl ?_
      rintro _ w93 ⟨U96, hb97, r191, r292, rfl, h95⟩
      have h94 : Sat W w93 [ow elU8 r191 r292 5 r3_11, blk b19 [(.slice r183 r3_10.length r284)] 49, ow elU8 r183 r284 5 r3_10, blk b1 (bytesV (List.ofFn (n := 20) i.Publisher) ++ ([(v64 i.Seq), (v64 i.Born), (v32 i.Life), (.bool i.Gone), (v16 i.Priority), (v16 i.Weight), (v16 i.Port), (.string (str i.Target))] : List Value)) 47] := hb97 h95
      refine G.yl (yl_extract rfl rfl) rfl rfl rfl ?_
      refine G.yl (yl_extract rfl rfl) rfl rfl rfl ?_
      refine G.yl (yl_assign rfl) rfl rfl rfl ?_
      refine G.yl (yl_assign rfl) rfl rfl rfl ?_
      refine G.nil ?_
      refine QA.then_normal ?_
      refine C.ret ?_
      refine QA.ret2 rfl rfl rfl ?_
      obtain ⟨rfl, rfl⟩ := sp_ret2 hm
      exact ⟨r191, r292, rfl, (Sat.pick [0] h94)⟩
  · refine C.cond_t rfl (not_t hc10) ?_
    refine C.seq ?_
    refine C.region ?_
    refine G.yl (yl_assign rfl) rfl rfl rfl ?_
    refine G.yl (yl_assign rfl) rfl rfl rfl ?_
    refine G.nil ?_
    refine QA.then_normal ?_
    refine C.ret ?_
    refine QA.then_ret ?_
    refine QA.ret2 rfl rfl rfl ?_
    obtain ⟨rfl, rfl⟩ := sp_ret2 hm
    exact ⟨none, 0, rfl, (Sat.pick [0] (Sat.own_zero h6 elU8 none 5))⟩
set_option maxRecDepth 20000 in
set_option maxHeartbeats 1000000 in
theorem M_inst_End_w {W : Base} {w : World} {i : G_api_Instance}  (h : Sat W w []) {r1 : UInt64} (hm : M_inst_End i = some r1) :
    Calls Try.prog 34 #[(.agg (bytesV (List.ofFn (n := 20) i.Publisher) ++ ([(v64 i.Seq), (v64 i.Born), (v32 i.Life), (.bool i.Gone), (v16 i.Priority), (v16 i.Weight), (v16 i.Port), (.string (str i.Target))] : List Value)).toArray)] w (Ret fun v w' => v = (v64 r1) ∧ Sat W w' []) := by
  unfold M_inst_End at hm
  refine C.enter (N := 16) Try.func34 rfl Try.ntmps34 rfl ?_
  show C _ _ _ [(0, (.agg (bytesV (List.ofFn (n := 20) i.Publisher) ++ ([(v64 i.Seq), (v64 i.Born), (v32 i.Life), (.bool i.Gone), (v16 i.Priority), (v16 i.Weight), (v16 i.Port), (.string (str i.Target))] : List Value)).toArray))] _ _
  refine C.seq ?_
  refine C.region ?_
  refine G.does (does_box (cs := (bytesV (List.ofFn (n := 20) i.Publisher) ++ ([(v64 i.Seq), (v64 i.Born), (v32 i.Life), (.bool i.Gone), (v16 i.Priority), (v16 i.Weight), (v16 i.Port), (.string (str i.Target))] : List Value))) h rfl rfl) rfl rfl rfl ?_
  rintro _ w2 ⟨b1, rfl, h3⟩
  refine G.yl (yl_assign rfl) rfl rfl rfl ?_
  refine G.nil ?_
  refine QA.then_normal ?_
  refine C.seq ?_
  refine C.seq ?_
  refine C.region ?_
  refine G.yl (yl_fieldAddr fo47_2 rfl) rfl rfl rfl ?_
  refine G.yl (yl_load (v := (v64 i.Born)) ag28 rfl (View.at_ (j := 1) (View.span_tail h3.isBlk.view0) rfl)) rfl rfl rfl ?_
  refine G.yl (yl_fieldAddr fo47_3 rfl) rfl rfl rfl ?_
  refine G.yl (yl_load (v := (v32 i.Life)) ag44 rfl (View.at_ (j := 2) (View.span_tail h3.isBlk.view0) rfl)) rfl rfl rfl ?_
  refine G.yl (yl_32to64 us44 Try.underlying28 rfl) rfl rfl rfl ?_
  refine G.yl (yl_sub64 (a := 18446744073709551615) rfl rfl) rfl rfl rfl ?_
  refine G.yl (yl_gt64 rfl rfl) rfl rfl rfl ?_
  refine G.nil ?_
  refine QA.then_normal ?_
  rcases sp_ite hm with ⟨hc4, hm⟩ | ⟨hc4, hm⟩
  · refine C.cond_t rfl (dec_t hc4) ?_
    refine C.seq ?_
    refine C.region ?_
    refine G.yl (yl_assign rfl) rfl rfl rfl ?_
    refine G.nil ?_
    refine QA.then_normal ?_
    refine C.ret ?_
    refine QA.then_ret ?_
    refine QA.ret1 rfl rfl ?_
    obtain rfl := sp_ret1 hm
    exact ⟨rfl, (Sat.pick [] h3)⟩
  · refine C.cond_f rfl (dec_f hc4) ?_
    refine C.skip ?_
    refine QA.then_normal ?_
    refine C.seq ?_
    refine C.region ?_
    refine G.yl (yl_fieldAddr fo47_2 rfl) rfl rfl rfl ?_
    refine G.yl (yl_load (v := (v64 i.Born)) ag28 rfl (View.at_ (j := 1) (View.span_tail h3.isBlk.view0) rfl)) rfl rfl rfl ?_
    refine G.yl (yl_fieldAddr fo47_3 rfl) rfl rfl rfl ?_
    refine G.yl (yl_load (v := (v32 i.Life)) ag44 rfl (View.at_ (j := 2) (View.span_tail h3.isBlk.view0) rfl)) rfl rfl rfl ?_
    refine G.yl (yl_32to64 us44 Try.underlying28 rfl) rfl rfl rfl ?_
    refine G.yl (yl_add64 rfl rfl) rfl rfl rfl ?_
    refine G.yl (yl_assign rfl) rfl rfl rfl ?_
    refine G.nil ?_
    refine QA.then_normal ?_
    refine C.ret ?_
    refine QA.ret1 rfl rfl ?_
    obtain rfl := sp_ret1 hm
    exact ⟨rfl, (Sat.pick [] h3)⟩
set_option maxRecDepth 20000 in
set_option maxHeartbeats 1000000 in
theorem M_inst_Over_w {W : Base} {w : World} {i : G_api_Instance} {now : UInt64}  (h : Sat W w []) {r1 : Bool} (hm : M_inst_Over i now = some r1) :
    Calls Try.prog 40 #[(.agg (bytesV (List.ofFn (n := 20) i.Publisher) ++ ([(v64 i.Seq), (v64 i.Born), (v32 i.Life), (.bool i.Gone), (v16 i.Priority), (v16 i.Weight), (v16 i.Port), (.string (str i.Target))] : List Value)).toArray), (v64 now)] w (Ret fun v w' => v = (.bool r1) ∧ Sat W w' []) := by
  unfold M_inst_Over at hm
  refine C.enter (N := 9) Try.func40 rfl Try.ntmps40 rfl ?_
  show C _ _ _ [(0, (.agg (bytesV (List.ofFn (n := 20) i.Publisher) ++ ([(v64 i.Seq), (v64 i.Born), (v32 i.Life), (.bool i.Gone), (v16 i.Priority), (v16 i.Weight), (v16 i.Port), (.string (str i.Target))] : List Value)).toArray)), (1, (v64 now))] _ _
  refine C.seq ?_
  refine C.region ?_
  refine G.does (does_box (cs := (bytesV (List.ofFn (n := 20) i.Publisher) ++ ([(v64 i.Seq), (v64 i.Born), (v32 i.Life), (.bool i.Gone), (v16 i.Priority), (v16 i.Weight), (v16 i.Port), (.string (str i.Target))] : List Value))) h rfl rfl) rfl rfl rfl ?_
  rintro _ w2 ⟨b1, rfl, h3⟩
  refine G.yl (yl_assign rfl) rfl rfl rfl ?_
  refine G.nil ?_
  refine QA.then_normal ?_
  refine C.seq ?_
  refine C.region ?_
  refine G.yl (yl_move rfl) rfl rfl rfl ?_
  refine G.yl (yl_loadN (vs := (bytesV (List.ofFn (n := 20) i.Publisher) ++ ([(v64 i.Seq), (v64 i.Born), (v32 i.Life), (.bool i.Gone), (v16 i.Priority), (v16 i.Weight), (v16 i.Port), (.string (str i.Target))] : List Value))) ag47 sz47 (by simp [bytesV_length]) rfl (h3.isBlk.view0)) rfl rfl rfl ?_
  obtain ⟨r1_2, hy4, hm⟩ := sp_bind hm
  refine G.does (does_fn 0 rfl rfl rfl en34 h3 (fun U hU hp hr hs => M_inst_End_w (i := i) hp hy4)) rfl rfl rfl ?_
  rintro _ w5 ⟨U8, hb9, rfl, h7⟩
  have h6 : Sat W w5 [blk b1 (bytesV (List.ofFn (n := 20) i.Publisher) ++ ([(v64 i.Seq), (v64 i.Born), (v32 i.Life), (.bool i.Gone), (v16 i.Priority), (v16 i.Weight), (v16 i.Port), (.string (str i.Target))] : List Value)) 47] := hb9 h7
  refine G.yl (yl_ge64 rfl rfl) rfl rfl rfl ?_
  refine G.yl (yl_assign rfl) rfl rfl rfl ?_
  refine G.nil ?_
  refine QA.then_normal ?_
  refine C.ret ?_
  refine QA.ret1 rfl rfl ?_
  obtain rfl := sp_ret1 hm
  exact ⟨rfl, (Sat.pick [] h6)⟩
set_option maxRecDepth 20000 in
set_option maxHeartbeats 1000000 in
theorem M_inst_Alive_w {W : Base} {w : World} {i : G_api_Instance} {now : UInt64}  (h : Sat W w []) {r1 : Bool} (hm : M_inst_Alive i now = some r1) :
    Calls Try.prog 36 #[(.agg (bytesV (List.ofFn (n := 20) i.Publisher) ++ ([(v64 i.Seq), (v64 i.Born), (v32 i.Life), (.bool i.Gone), (v16 i.Priority), (v16 i.Weight), (v16 i.Port), (.string (str i.Target))] : List Value)).toArray), (v64 now)] w (Ret fun v w' => v = (.bool r1) ∧ Sat W w' []) := by
  unfold M_inst_Alive at hm
  refine C.enter (N := 15) Try.func36 rfl Try.ntmps36 rfl ?_
  show C _ _ _ [(0, (.agg (bytesV (List.ofFn (n := 20) i.Publisher) ++ ([(v64 i.Seq), (v64 i.Born), (v32 i.Life), (.bool i.Gone), (v16 i.Priority), (v16 i.Weight), (v16 i.Port), (.string (str i.Target))] : List Value)).toArray)), (1, (v64 now))] _ _
  refine C.seq ?_
  refine C.region ?_
  refine G.does (does_box (cs := (bytesV (List.ofFn (n := 20) i.Publisher) ++ ([(v64 i.Seq), (v64 i.Born), (v32 i.Life), (.bool i.Gone), (v16 i.Priority), (v16 i.Weight), (v16 i.Port), (.string (str i.Target))] : List Value))) h rfl rfl) rfl rfl rfl ?_
  rintro _ w2 ⟨b1, rfl, h3⟩
  refine G.yl (yl_assign rfl) rfl rfl rfl ?_
  refine G.nil ?_
  refine QA.then_normal ?_
  refine C.seq ?_
  refine C.region ?_
  refine G.yl (yl_move rfl) rfl rfl rfl ?_
  refine G.yl (yl_fieldAddr fo47_2 rfl) rfl rfl rfl ?_
  refine G.yl (yl_load (v := (v64 i.Born)) ag28 rfl (View.at_ (j := 1) (View.span_tail h3.isBlk.view0) rfl)) rfl rfl rfl ?_
  refine G.yl (yl_ge64 rfl rfl) rfl rfl rfl ?_
  refine G.yl (yl_move rfl) rfl rfl rfl ?_
  rcases sp_ite hm with ⟨hc4, hm⟩ | ⟨hc4, hm⟩
  · refine G.on rfl rfl (dec_t hc4) ?_
    refine G.yl (yl_loadN (vs := (bytesV (List.ofFn (n := 20) i.Publisher) ++ ([(v64 i.Seq), (v64 i.Born), (v32 i.Life), (.bool i.Gone), (v16 i.Priority), (v16 i.Weight), (v16 i.Port), (.string (str i.Target))] : List Value))) ag47 sz47 (by simp [bytesV_length]) rfl (h3.isBlk.view0)) rfl rfl rfl ?_
    refine G.on rfl rfl (dec_t hc4) ?_
    refine G.yl (yl_move rfl) rfl rfl rfl ?_
    refine G.on rfl rfl (dec_t hc4) ?_
    obtain ⟨r1_2, hy5, hm⟩ := sp_bind hm
    refine G.does (does_fn 0 rfl rfl rfl en40 h3 (fun U hU hp hr hs => M_inst_Over_w (i := i) (now := now) hp hy5)) rfl rfl rfl ?_
    rintro _ w6 ⟨U9, hb10, rfl, h8⟩
    have h7 : Sat W w6 [blk b1 (bytesV (List.ofFn (n := 20) i.Publisher) ++ ([(v64 i.Seq), (v64 i.Born), (v32 i.Life), (.bool i.Gone), (v16 i.Priority), (v16 i.Weight), (v16 i.Port), (.string (str i.Target))] : List Value)) 47] := hb10 h8
    refine G.on rfl rfl (dec_t hc4) ?_
    refine G.yl (yl_not rfl) rfl rfl rfl ?_
    refine G.yl (yl_pick_t rfl (dec_t hc4) rfl) rfl rfl rfl ?_
    refine G.yl (yl_assign rfl) rfl rfl rfl ?_
    refine G.nil ?_
    refine QA.then_normal ?_
    refine C.ret ?_
    refine QA.ret1 rfl rfl ?_
    obtain rfl := sp_ret1 hm
    exact ⟨rfl, (Sat.pick [] h7)⟩
  · refine G.offU rfl rfl (dec_f hc4) rfl ?_
    refine G.offU rfl rfl (dec_f hc4) rfl ?_
    refine G.offU rfl rfl (dec_f hc4) rfl ?_
    refine G.offU rfl rfl (dec_f hc4) rfl ?_
    refine G.yl (yl_pick_f rfl (dec_f hc4) rfl) rfl rfl rfl ?_
    refine G.yl (yl_assign rfl) rfl rfl rfl ?_
    refine G.nil ?_
    refine QA.then_normal ?_
    refine C.ret ?_
    refine QA.ret1 rfl rfl ?_
    obtain rfl := sp_ret1 hm
    exact ⟨rfl, (Sat.pick [] h3)⟩
set_option maxRecDepth 20000 in
set_option maxHeartbeats 1000000 in
theorem M_inst_Left_w {W : Base} {w : World} {i : G_api_Instance} {now : UInt64}  (h : Sat W w []) {r1 : UInt32} (hm : M_inst_Left i now = some r1) :
    Calls Try.prog 38 #[(.agg (bytesV (List.ofFn (n := 20) i.Publisher) ++ ([(v64 i.Seq), (v64 i.Born), (v32 i.Life), (.bool i.Gone), (v16 i.Priority), (v16 i.Weight), (v16 i.Port), (.string (str i.Target))] : List Value)).toArray), (v64 now)] w (Ret fun v w' => v = (v32 r1) ∧ Sat W w' []) := by
  unfold M_inst_Left at hm
  refine C.enter (N := 14) Try.func38 rfl Try.ntmps38 rfl ?_
  show C _ _ _ [(0, (.agg (bytesV (List.ofFn (n := 20) i.Publisher) ++ ([(v64 i.Seq), (v64 i.Born), (v32 i.Life), (.bool i.Gone), (v16 i.Priority), (v16 i.Weight), (v16 i.Port), (.string (str i.Target))] : List Value)).toArray)), (1, (v64 now))] _ _
  refine C.seq ?_
  refine C.region ?_
  refine G.does (does_box (cs := (bytesV (List.ofFn (n := 20) i.Publisher) ++ ([(v64 i.Seq), (v64 i.Born), (v32 i.Life), (.bool i.Gone), (v16 i.Priority), (v16 i.Weight), (v16 i.Port), (.string (str i.Target))] : List Value))) h rfl rfl) rfl rfl rfl ?_
  rintro _ w2 ⟨b1, rfl, h3⟩
  refine G.yl (yl_assign rfl) rfl rfl rfl ?_
  refine G.nil ?_
  refine QA.then_normal ?_
  refine C.seq ?_
  refine C.seq ?_
  refine C.region ?_
  refine G.yl (yl_loadN (vs := (bytesV (List.ofFn (n := 20) i.Publisher) ++ ([(v64 i.Seq), (v64 i.Born), (v32 i.Life), (.bool i.Gone), (v16 i.Priority), (v16 i.Weight), (v16 i.Port), (.string (str i.Target))] : List Value))) ag47 sz47 (by simp [bytesV_length]) rfl (h3.isBlk.view0)) rfl rfl rfl ?_
  refine G.yl (yl_move rfl) rfl rfl rfl ?_
  obtain ⟨r1_2, hy4, hm⟩ := sp_bind hm
  refine G.does (does_fn 0 rfl rfl rfl en36 h3 (fun U hU hp hr hs => M_inst_Alive_w (i := i) (now := now) hp hy4)) rfl rfl rfl ?_
  rintro _ w5 ⟨U8, hb9, rfl, h7⟩
  have h6 : Sat W w5 [blk b1 (bytesV (List.ofFn (n := 20) i.Publisher) ++ ([(v64 i.Seq), (v64 i.Born), (v32 i.Life), (.bool i.Gone), (v16 i.Priority), (v16 i.Weight), (v16 i.Port), (.string (str i.Target))] : List Value)) 47] := hb9 h7
  refine G.yl (yl_not rfl) rfl rfl rfl ?_
  refine G.nil ?_
  refine QA.then_normal ?_
  rcases sp_b hm with ⟨hc10, hm⟩ | ⟨hc10, hm⟩
  · refine C.cond_f rfl (not_f hc10) ?_
    refine C.skip ?_
    refine QA.then_normal ?_
    refine C.seq ?_
    refine C.region ?_
    refine G.yl (yl_loadN (vs := (bytesV (List.ofFn (n := 20) i.Publisher) ++ ([(v64 i.Seq), (v64 i.Born), (v32 i.Life), (.bool i.Gone), (v16 i.Priority), (v16 i.Weight), (v16 i.Port), (.string (str i.Target))] : List Value))) ag47 sz47 (by simp [bytesV_length]) rfl (h6.isBlk.view0)) rfl rfl rfl ?_
    obtain ⟨r1_3, hy11, hm⟩ := sp_bind hm
    refine G.does (does_fn 0 rfl rfl rfl en34 h6 (fun U hU hp hr hs => M_inst_End_w (i := i) hp hy11)) rfl rfl rfl ?_
    rintro _ w12 ⟨U15, hb16, rfl, h14⟩
    have h13 : Sat W w12 [blk b1 (bytesV (List.ofFn (n := 20) i.Publisher) ++ ([(v64 i.Seq), (v64 i.Born), (v32 i.Life), (.bool i.Gone), (v16 i.Priority), (v16 i.Weight), (v16 i.Port), (.string (str i.Target))] : List Value)) 47] := hb16 h14
    refine G.yl (yl_move rfl) rfl rfl rfl ?_
    refine G.yl (yl_sub64 rfl rfl) rfl rfl rfl ?_
    refine G.yl (yl_64to32 us28 Try.underlying44 rfl) rfl rfl rfl ?_
    refine G.yl (yl_assign rfl) rfl rfl rfl ?_
    refine G.nil ?_
    refine QA.then_normal ?_
    refine C.ret ?_
    refine QA.ret1 rfl rfl ?_
    obtain rfl := sp_ret1 hm
    exact ⟨rfl, (Sat.pick [] h13)⟩
  · refine C.cond_t rfl (not_t hc10) ?_
    refine C.seq ?_
    refine C.region ?_
    refine G.yl (yl_assign rfl) rfl rfl rfl ?_
    refine G.nil ?_
    refine QA.then_normal ?_
    refine C.ret ?_
    refine QA.then_ret ?_
    refine QA.ret1 rfl rfl ?_
    obtain rfl := sp_ret1 hm
    exact ⟨rfl, (Sat.pick [] h6)⟩
end Go.Proofs.Ytgabplankmljfaa
