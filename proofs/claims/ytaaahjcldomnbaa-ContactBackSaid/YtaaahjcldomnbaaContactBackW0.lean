/-
  That the functions of the program compute what their Lean functions say, part 0. No condition.
-/
import Derived.Test.YtaaahjcldomnbaaContactBackFct
namespace Go.Proofs.Ytaaahjcldomnbaa
open Go Go.RowKit
set_option linter.unusedVariables false
set_option linter.unusedSimpArgs false
set_option linter.unnecessarySimpa false
set_option maxRecDepth 20000 in
theorem M_addr_Good_w {W : Base} {w : World} {a : G_api_Addr}  (h : Sat W w []) {r1 : Bool} (hm : M_addr_Good a = some r1) :
    Calls Try.prog 91 #[(.agg #[(v32 a.Host), (v16 a.Port)])] w (Ret fun v w' => v = (.bool r1) ∧ Sat W w' []) := by
  unfold M_addr_Good at hm
  refine C.enter (N := 16) Try.func91 rfl Try.ntmps91 rfl ?_
  show C _ _ _ [(0, (.agg #[(v32 a.Host), (v16 a.Port)]))] _ _
  refine C.seq ?_
  refine C.region ?_
  refine G.does (does_box (cs := [(v32 a.Host), (v16 a.Port)]) h rfl rfl) rfl rfl rfl ?_
  rintro _ w2 ⟨b1, rfl, h3⟩
  refine G.yl (yl_assign rfl) rfl rfl rfl ?_
  refine G.nil ?_
  refine QA.then_normal ?_
  refine C.seq ?_
  refine C.region ?_
  refine G.yl (yl_fieldAddr fo58_0 rfl) rfl rfl rfl ?_
  refine G.yl (yl_load (v := (v32 a.Host)) ag41 rfl (View.at0 (j := 0) h3.isBlk.view0 rfl)) rfl rfl rfl ?_
  refine G.yl (yl_ne32 (b := 0) rfl rfl) rfl rfl rfl ?_
  refine G.yl (yl_move rfl) rfl rfl rfl ?_
  rcases sp_ite hm with ⟨hc4, hm⟩ | ⟨hc4, hm⟩
  · refine G.offU rfl rfl (not_f (dec_t hc4)) rfl ?_
    refine G.offU rfl rfl (not_f (dec_t hc4)) rfl ?_
    refine G.offU rfl rfl (not_f (dec_t hc4)) rfl ?_
    refine G.yl (yl_pick_f rfl (not_f (dec_t hc4)) rfl) rfl rfl rfl ?_
    refine G.yl (yl_move rfl) rfl rfl rfl ?_
    refine G.offU rfl rfl rfl rfl ?_
    refine G.offU rfl rfl rfl rfl ?_
    refine G.offU rfl rfl rfl rfl ?_
    refine G.yl (yl_pick_f rfl rfl rfl) rfl rfl rfl ?_
    refine G.yl (yl_assign rfl) rfl rfl rfl ?_
    refine G.nil ?_
    refine QA.then_normal ?_
    refine C.ret ?_
    refine QA.ret1 rfl rfl ?_
    obtain rfl := sp_ret1 hm
    exact ⟨rfl, (Sat.pick [] h3)⟩
  · refine G.on rfl rfl (not_t (dec_f hc4)) ?_
    refine G.yl (yl_fieldAddr fo58_1 rfl) rfl rfl rfl ?_
    refine G.on rfl rfl (not_t (dec_f hc4)) ?_
    refine G.yl (yl_load (v := (v16 a.Port)) ag56 rfl (View.at0 (j := 1) h3.isBlk.view0 rfl)) rfl rfl rfl ?_
    refine G.on rfl rfl (not_t (dec_f hc4)) ?_
    refine G.yl (yl_ne16 (b := 0) rfl rfl) rfl rfl rfl ?_
    refine G.yl (yl_pick_t rfl (not_t (dec_f hc4)) rfl) rfl rfl rfl ?_
    refine G.yl (yl_move rfl) rfl rfl rfl ?_
    rcases sp_ite hm with ⟨hc5, hm⟩ | ⟨hc5, hm⟩
    · refine G.offU rfl rfl (not_f (dec_t hc5)) rfl ?_
      refine G.offU rfl rfl (not_f (dec_t hc5)) rfl ?_
      refine G.offU rfl rfl (not_f (dec_t hc5)) rfl ?_
      refine G.yl (yl_pick_f rfl (not_f (dec_t hc5)) rfl) rfl rfl rfl ?_
      refine G.yl (yl_assign rfl) rfl rfl rfl ?_
      refine G.nil ?_
      refine QA.then_normal ?_
      refine C.ret ?_
      refine QA.ret1 rfl rfl ?_
      obtain rfl := sp_ret1 hm
      exact ⟨rfl, (Sat.pick [] h3)⟩
    · refine G.on rfl rfl (not_t (dec_f hc5)) ?_
      refine G.yl (yl_loadN (vs := [(v32 a.Host), (v16 a.Port)]) ag58 sz58 (by simp [bytesV_length]) rfl ((View.drop h3.isBlk.view0 0).take 2)) rfl rfl rfl ?_
      refine G.on rfl rfl (not_t (dec_f hc5)) ?_
      refine G.yl (yl_build (vs := []) (cells := #[(.int .u32 0), (.int .u16 0)]) rfl (by kernel_rfl)) rfl rfl rfl ?_
      refine G.on rfl rfl (not_t (dec_f hc5)) ?_
      refine G.yl (yl_ne_agg (r := decide (a = (G_api_Addr.mk 0 0))) (vs := (el_G_api_Addr.f a)) (us := (el_G_api_Addr.f (G_api_Addr.mk 0 0))) rfl rfl (by rw [decide_eq_true_eq]; exact G_api_Addr_inj) eqT58.1 eqT58.2.1 eqT58.2.2.1 eqT58.2.2.2.1 eqT58.2.2.2.2 (G_api_Addr_fits a) (G_api_Addr_fits (G_api_Addr.mk 0 0))) rfl rfl rfl ?_
      refine G.yl (yl_pick_t rfl (not_t (dec_f hc5)) rfl) rfl rfl rfl ?_
      refine G.yl (yl_assign rfl) rfl rfl rfl ?_
      refine G.nil ?_
      refine QA.then_normal ?_
      refine C.ret ?_
      refine QA.ret1 rfl rfl ?_
      obtain rfl := sp_ret1 hm
      exact ⟨rfl, (Sat.pick [] h3)⟩
set_option maxRecDepth 20000 in
theorem M_contact_Good_w {W : Base} {w : World} {c : G_api_Contact}  (h : Sat W w []) {r1 : Bool} (hm : M_contact_Good c = some r1) :
    Calls Try.prog 56 #[(.agg (bytesV (List.ofFn (n := 20) c.ID) ++ ([(v32 c.Addr.Host), (v16 c.Addr.Port)] : List Value)).toArray)] w (Ret fun v w' => v = (.bool r1) ∧ Sat W w' []) := by
  unfold M_contact_Good at hm
  refine C.enter (N := 6) Try.func56 rfl Try.ntmps56 rfl ?_
  show C _ _ _ [(0, (.agg (bytesV (List.ofFn (n := 20) c.ID) ++ ([(v32 c.Addr.Host), (v16 c.Addr.Port)] : List Value)).toArray))] _ _
  refine C.seq ?_
  refine C.region ?_
  refine G.does (does_box (cs := (bytesV (List.ofFn (n := 20) c.ID) ++ ([(v32 c.Addr.Host), (v16 c.Addr.Port)] : List Value))) h rfl rfl) rfl rfl rfl ?_
  rintro _ w2 ⟨b1, rfl, h3⟩
  refine G.yl (yl_assign rfl) rfl rfl rfl ?_
  refine G.nil ?_
  refine QA.then_normal ?_
  refine C.seq ?_
  refine C.region ?_
  refine G.yl (yl_fieldAddr fo60_1 rfl) rfl rfl rfl ?_
  refine G.yl (yl_loadN (vs := [(v32 c.Addr.Host), (v16 c.Addr.Port)]) ag58 sz58 (by simp [bytesV_length]) rfl (View.span_tail h3.isBlk.view0)) rfl rfl rfl ?_
  obtain ⟨r1_2, hy4, hm⟩ := sp_bind hm
  refine G.does (does_fn 0 rfl rfl rfl en91 h3 (fun U hU hp hr hs => M_addr_Good_w (a := c.Addr) hp hy4)) rfl rfl rfl ?_
  rintro _ w5 ⟨U8, hb9, rfl, h7⟩
  have h6 : Sat W w5 [blk b1 (bytesV (List.ofFn (n := 20) c.ID) ++ ([(v32 c.Addr.Host), (v16 c.Addr.Port)] : List Value)) 60] := hb9 h7
  refine G.yl (yl_assign rfl) rfl rfl rfl ?_
  refine G.nil ?_
  refine QA.then_normal ?_
  refine C.ret ?_
  refine QA.ret1 rfl rfl ?_
  obtain rfl := sp_ret1 hm
  exact ⟨rfl, (Sat.pick [] h6)⟩
set_option maxRecDepth 20000 in
theorem M_contact_Find_1_p_w {W : Base} {w : World} {c : G_api_Contact} {b : Nat} {x : Fin 20 → UInt8}  (h : Sat W w [blk b (bytesV (List.ofFn (n := 20) x)) 55])  (hm : M_contact_Find_1_p c x = some ()) :
    Calls Try.prog 102 #[(.agg (bytesV (List.ofFn (n := 20) c.ID) ++ ([(v32 c.Addr.Host), (v16 c.Addr.Port)] : List Value)).toArray), (.pointer (some ⟨b, 0, none⟩))] w (Ret fun v w' => v = (.bool (decide (c.ID = x))) ∧ Sat W w' [blk b (bytesV (List.ofFn (n := 20) x)) 55]) := by
  unfold M_contact_Find_1_p at hm
  refine C.enter (N := 8) Try.func102 rfl Try.ntmps102 rfl ?_
  show C _ _ _ [(0, (.agg (bytesV (List.ofFn (n := 20) c.ID) ++ ([(v32 c.Addr.Host), (v16 c.Addr.Port)] : List Value)).toArray)), (1, (.pointer (some ⟨b, 0, none⟩)))] _ _
  refine C.seq ?_
  refine C.region ?_
  refine G.does (does_box (cs := (bytesV (List.ofFn (n := 20) c.ID) ++ ([(v32 c.Addr.Host), (v16 c.Addr.Port)] : List Value))) h rfl rfl) rfl rfl rfl ?_
  rintro _ w2 ⟨b1, rfl, h3⟩
  refine G.yl (yl_assign rfl) rfl rfl rfl ?_
  refine G.nil ?_
  refine QA.then_normal ?_
  refine C.seq ?_
  refine C.region ?_
  refine G.yl (yl_fieldAddr fo60_0 rfl) rfl rfl rfl ?_
  refine G.yl (yl_loadN (vs := (bytesV (List.ofFn (n := 20) c.ID))) ag55 sz55 (by simp [bytesV_length]) rfl (View.span_head h3.isBlk.view0)) rfl rfl rfl ?_
  refine G.yl (yl_loadN (vs := (bytesV (List.ofFn (n := 20) x))) ag55 sz55 (by simp [bytesV_length]) rfl ((Sat.pick [1] h3).isBlk.view0)) rfl rfl rfl ?_
  refine G.yl (yl_eq_agg (r := decide (c.ID = x)) (vs := (bytesV (List.ofFn c.ID))) (us := (bytesV (List.ofFn x))) rfl rfl (by rw [decide_eq_true_eq]; exact arr_inj) eqT55.1 eqT55.2.1 eqT55.2.2.1 eqT55.2.2.2.1 eqT55.2.2.2.2 (fits_span _) (fits_span _)) rfl rfl rfl ?_
  refine G.yl (yl_assign rfl) rfl rfl rfl ?_
  refine G.nil ?_
  refine QA.then_normal ?_
  refine C.ret ?_
  refine QA.ret1 rfl rfl ?_
  exact ⟨rfl, (Sat.pick [1] h3)⟩
set_option maxRecDepth 20000 in
theorem M_slices_IndexFunc_Contact_v_contact_Find_1p_w {W : Base} {w : World} {a : Option Addr} {c : Nat} {s : List G_api_Contact} {b : Nat} {f : Fin 20 → UInt8} (hv_s : V W a (el_G_api_Contact.row s)) (hq_s : s.length ≤ c) (h : Sat W w [blk b (bytesV (List.ofFn (n := 20) f)) 55]) {r1 : Int} (hm : M_slices_IndexFunc_Contact_v_contact_Find_1p s f = some r1) :
    Calls Try.prog 101 #[(.slice a s.length c), (.func (.func 102) #[] #[(.pointer (some ⟨b, 0, none⟩))])] w (Ret fun v w' => v = (vI r1) ∧ Sat W w' [blk b (bytesV (List.ofFn (n := 20) f)) 55]) := by
  unfold M_slices_IndexFunc_Contact_v_contact_Find_1p at hm
  refine C.enter (N := 19) Try.func101 rfl Try.ntmps101 rfl ?_
  show C _ _ _ [(0, (.slice a s.length c)), (1, (.func (.func 102) #[] #[(.pointer (some ⟨b, 0, none⟩))]))] _ _
  refine C.seq ?_
  refine C.region ?_
  refine G.yl (yl_assign rfl) rfl rfl rfl ?_
  refine G.nil ?_
  refine QA.then_normal ?_
  refine C.seq ?_
  refine C.seq ?_
  refine C.region ?_
  refine G.yl (yl_move rfl) rfl rfl rfl ?_
  refine G.yl (yl_lenE Try.underlying74 rfl) rfl rfl rfl ?_
  refine G.yl (yl_move rfl) rfl rfl rfl ?_
  refine G.nil ?_
  refine QA.then_normal ?_
  refine C.block ?_
  obtain ⟨o, ho1, hm2⟩ := sp_bind hm
  refine C.left (γ := Unit) (.exit 0) (fun g => match g with | () => [(4, (vI 0))]) (fun g ww => match g with | () => .inl () = o ∧ Sat W ww [blk b (bytesV (List.ofFn (n := 20) f)) 55]) ?_ ?_
  · refine C.loopO (γ := Int) (fun g => match g with | t8 => [(0, (.slice a s.length c)), (1, (.func (.func 102) #[] #[(.pointer (some ⟨b, 0, none⟩))])), (4, (vI 0)), (7, (vI (s.length : Int))), (8, (vI t8))]) (fun g ww => match g with | t8 => Sat W ww [blk b (bytesV (List.ofFn (n := 20) f)) 55]) (fun g => match g with | t8 => t8) 0 ho1 (Sub.of ⟨rfl, rfl, rfl, rfl, rfl, trivial⟩) (Sat.pick [0] h) ?_
    rintro t8 k5 w3 y_ h4 hm hg6
    show C _ _ _ [(0, (.slice a s.length c)), (1, (.func (.func 102) #[] #[(.pointer (some ⟨b, 0, none⟩))])), (4, (vI 0)), (7, (vI (s.length : Int))), (8, (vI t8))] _ _
    change M_slices_IndexFunc_Contact_v_contact_Find_1p_b1 f s t8 = some y_ at hm
    unfold M_slices_IndexFunc_Contact_v_contact_Find_1p_b1 at hm
    refine C.seq ?_
    refine C.region ?_
    refine G.yl (yl_ltI rfl rfl) rfl rfl rfl ?_
    refine G.nil ?_
    refine QA.then_normal ?_
    refine C.seq ?_
    rcases sp_ite hm with ⟨hc7, hm⟩ | ⟨hc7, hm⟩
    · refine C.cond_t rfl (dec_t hc7) ?_
      refine C.skip ?_
      refine QA.then_normal ?_
      refine C.seq ?_
      refine C.block ?_
      refine C.seq ?_
      refine C.region ?_
      refine G.yl (yl_move rfl) rfl rfl rfl ?_
      refine G.yl (yl_assign rfl) rfl rfl rfl ?_
      refine G.nil ?_
      refine QA.then_normal ?_
      refine C.seq ?_
      refine C.region ?_
      refine G.yl (yl_move rfl) rfl rfl rfl ?_
      refine G.yl (yl_move rfl) rfl rfl rfl ?_
      refine G.yl (yl_move rfl) rfl rfl rfl ?_
      obtain ⟨x, hy8, hm⟩ := sp_bind hm
      refine G.yl (yl_ixP (l := s) sl74 rfl rfl (View.isA (E := el_G_api_Contact) (hv_s.at_ h4) (by decide) (at?_lt hy8)) rfl (at?_lt hy8)) rfl rfl rfl ?_
      refine G.yl (yl_ldE (E := el_G_api_Contact) ag60 sz60 rfl (hv_s.at_ h4) (at?_some hy8).2) rfl rfl rfl ?_
      obtain ⟨_, hy9, hm⟩ := sp_bind hm
      refine G.does (does_fn 1 rfl rfl rfl en102 (Sat.pick [0] h4) (fun U hU hp hr hs => M_contact_Find_1_p_w (c := x) hp hy9)) rfl rfl rfl ?_
      rintro _ w10 ⟨U13, hb14, rfl, h12⟩
      have h11 : Sat W w10 [blk b (bytesV (List.ofFn (n := 20) f)) 55] := hb14 h12
      refine G.nil ?_
      refine QA.then_normal ?_
      rcases sp_ite hm with ⟨hc15, hm⟩ | ⟨hc15, hm⟩
      · refine C.cond_t rfl (dec_t hc15) ?_
        refine C.seq ?_
        refine C.region ?_
        refine G.yl (yl_move rfl) rfl rfl rfl ?_
        refine G.yl (yl_assign rfl) rfl rfl rfl ?_
        refine G.nil ?_
        refine QA.then_normal ?_
        refine C.ret ?_
        refine QA.block_ret ?_
        refine QA.then_ret ?_
        refine QA.then_ret ?_
        refine QA.past (by simp) ?_
        refine QA.block_ret ?_
        refine QA.then_ret ?_
        refine QA.ret1 rfl rfl ?_
        obtain rfl := sp_ret1 hm
        obtain rfl : .inr t8 = o := hg6
        have hm : some t8 = some r1 := hm2
        obtain rfl := sp_ret1 hm
        exact ⟨rfl, (Sat.pick [0] h11)⟩
      · refine C.cond_f rfl (dec_f hc15) ?_
        refine C.skip ?_
        refine QA.block_normal ?_
        refine QA.then_normal ?_
        refine C.region ?_
        obtain ⟨hc16, hm⟩ := sp_chk hm
        refine G.yl (yl_addI rfl rfl hc16) rfl rfl rfl ?_
        refine G.yl (yl_move rfl) rfl rfl rfl ?_
        refine G.nil ?_
        obtain rfl := sp_ret1 hm
        exact QA.againO (t8 + 1) hg6 (Sub.of ⟨rfl, rfl, rfl, rfl, rfl, trivial⟩) (Sat.pick [0] h11)
    · refine C.cond_f rfl (dec_f hc7) ?_
      refine C.exit ?_
      refine QA.then_exit ?_
      refine QA.then_exit ?_
      obtain rfl := sp_ret1 hm
      exact QA.left () (Sub.of ⟨rfl, trivial⟩) ⟨hg6, (Sat.pick [0] h4)⟩
  · rintro _ w17 ⟨rfl, h18⟩
    have hm := hm2
    show QA _ _ [(4, (vI 0))] _ _
    refine QA.block_here ?_
    refine QA.then_normal ?_
    refine C.seq ?_
    refine C.region ?_
    refine G.yl (yl_assign rfl) rfl rfl rfl ?_
    refine G.nil ?_
    refine QA.then_normal ?_
    refine C.ret ?_
    refine QA.ret1 rfl rfl ?_
    obtain rfl := sp_ret1 hm
    exact ⟨rfl, (Sat.pick [0] h18)⟩
set_option maxRecDepth 20000 in
theorem M_contact_Find_v_w {W : Base} {w : World} {a : Option Addr} {c : Nat} {l : List G_api_Contact} {id : Fin 20 → UInt8} (hv_l : V W a (el_G_api_Contact.row l)) (hq_l : l.length ≤ c) (h : Sat W w []) {r1 : Int} (hm : M_contact_Find_v l id = some r1) :
    Calls Try.prog 62 #[(.slice a l.length c), (.agg (bytesV (List.ofFn (n := 20) id)).toArray)] w (Ret fun v w' => v = (vI r1) ∧ Sat W w' []) := by
  unfold M_contact_Find_v at hm
  refine C.enter (N := 8) Try.func62 rfl Try.ntmps62 rfl ?_
  show C _ _ _ [(0, (.slice a l.length c)), (1, (.agg (bytesV (List.ofFn (n := 20) id)).toArray))] _ _
  refine C.seq ?_
  refine C.region ?_
  refine G.does (does_box (cs := (bytesV (List.ofFn (n := 20) id))) h rfl rfl) rfl rfl rfl ?_
  rintro _ w2 ⟨b1, rfl, h3⟩
  refine G.yl (yl_assign rfl) rfl rfl rfl ?_
  refine G.nil ?_
  refine QA.then_normal ?_
  refine C.seq ?_
  refine C.region ?_
  refine G.yl (yl_move rfl) rfl rfl rfl ?_
  refine G.yl (yl_func rfl rfl) rfl rfl rfl ?_
  obtain ⟨r1_2, hy4, hm⟩ := sp_bind hm
  refine G.does (does_fn 1 rfl rfl rfl en101 (Sat.pick [0] h3) (fun U hU hp hr hs => M_slices_IndexFunc_Contact_v_contact_Find_1p_w (hs.v hv_l) hq_l hp hy4)) rfl rfl rfl ?_
  rintro _ w5 ⟨U8, hb9, rfl, h7⟩
  have h6 : Sat W w5 [blk b1 (bytesV (List.ofFn (n := 20) id)) 55] := hb9 h7
  refine G.yl (yl_assign rfl) rfl rfl rfl ?_
  refine G.nil ?_
  refine QA.then_normal ?_
  refine C.ret ?_
  refine QA.ret1 rfl rfl ?_
  obtain rfl := sp_ret1 hm
  exact ⟨rfl, (Sat.pick [] h6)⟩
set_option maxRecDepth 20000 in
theorem M_contact_good_v_w {W : Base} {w : World} {a : Option Addr} {c : Nat} {l : List G_api_Contact} (hv_l : V W a (el_G_api_Contact.row l)) (hq_l : l.length ≤ c) (h : Sat W w []) {r1 : Bool} (hm : M_contact_good_v l = some r1) :
    Calls Try.prog 77 #[(.slice a l.length c)] w (Ret fun v w' => v = (.bool r1) ∧ Sat W w' []) := by
  unfold M_contact_good_v at hm
  refine C.enter (N := 27) Try.func77 rfl Try.ntmps77 rfl ?_
  show C _ _ _ [(0, (.slice a l.length c))] _ _
  refine C.seq ?_
  refine C.region ?_
  refine G.yl (yl_assign rfl) rfl rfl rfl ?_
  refine G.nil ?_
  refine QA.then_normal ?_
  refine C.seq ?_
  refine C.seq ?_
  refine C.region ?_
  refine G.yl (yl_move rfl) rfl rfl rfl ?_
  refine G.yl (yl_lenE Try.underlying74 rfl) rfl rfl rfl ?_
  refine G.yl (yl_move rfl) rfl rfl rfl ?_
  refine G.nil ?_
  refine QA.then_normal ?_
  refine C.block ?_
  obtain ⟨o, ho1, hm2⟩ := sp_bind hm
  refine C.left (γ := Unit) (.exit 0) (fun g => match g with | () => [(0, (.slice a l.length c)), (2, (.bool false))]) (fun g ww => match g with | () => .inl () = o ∧ Sat W ww []) ?_ ?_
  · refine C.loopO (γ := Int) (fun g => match g with | t7 => [(0, (.slice a l.length c)), (2, (.bool false)), (5, (.slice a l.length c)), (6, (vI (l.length : Int))), (7, (vI t7))]) (fun g ww => match g with | t7 => Sat W ww []) (fun g => match g with | t7 => t7) 0 ho1 (Sub.of ⟨rfl, rfl, rfl, rfl, rfl, trivial⟩) (Sat.pick [] h) ?_
    rintro t7 k5 w3 y_ h4 hm hg6
    show C _ _ _ [(0, (.slice a l.length c)), (2, (.bool false)), (5, (.slice a l.length c)), (6, (vI (l.length : Int))), (7, (vI t7))] _ _
    change M_contact_good_v_b1 l t7 = some y_ at hm
    unfold M_contact_good_v_b1 at hm
    refine C.seq ?_
    refine C.region ?_
    refine G.yl (yl_ltI rfl rfl) rfl rfl rfl ?_
    refine G.nil ?_
    refine QA.then_normal ?_
    refine C.seq ?_
    rcases sp_ite hm with ⟨hc7, hm⟩ | ⟨hc7, hm⟩
    · refine C.cond_t rfl (dec_t hc7) ?_
      refine C.skip ?_
      refine QA.then_normal ?_
      refine C.seq ?_
      refine C.block ?_
      refine C.seq ?_
      refine C.region ?_
      refine G.yl (yl_move rfl) rfl rfl rfl ?_
      obtain ⟨x, hy8, hm⟩ := sp_bind hm
      refine G.yl (yl_ixP (l := l) sl74 rfl rfl (View.isA (E := el_G_api_Contact) (hv_l.at_ h4) (by decide) (at?_lt hy8)) rfl (at?_lt hy8)) rfl rfl rfl ?_
      refine G.yl (yl_ldE (E := el_G_api_Contact) ag60 sz60 rfl (hv_l.at_ h4) (at?_some hy8).2) rfl rfl rfl ?_
      refine G.does (does_alloc (cs := (bytesV (List.ofFn (n := 20) (fun _ => 0)) ++ ([(.int .u32 0), (.int .u16 0)] : List Value))) h4 z60 rfl) rfl rfl rfl ?_
      rintro _ w10 ⟨b9, rfl, h11⟩
      refine G.yl (yl_assign rfl) rfl rfl rfl ?_
      refine G.unit (does_store (vs := (bytesV (List.ofFn (n := 20) x.ID) ++ ([(v32 x.Addr.Host), (v16 x.Addr.Port)] : List Value))) h11 sz60 rfl rfl rfl (by simp [bytesV_length]) (List.forall_mem_append.2 ⟨(bytesV_one _), (List.forall_mem_cons.2 ⟨rfl, (List.forall_mem_cons.2 ⟨rfl, (fun _ hh => by cases hh)⟩)⟩)⟩) (by simp [bytesV_length])) rfl rfl ?_
      rintro _ w12 h14
      have h13 : Sat W w12 [blk b9 (bytesV (List.ofFn (n := 20) x.ID) ++ ([(v32 x.Addr.Host), (v16 x.Addr.Port)] : List Value)) 60] := sl_blk (setN_all _ _ (by simp [bytesV_length])) h14
      refine G.nil ?_
      refine QA.then_normal ?_
      refine C.seq ?_
      refine C.region ?_
      refine G.yl (yl_loadN (vs := (bytesV (List.ofFn (n := 20) x.ID) ++ ([(v32 x.Addr.Host), (v16 x.Addr.Port)] : List Value))) ag60 sz60 (by simp [bytesV_length]) rfl (h13.isBlk.view0)) rfl rfl rfl ?_
      obtain ⟨r1_2, hy15, hm⟩ := sp_bind hm
      refine G.does (does_fn 0 rfl rfl rfl en56 h13 (fun U hU hp hr hs => M_contact_Good_w (c := x) hp hy15)) rfl rfl rfl ?_
      rintro _ w16 ⟨U19, hb20, rfl, h18⟩
      have h17 : Sat W w16 [blk b9 (bytesV (List.ofFn (n := 20) x.ID) ++ ([(v32 x.Addr.Host), (v16 x.Addr.Port)] : List Value)) 60] := hb20 h18
      refine G.yl (yl_not rfl) rfl rfl rfl ?_
      refine G.yl (yl_move rfl) rfl rfl rfl ?_
      rcases sp_b hm with ⟨hc21, hm⟩ | ⟨hc21, hm⟩
      · refine G.on rfl rfl (not_f hc21) ?_
        refine G.yl (yl_move rfl) rfl rfl rfl ?_
        refine G.on rfl rfl (not_f hc21) ?_
        refine G.yl (yl_fieldAddr fo60_0 rfl) rfl rfl rfl ?_
        refine G.on rfl rfl (not_f hc21) ?_
        refine G.yl (yl_loadN (vs := (bytesV (List.ofFn (n := 20) x.ID))) ag55 sz55 (by simp [bytesV_length]) rfl (View.span_head h17.isBlk.view0)) rfl rfl rfl ?_
        refine G.on rfl rfl (not_f hc21) ?_
        obtain ⟨r1_3, hy22, hm⟩ := sp_bind hm
        refine G.does (does_fn 0 rfl rfl rfl en62 h17 (fun U hU hp hr hs => M_contact_Find_v_w (hs.v hv_l) hq_l hp hy22)) rfl rfl rfl ?_
        rintro _ w23 ⟨U26, hb27, rfl, h25⟩
        have h24 : Sat W w23 [blk b9 (bytesV (List.ofFn (n := 20) x.ID) ++ ([(v32 x.Addr.Host), (v16 x.Addr.Port)] : List Value)) 60] := hb27 h25
        refine G.on rfl rfl (not_f hc21) ?_
        refine G.yl (yl_move rfl) rfl rfl rfl ?_
        refine G.on rfl rfl (not_f hc21) ?_
        refine G.yl (yl_neI rfl rfl) rfl rfl rfl ?_
        refine G.yl (yl_pick_f rfl (not_f hc21) rfl) rfl rfl rfl ?_
        refine G.nil ?_
        refine QA.then_normal ?_
        rcases sp_ite hm with ⟨hc28, hm⟩ | ⟨hc28, hm⟩
        · refine C.cond_f rfl (not_f (dec_t hc28)) ?_
          refine C.skip ?_
          refine QA.block_normal ?_
          refine QA.then_normal ?_
          refine C.region ?_
          obtain ⟨hc29, hm⟩ := sp_chk hm
          refine G.yl (yl_addI rfl rfl hc29) rfl rfl rfl ?_
          refine G.yl (yl_move rfl) rfl rfl rfl ?_
          refine G.nil ?_
          obtain rfl := sp_ret1 hm
          exact QA.againO (t7 + 1) hg6 (Sub.of ⟨rfl, rfl, rfl, rfl, rfl, trivial⟩) (Sat.pick [] h24)
        · refine C.cond_t rfl (not_t (dec_f hc28)) ?_
          refine C.seq ?_
          refine C.region ?_
          refine G.yl (yl_assign rfl) rfl rfl rfl ?_
          refine G.nil ?_
          refine QA.then_normal ?_
          refine C.ret ?_
          refine QA.block_ret ?_
          refine QA.then_ret ?_
          refine QA.then_ret ?_
          refine QA.past (by simp) ?_
          refine QA.block_ret ?_
          refine QA.then_ret ?_
          refine QA.ret1 rfl rfl ?_
          obtain rfl := sp_ret1 hm
          obtain rfl : .inr false = o := hg6
          have hm : some false = some r1 := hm2
          obtain rfl := sp_ret1 hm
          exact ⟨rfl, (Sat.pick [] h24)⟩
      · refine G.offU rfl rfl (not_t hc21) rfl ?_
        refine G.offU rfl rfl (not_t hc21) rfl ?_
        refine G.offU rfl rfl (not_t hc21) rfl ?_
        refine G.offU rfl rfl (not_t hc21) rfl ?_
        refine G.offU rfl rfl (not_t hc21) rfl ?_
        refine G.offU rfl rfl (not_t hc21) rfl ?_
        refine G.yl (yl_pick_t rfl (not_t hc21) rfl) rfl rfl rfl ?_
        refine G.nil ?_
        refine QA.then_normal ?_
        refine C.cond_t rfl rfl ?_
        refine C.seq ?_
        refine C.region ?_
        refine G.yl (yl_assign rfl) rfl rfl rfl ?_
        refine G.nil ?_
        refine QA.then_normal ?_
        refine C.ret ?_
        refine QA.block_ret ?_
        refine QA.then_ret ?_
        refine QA.then_ret ?_
        refine QA.past (by simp) ?_
        refine QA.block_ret ?_
        refine QA.then_ret ?_
        refine QA.ret1 rfl rfl ?_
        obtain rfl := sp_ret1 hm
        obtain rfl : .inr false = o := hg6
        have hm : some false = some r1 := hm2
        obtain rfl := sp_ret1 hm
        exact ⟨rfl, (Sat.pick [] h17)⟩
    · refine C.cond_f rfl (dec_f hc7) ?_
      refine C.exit ?_
      refine QA.then_exit ?_
      refine QA.then_exit ?_
      obtain rfl := sp_ret1 hm
      exact QA.left () (Sub.of ⟨rfl, rfl, trivial⟩) ⟨hg6, (Sat.pick [] h4)⟩
  · rintro _ w30 ⟨rfl, h31⟩
    have hm := hm2
    show QA _ _ [(0, (.slice a l.length c)), (2, (.bool false))] _ _
    refine QA.block_here ?_
    refine QA.then_normal ?_
    refine C.seq ?_
    refine C.region ?_
    refine G.yl (yl_move rfl) rfl rfl rfl ?_
    refine G.yl (yl_lenE Try.underlying74 rfl) rfl rfl rfl ?_
    refine G.yl (yl_leI rfl rfl) rfl rfl rfl ?_
    refine G.yl (yl_assign rfl) rfl rfl rfl ?_
    refine G.nil ?_
    refine QA.then_normal ?_
    refine C.ret ?_
    refine QA.ret1 rfl rfl ?_
    obtain rfl := sp_ret1 hm
    exact ⟨rfl, (Sat.pick [] h31)⟩
set_option maxRecDepth 20000 in
theorem M_octet_may_w {W : Base} {w : World} {width : Int}  (h : Sat W w []) {r1 : Bool} (hm : M_octet_may width = some r1) :
    Calls Try.prog 109 #[(vI width)] w (Ret fun v w' => v = (.bool r1) ∧ Sat W w' []) := by
  unfold M_octet_may at hm
  refine C.enter (N := 9) Try.func109 rfl Try.ntmps109 rfl ?_
  show C _ _ _ [(0, (vI width))] _ _
  refine C.seq ?_
  refine C.region ?_
  refine G.yl (yl_assign rfl) rfl rfl rfl ?_
  refine G.nil ?_
  refine QA.then_normal ?_
  refine C.seq ?_
  refine C.region ?_
  refine G.yl (yl_move rfl) rfl rfl rfl ?_
  refine G.yl (yl_geI rfl rfl) rfl rfl rfl ?_
  refine G.yl (yl_move rfl) rfl rfl rfl ?_
  rcases sp_ite hm with ⟨hc1, hm⟩ | ⟨hc1, hm⟩
  · refine G.on rfl rfl (dec_t hc1) ?_
    refine G.yl (yl_move rfl) rfl rfl rfl ?_
    refine G.on rfl rfl (dec_t hc1) ?_
    refine G.yl (yl_leI rfl rfl) rfl rfl rfl ?_
    refine G.yl (yl_pick_t rfl (dec_t hc1) rfl) rfl rfl rfl ?_
    refine G.yl (yl_assign rfl) rfl rfl rfl ?_
    refine G.nil ?_
    refine QA.then_normal ?_
    refine C.ret ?_
    refine QA.ret1 rfl rfl ?_
    obtain rfl := sp_ret1 hm
    exact ⟨rfl, (Sat.pick [] h)⟩
  · refine G.offU rfl rfl (dec_f hc1) rfl ?_
    refine G.offU rfl rfl (dec_f hc1) rfl ?_
    refine G.yl (yl_pick_f rfl (dec_f hc1) rfl) rfl rfl rfl ?_
    refine G.yl (yl_assign rfl) rfl rfl rfl ?_
    refine G.nil ?_
    refine QA.then_normal ?_
    refine C.ret ?_
    refine QA.ret1 rfl rfl ?_
    obtain rfl := sp_ret1 hm
    exact ⟨rfl, (Sat.pick [] h)⟩
set_option maxRecDepth 20000 in
theorem M_octet_Put_v_w {W : Base} {w : World} {a : Option Addr} {c : Nat} {b : List UInt8} {n : UInt64} {width : Int} (hv_b : V W a (elU8.row b)) (hq_b : b.length ≤ c) (h : Sat W w []) {r3 : List UInt8} (hm : M_octet_Put_v b n width = some r3) :
    Calls Try.prog 80 #[(.slice a b.length c), (v64 n), (vI width)] w (Ret fun v w' => ∃ r1 : Option Addr, ∃ r2 : Nat, v = (.slice r1 r3.length r2) ∧ Sat W w' [ow elU8 r1 r2 5 r3]) := by
  unfold M_octet_Put_v at hm
  refine C.enter (N := 34) Try.func80 rfl Try.ntmps80 rfl ?_
  show C _ _ _ [(0, (.slice a b.length c)), (1, (v64 n)), (2, (vI width))] _ _
  refine C.seq ?_
  refine C.region ?_
  refine G.yl (yl_assign rfl) rfl rfl rfl ?_
  refine G.nil ?_
  refine QA.then_normal ?_
  refine C.seq ?_
  refine C.region ?_
  refine G.does (does_lit (E := elU8) (l := ([] : List UInt8)) (vs := []) (cs := []) (e := 5) h rfl (by kernel_rfl) rfl rfl (by decide)) rfl rfl rfl ?_
  rintro _ w2 ⟨a1, rfl, h3⟩
  refine G.yl (yl_move rfl) rfl rfl rfl ?_
  obtain ⟨hc4, hm⟩ := sp_chk hm
  refine G.does (does_app (E := elU8) (l := ([] : List UInt8)) (l2 := b) Try.underlying22 el5 (Sat.own_zero h3 elU8 a1 5) rfl rfl rfl rfl (by decide) (hv_b.at_ h3) hc4 (by decide)) rfl rfl rfl ?_
  rintro _ w7 ⟨a5, c6, rfl, h8⟩
  refine G.yl (yl_assign rfl) rfl rfl rfl ?_
  refine G.nil ?_
  refine QA.then_normal ?_
  refine C.seq ?_
  refine C.seq ?_
  refine C.region ?_
  refine G.yl (yl_move rfl) rfl rfl rfl ?_
  obtain ⟨r1_2, hy9, hm⟩ := sp_bind hm
  refine G.does (does_fn 0 rfl rfl rfl en109 h8 (fun U hU hp hr hs => M_octet_may_w hp hy9)) rfl rfl rfl ?_
  rintro _ w10 ⟨U13, hb14, rfl, h12⟩
  have h11 : Sat W w10 [ow elU8 a5 c6 5 (([] : List UInt8) ++ b), ow elU8 a1 0 5 ([] : List UInt8)] := hb14 h12
  refine G.yl (yl_not rfl) rfl rfl rfl ?_
  refine G.nil ?_
  refine QA.then_normal ?_
  rcases sp_b hm with ⟨hc15, hm⟩ | ⟨hc15, hm⟩
  · refine C.cond_f rfl (not_f hc15) ?_
    refine C.skip ?_
    refine QA.then_normal ?_
    refine C.seq ?_
    refine C.seq ?_
    refine C.region ?_
    refine G.yl (yl_move rfl) rfl rfl rfl ?_
    refine G.yl (yl_move rfl) rfl rfl rfl ?_
    refine G.nil ?_
    refine QA.then_normal ?_
    refine C.block ?_
    obtain ⟨o, ho16, hm17⟩ := sp_bind hm
    refine C.left (γ := Option Addr × Nat × List UInt8) (.exit 0) (fun g => match g with | (a_3, c_3, out_2) => [(6, (.slice none 0 0)), (7, (.slice a_3 out_2.length c_3))]) (fun g ww => match g with | (a_3, c_3, out_2) => out_2 = o ∧ Sat W ww [ow elU8 a_3 c_3 5 out_2]) ?_ ?_
    · refine C.loopO (γ := Option Addr × Nat × List UInt8 × Int) (fun g => match g with | (a_2, c_2, out, t17) => [(1, (v64 n)), (2, (vI width)), (6, (.slice none 0 0)), (7, (.slice a_2 out.length c_2)), (16, (vI width)), (17, (vI t17))]) (fun g ww => match g with | (a_2, c_2, out, t17) => Sat W ww [ow elU8 a_2 c_2 5 out]) (fun g => match g with | (a_2, c_2, out, t17) => (out, t17)) (a5, c6, ([] : List UInt8) ++ b, 0) ho16 (Sub.of ⟨rfl, rfl, rfl, rfl, rfl, rfl, trivial⟩) (Sat.pick [0] h11) ?_
      rintro ⟨a_2, c_2, out, t17⟩ k20 w18 y_ h19 hm hg21
      show C _ _ _ [(1, (v64 n)), (2, (vI width)), (6, (.slice none 0 0)), (7, (.slice a_2 out.length c_2)), (16, (vI width)), (17, (vI t17))] _ _
      change M_octet_Put_v_b1 n width out t17 = some y_ at hm
      unfold M_octet_Put_v_b1 at hm
      refine C.seq ?_
      refine C.region ?_
      refine G.yl (yl_ltI rfl rfl) rfl rfl rfl ?_
      refine G.nil ?_
      refine QA.then_normal ?_
      refine C.seq ?_
      rcases sp_ite hm with ⟨hc22, hm⟩ | ⟨hc22, hm⟩
      · refine C.cond_t rfl (dec_t hc22) ?_
        refine C.skip ?_
        refine QA.then_normal ?_
        refine C.seq ?_
        refine C.block ?_
        refine C.seq ?_
        refine C.region ?_
        refine G.yl (yl_move rfl) rfl rfl rfl ?_
        refine G.yl (yl_assign rfl) rfl rfl rfl ?_
        refine G.nil ?_
        refine QA.then_normal ?_
        refine C.region ?_
        refine G.yl (yl_move rfl) rfl rfl rfl ?_
        refine G.yl (yl_move rfl) rfl rfl rfl ?_
        refine G.yl (yl_move rfl) rfl rfl rfl ?_
        obtain ⟨hc23, hm⟩ := sp_chk hm
        refine G.yl (yl_subI rfl rfl hc23) rfl rfl rfl ?_
        refine G.yl (yl_move rfl) rfl rfl rfl ?_
        obtain ⟨hc24, hm⟩ := sp_chk hm
        refine G.yl (yl_subI rfl rfl hc24) rfl rfl rfl ?_
        obtain ⟨hc25, hm⟩ := sp_chk hm
        refine G.yl (yl_mulI rfl rfl hc25) rfl rfl rfl ?_
        refine G.yl (yl_I64 us3 Try.underlying111 rfl) rfl rfl rfl ?_
        refine G.yl (yl_shr64 rfl rfl (by omega)) rfl rfl rfl ?_
        refine G.yl (yl_64to8 us112 Try.underlying5 rfl) rfl rfl rfl ?_
        refine G.does (does_lit (E := elU8) (l := [(shr64 n ((UInt64.ofInt (8 * ((width - 1) - t17))).toNat)).toUInt8]) (vs := [(v8 ((shr64 n ((UInt64.ofInt (8 * ((width - 1) - t17))).toNat)).toUInt8))]) (cs := [(v8 ((shr64 n ((UInt64.ofInt (8 * ((width - 1) - t17))).toNat)).toUInt8))]) (e := 5) h19 rfl (by kernel_rfl) rfl rfl (by decide)) rfl rfl rfl ?_
        rintro _ w27 ⟨a26, rfl, h28⟩
        obtain ⟨hc29, hm⟩ := sp_chk hm
        refine G.does (does_app (E := elU8) (l := out) (l2 := [(shr64 n ((UInt64.ofInt (8 * ((width - 1) - t17))).toNat)).toUInt8]) Try.underlying22 el5 (Sat.pick [1, 0] h28) rfl rfl rfl rfl (by decide) (Sat.own_view h28) hc29 (by decide)) rfl rfl rfl ?_
        rintro _ w32 ⟨a30, c31, rfl, h33⟩
        refine G.yl (yl_assign rfl) rfl rfl rfl ?_
        refine G.nil ?_
        refine QA.block_normal ?_
        refine QA.then_normal ?_
        refine C.region ?_
        obtain ⟨hc34, hm⟩ := sp_chk hm
        refine G.yl (yl_addI rfl rfl hc34) rfl rfl rfl ?_
        refine G.yl (yl_move rfl) rfl rfl rfl ?_
        refine G.nil ?_
        obtain rfl := sp_ret1 hm
        exact QA.againO (a30, c31, out ++ [(shr64 n ((UInt64.ofInt (8 * ((width - 1) - t17))).toNat)).toUInt8], t17 + 1) hg21 (Sub.of ⟨rfl, rfl, rfl, rfl, rfl, rfl, trivial⟩) (Sat.pick [0] h33)
      · refine C.cond_f rfl (dec_f hc22) ?_
        refine C.exit ?_
        refine QA.then_exit ?_
        refine QA.then_exit ?_
        obtain rfl := sp_ret1 hm
        exact QA.left (a_2, c_2, out) (Sub.of ⟨rfl, rfl, trivial⟩) ⟨hg21, (Sat.pick [0] h19)⟩
    · rintro ⟨a_3, c_3, out_2⟩ w35 ⟨rfl, h36⟩
      have hm := hm17
      show QA _ _ [(6, (.slice none 0 0)), (7, (.slice a_3 out_2.length c_3))] _ _
      refine QA.block_here ?_
      refine QA.then_normal ?_
      refine C.seq ?_
      refine C.region ?_
      refine G.yl (yl_move rfl) rfl rfl rfl ?_
      refine G.yl (yl_assign rfl) rfl rfl rfl ?_
      refine G.nil ?_
      refine QA.then_normal ?_
      refine C.ret ?_
      refine QA.ret1 rfl rfl ?_
      obtain rfl := sp_ret1 hm
      exact ⟨a_3, c_3, rfl, (Sat.pick [0] h36)⟩
  · refine C.cond_t rfl (not_t hc15) ?_
    refine C.seq ?_
    refine C.region ?_
    refine G.yl (yl_move rfl) rfl rfl rfl ?_
    refine G.yl (yl_assign rfl) rfl rfl rfl ?_
    refine G.nil ?_
    refine QA.then_normal ?_
    refine C.ret ?_
    refine QA.then_ret ?_
    refine QA.ret1 rfl rfl ?_
    obtain rfl := sp_ret1 hm
    exact ⟨a5, c6, rfl, (Sat.pick [0] h11)⟩
set_option maxRecDepth 20000 in
theorem M_addr_Bytes_w {W : Base} {w : World} {a : G_api_Addr}  (h : Sat W w []) {r3 : List UInt8} (hm : M_addr_Bytes a = some r3) :
    Calls Try.prog 93 #[(.agg #[(v32 a.Host), (v16 a.Port)])] w (Ret fun v w' => ∃ r1 : Option Addr, ∃ r2 : Nat, v = (.slice r1 r3.length r2) ∧ Sat W w' [ow elU8 r1 r2 5 r3]) := by
  unfold M_addr_Bytes at hm
  refine C.enter (N := 11) Try.func93 rfl Try.ntmps93 rfl ?_
  show C _ _ _ [(0, (.agg #[(v32 a.Host), (v16 a.Port)]))] _ _
  refine C.seq ?_
  refine C.region ?_
  refine G.does (does_box (cs := [(v32 a.Host), (v16 a.Port)]) h rfl rfl) rfl rfl rfl ?_
  rintro _ w2 ⟨b1, rfl, h3⟩
  refine G.yl (yl_assign rfl) rfl rfl rfl ?_
  refine G.nil ?_
  refine QA.then_normal ?_
  refine C.seq ?_
  refine C.draw (V := fun w' => View w' (some ⟨b1, 0, none⟩) [(v32 a.Host), (v16 a.Port)]) (nd := [1, 5]) (sp := []) (n := 9) rfl h3 rfl rfl ?_
  intro w4 h5
  have hS6 : Cls (fun w' => View w' (some ⟨b1, 0, none⟩) [(v32 a.Host), (v16 a.Port)]) [1, 5] [] #[false, false, false, false, false, false, false, false, false] w4 := Cls.keep (h5.isBlk.view0) (by kernel_rfl)
  refine GH.yl (i := 0) (listed' := #[true, false, false, false, false, false, false, false, false]) rfl (by kernel_rfl) rfl (NP.next NP.body) rfl rfl rfl (fun w' => yl_fieldAddr fo58_0 rfl) hS6 (fun hS7 => ?_)
  refine GH.yr (i := 1) (listed' := #[true, true, false, false, false, false, false, false, false]) rfl (by kernel_rfl) rfl rfl (NP.next NP.body) rfl rfl rfl (fun w' hw' => yl_load (v := (v32 a.Host)) ag41 rfl (View.at0 (j := 0) hw' rfl)) hS7 (fun hS8 => ?_)
  refine GH.yl (i := 2) (listed' := #[true, true, true, false, false, false, false, false, false]) rfl (by kernel_rfl) rfl (NP.next NP.body) rfl rfl rfl (fun w' => yl_32to64 us41 Try.underlying112 rfl) hS8 (fun hS9 => ?_)
  refine GH.yl (i := 4) (listed' := #[true, true, true, false, true, false, false, false, false]) rfl (by kernel_rfl) rfl (NP.next NP.body) rfl rfl rfl (fun w' => yl_fieldAddr fo58_1 rfl) hS9 (fun hS10 => ?_)
  refine GH.yr (i := 5) (listed' := #[true, true, true, false, true, true, false, false, false]) rfl (by kernel_rfl) rfl rfl (NP.next NP.body) rfl rfl rfl (fun w' hw' => yl_load (v := (v16 a.Port)) ag56 rfl (View.at0 (j := 1) hw' rfl)) hS10 (fun hS11 => ?_)
  refine GH.yl (i := 6) (listed' := #[true, true, true, false, true, true, true, false, false]) rfl (by kernel_rfl) rfl (NP.next NP.body) rfl rfl rfl (fun w' => yl_16to64 us56 Try.underlying112 rfl) hS11 (fun hS12 => ?_)
  obtain ⟨r3_2, hy13, hm⟩ := sp_bind hm
  refine GH.does (i := 3) (listed' := #[true, true, true, true, true, true, true, false, false]) rfl (by kernel_rfl) rfl rfl rfl rfl (does_fn 0 rfl rfl rfl en80 h5 (fun U hU hp hr hs => M_octet_Put_v_w (b := ([] : List UInt8)) (V.nil _ _) (Nat.zero_le _) hp hy13)) ?_
  rintro _ w16 ⟨U19, hb20, r114, r215, rfl, h18⟩
  have h17 : Sat W w16 [ow elU8 r114 r215 5 r3_2, blk b1 [(v32 a.Host), (v16 a.Port)] 58] := hb20 h18
  have hS21 : Cls (fun w' => View w' (some ⟨b1, 0, none⟩) [(v32 a.Host), (v16 a.Port)]) [1, 5] [] #[true, true, true, true, true, true, true, false, false] w16 := Cls.keep (((Sat.pick [1] h17).isBlk.view0)) (by kernel_rfl)
  refine ⟨hS21, ?_⟩
  obtain ⟨r3_3, hy22, hm⟩ := sp_bind hm
  refine GH.does (i := 7) (listed' := #[true, true, true, true, true, true, true, true, false]) rfl (by kernel_rfl) rfl rfl rfl rfl (does_fn 0 rfl rfl rfl en80 h17 (fun U hU hp hr hs => M_octet_Put_v_w (Rest.view hr) (Sat.own_cap h17).1 hp hy22)) ?_
  rintro _ w25 ⟨U28, hb29, r123, r224, rfl, h27⟩
  have h26 : Sat W w25 [ow elU8 r123 r224 5 r3_3, ow elU8 r114 r215 5 r3_2, blk b1 [(v32 a.Host), (v16 a.Port)] 58] := hb29 h27
  have hS30 : Cls (fun w' => View w' (some ⟨b1, 0, none⟩) [(v32 a.Host), (v16 a.Port)]) [1, 5] [] #[true, true, true, true, true, true, true, true, false] w25 := Cls.keep (((Sat.pick [2] h26).isBlk.view0)) (by kernel_rfl)
  refine ⟨hS30, ?_⟩
  refine GH.yl (i := 8) (listed' := #[true, true, true, true, true, true, true, true, true]) rfl (by kernel_rfl) rfl (NP.next NP.body) rfl rfl rfl (fun w' => yl_assign rfl) hS30 (fun hS31 => ?_)
  refine GH.done (by kernel_rfl) ?_
  refine QA.then_normal ?_
  refine C.ret ?_
  refine QA.ret1 rfl rfl ?_
  obtain rfl := sp_ret1 hm
  exact ⟨r123, r224, rfl, (Sat.pick [0] h26)⟩
set_option maxRecDepth 20000 in
theorem M_slices_Grow_byte_n_w {W : Base} {w : World} {n : Int}  (h : Sat W w []) {r3 : List UInt8} (hm : M_slices_Grow_byte_n n = some r3) :
    Calls Try.prog 106 #[(.slice none 0 0), (vI n)] w (Ret fun v w' => ∃ r1 : Option Addr, ∃ r2 : Nat, v = (.slice r1 r3.length r2) ∧ Sat W w' [ow elU8 r1 r2 5 r3]) := by
  unfold M_slices_Grow_byte_n at hm
  refine C.enter (N := 27) Try.func106 rfl Try.ntmps106 rfl ?_
  show C _ _ _ [(0, (.slice none 0 0)), (1, (vI n))] _ _
  refine C.seq ?_
  refine C.region ?_
  refine G.yl (yl_assign rfl) rfl rfl rfl ?_
  refine G.nil ?_
  refine QA.then_normal ?_
  refine C.seq ?_
  refine C.seq ?_
  refine C.region ?_
  refine G.yl (yl_move rfl) rfl rfl rfl ?_
  refine G.yl (yl_ltI rfl rfl) rfl rfl rfl ?_
  refine G.nil ?_
  refine QA.then_normal ?_
  rcases sp_ite hm with ⟨hc1, hm⟩ | ⟨hc1, hm⟩
  · refine C.cond_t rfl (dec_t hc1) ?_
    cases hm
  · refine C.cond_f rfl (dec_f hc1) ?_
    refine C.skip ?_
    refine QA.then_normal ?_
    refine C.seq ?_
    refine C.seq ?_
    refine C.region ?_
    refine G.yl (yl_move rfl) rfl rfl rfl ?_
    refine G.yl (yl_move rfl) rfl rfl rfl ?_
    refine G.yl (yl_cap Try.underlying22 rfl) rfl rfl rfl ?_
    refine G.yl (yl_move rfl) rfl rfl rfl ?_
    refine G.yl (yl_lenE Try.underlying22 rfl) rfl rfl rfl ?_
    refine G.yl (yl_subI rfl rfl (by decide)) rfl rfl rfl ?_
    obtain ⟨hc2, hm⟩ := sp_chk hm
    refine G.yl (yl_subI rfl rfl hc2) rfl rfl rfl ?_
    refine G.yl (yl_assign rfl) rfl rfl rfl ?_
    refine G.nil ?_
    refine QA.then_normal ?_
    refine C.seq ?_
    refine C.region ?_
    refine G.yl (yl_move rfl) rfl rfl rfl ?_
    refine G.yl (yl_gtI rfl rfl) rfl rfl rfl ?_
    refine G.nil ?_
    refine QA.then_normal ?_
    rcases sp_ite hm with ⟨hc3, hm⟩ | ⟨hc3, hm⟩
    · refine C.cond_t rfl (dec_t hc3) ?_
      refine C.region ?_
      refine G.yl (yl_move rfl) rfl rfl rfl ?_
      refine G.yl (yl_move rfl) rfl rfl rfl ?_
      refine G.yl (yl_cap Try.underlying22 rfl) rfl rfl rfl ?_
      obtain ⟨hc4, hm⟩ := sp_chk hm
      refine G.yl (yl_slH (E := elU8) (l := ([] : List UInt8)) sl22 rfl rfl rfl hc4 (Nat.zero_le _)) rfl rfl rfl ?_
      refine G.yl (yl_move rfl) rfl rfl rfl ?_
      obtain ⟨hc5, hm⟩ := sp_chk hm
      refine G.does (does_app0 (E := elU8) (l := ([] : List UInt8).take 0) (r := 0) Try.underlying22 Try.underlying3 el5 rfl z5 rfl rfl (Sat.own_zero h elU8 none 5) rfl rfl rfl hc5 (by decide)) rfl rfl rfl ?_
      rintro _ w8 ⟨a6, c7, rfl, h9⟩
      refine G.yl (yl_move rfl) rfl rfl rfl ?_
      refine G.yl (yl_lenE Try.underlying22 rfl) rfl rfl rfl ?_
      obtain ⟨hc10, hm⟩ := sp_chk hm
      refine G.yl (yl_slH (E := elU8) (l := (([] : List UInt8).take 0) ++ (List.replicate ((n - 0).toNat) (0 : UInt8))) sl22 rfl rfl rfl hc10 (Sat.own_cap h9).1) rfl rfl rfl ?_
      refine G.yl (yl_assign rfl) rfl rfl rfl ?_
      refine G.nil ?_
      refine QA.then_normal ?_
      refine C.seq ?_
      refine C.region ?_
      refine G.yl (yl_move rfl) rfl rfl rfl ?_
      refine G.yl (yl_assign rfl) rfl rfl rfl ?_
      refine G.nil ?_
      refine QA.then_normal ?_
      refine C.ret ?_
      refine QA.ret1 rfl rfl ?_
      have h11 : Sat W w8 [ow elU8 a6 c7 5 (((([] : List UInt8).take 0) ++ (List.replicate ((n - 0).toNat) (0 : UInt8))).take 0)] := Sat.own_take h9 0 (by first | omega | (simp only [List.length_set, copyL_length]; omega))
      obtain rfl := sp_ret1 hm
      exact ⟨a6, c7, rfl, (Sat.pick [0] h11)⟩
    · refine C.cond_f rfl (dec_f hc3) ?_
      refine C.skip ?_
      refine QA.then_normal ?_
      refine C.seq ?_
      refine C.region ?_
      refine G.yl (yl_move rfl) rfl rfl rfl ?_
      refine G.yl (yl_assign rfl) rfl rfl rfl ?_
      refine G.nil ?_
      refine QA.then_normal ?_
      refine C.ret ?_
      refine QA.ret1 rfl rfl ?_
      obtain rfl := sp_ret1 hm
      exact ⟨none, 0, rfl, (Sat.pick [0] (Sat.own_zero h elU8 none 5))⟩
set_option maxRecDepth 20000 in
theorem M_slices_Concat_byte_s2vo_w {W : Base} {w : World} {b : Nat} {a : Option Addr} {c : Nat} {slices : List UInt8} {a2 : Option Addr} {c2 : Nat} {slices2 : List UInt8} (hv_slices : V W a (elU8.row slices)) (hq_slices : slices.length ≤ c) (h : Sat W w [blk b [(.slice a slices.length c), (.slice a2 slices2.length c2)] 22, ow elU8 a2 c2 5 slices2]) {r3 : List UInt8} (hm : M_slices_Concat_byte_s2vo slices slices2 = some r3) :
    Calls Try.prog 70 #[(.slice (some ⟨b, 0, none⟩) 2 2)] w (Ret fun v w' => ∃ r1 : Option Addr, ∃ r2 : Nat, v = (.slice r1 r3.length r2) ∧ Sat W w' [ow elU8 r1 r2 5 r3, blk b [(.slice a slices.length c), (.slice a2 slices2.length c2)] 22, ow elU8 a2 c2 5 slices2]) := by
  unfold M_slices_Concat_byte_s2vo at hm
  refine C.enter (N := 36) Try.func70 rfl Try.ntmps70 rfl ?_
  show C _ _ _ [(0, (.slice (some ⟨b, 0, none⟩) 2 2))] _ _
  refine C.seq ?_
  refine C.region ?_
  refine G.yl (yl_assign rfl) rfl rfl rfl ?_
  refine G.nil ?_
  refine QA.then_normal ?_
  refine C.seq ?_
  refine C.region ?_
  refine G.yl (yl_assign rfl) rfl rfl rfl ?_
  refine G.nil ?_
  refine QA.then_normal ?_
  refine C.seq ?_
  refine C.seq ?_
  refine C.region ?_
  refine G.yl (yl_move rfl) rfl rfl rfl ?_
  refine G.yl (yl_lenE Try.underlying150 rfl) rfl rfl rfl ?_
  refine G.yl (yl_move rfl) rfl rfl rfl ?_
  refine G.nil ?_
  refine QA.then_normal ?_
  refine C.block ?_
  refine C.loop_in ?_
  refine CIn.round ?_
  refine C.seq ?_
  refine C.region ?_
  refine G.yl (yl_ltI rfl rfl) rfl rfl rfl ?_
  refine G.nil ?_
  refine QA.then_normal ?_
  refine C.seq ?_
  refine C.cond_t rfl (by decide) ?_
  refine C.skip ?_
  refine QA.then_normal ?_
  refine C.seq ?_
  refine C.block ?_
  refine C.seq ?_
  refine C.region ?_
  refine G.yl (yl_indexAddr (s := 1) (off := 0) sl150.1 sl150.2 rfl rfl (by decide) rfl) rfl rfl rfl ?_
  refine G.yl (yl_load (v := (.slice a slices.length c)) ag22 rfl (View.at0 (j := 0) h.isBlk.view0 rfl)) rfl rfl rfl ?_
  refine G.yl (yl_assign rfl) rfl rfl rfl ?_
  refine G.nil ?_
  refine QA.then_normal ?_
  refine C.seq ?_
  refine C.region ?_
  refine G.yl (yl_move rfl) rfl rfl rfl ?_
  refine G.yl (yl_move rfl) rfl rfl rfl ?_
  refine G.yl (yl_lenE Try.underlying22 rfl) rfl rfl rfl ?_
  obtain ⟨hc1, hm⟩ := sp_chk hm
  refine G.yl (yl_addI rfl rfl hc1) rfl rfl rfl ?_
  refine G.yl (yl_assign rfl) rfl rfl rfl ?_
  refine G.nil ?_
  refine QA.then_normal ?_
  refine C.seq ?_
  refine C.region ?_
  refine G.yl (yl_move rfl) rfl rfl rfl ?_
  refine G.yl (yl_ltI rfl rfl) rfl rfl rfl ?_
  refine G.nil ?_
  refine QA.then_normal ?_
  rcases sp_ite hm with ⟨hc2, hm⟩ | ⟨hc2, hm⟩
  · refine C.cond_t rfl (dec_t hc2) ?_
    cases hm
  · refine C.cond_f rfl (dec_f hc2) ?_
    refine C.skip ?_
    refine QA.block_normal ?_
    refine QA.then_normal ?_
    refine C.region ?_
    refine G.yl (yl_addI rfl rfl (by decide)) rfl rfl rfl ?_
    refine G.yl (yl_move rfl) rfl rfl rfl ?_
    refine G.nil ?_
    refine QA.in_normal ?_
    refine CIn.round ?_
    refine C.seq ?_
    refine C.region ?_
    refine G.yl (yl_ltI rfl rfl) rfl rfl rfl ?_
    refine G.nil ?_
    refine QA.then_normal ?_
    refine C.seq ?_
    refine C.cond_t rfl (by decide) ?_
    refine C.skip ?_
    refine QA.then_normal ?_
    refine C.seq ?_
    refine C.block ?_
    refine C.seq ?_
    refine C.region ?_
    refine G.yl (yl_indexAddr (s := 1) (off := 1) sl150.1 sl150.2 rfl rfl (by decide) rfl) rfl rfl rfl ?_
    refine G.yl (yl_load (v := (.slice a2 slices2.length c2)) ag22 rfl (View.at0 (j := 1) h.isBlk.view0 rfl)) rfl rfl rfl ?_
    refine G.yl (yl_assign rfl) rfl rfl rfl ?_
    refine G.nil ?_
    refine QA.then_normal ?_
    refine C.seq ?_
    refine C.region ?_
    refine G.yl (yl_move rfl) rfl rfl rfl ?_
    refine G.yl (yl_move rfl) rfl rfl rfl ?_
    refine G.yl (yl_lenE Try.underlying22 rfl) rfl rfl rfl ?_
    obtain ⟨hc3, hm⟩ := sp_chk hm
    refine G.yl (yl_addI rfl rfl hc3) rfl rfl rfl ?_
    refine G.yl (yl_assign rfl) rfl rfl rfl ?_
    refine G.nil ?_
    refine QA.then_normal ?_
    refine C.seq ?_
    refine C.region ?_
    refine G.yl (yl_move rfl) rfl rfl rfl ?_
    refine G.yl (yl_ltI rfl rfl) rfl rfl rfl ?_
    refine G.nil ?_
    refine QA.then_normal ?_
    rcases sp_ite hm with ⟨hc4, hm⟩ | ⟨hc4, hm⟩
    · refine C.cond_t rfl (dec_t hc4) ?_
      cases hm
    · refine C.cond_f rfl (dec_f hc4) ?_
      refine C.skip ?_
      refine QA.block_normal ?_
      refine QA.then_normal ?_
      refine C.region ?_
      refine G.yl (yl_addI rfl rfl (by decide)) rfl rfl rfl ?_
      refine G.yl (yl_move rfl) rfl rfl rfl ?_
      refine G.nil ?_
      refine QA.in_normal ?_
      refine CIn.round ?_
      refine C.seq ?_
      refine C.region ?_
      refine G.yl (yl_ltI rfl rfl) rfl rfl rfl ?_
      refine G.nil ?_
      refine QA.then_normal ?_
      refine C.seq ?_
      refine C.cond_f rfl (by decide) ?_
      refine C.exit ?_
      refine QA.then_exit ?_
      refine QA.then_exit ?_
      refine QA.block_here ?_
      refine QA.then_normal ?_
      refine C.seq ?_
      refine C.region ?_
      refine G.yl (yl_move rfl) rfl rfl rfl ?_
      obtain ⟨r3_2, hy5, hm⟩ := sp_bind hm
      refine G.does (does_fn 0 rfl rfl rfl en106 h (fun U hU hp hr hs => M_slices_Grow_byte_n_w hp hy5)) rfl rfl rfl ?_
      rintro _ w8 ⟨U11, hb12, r16, r27, rfl, h10⟩
      have h9 : Sat W w8 [ow elU8 r16 r27 5 r3_2, blk b [(.slice a slices.length c), (.slice a2 slices2.length c2)] 22, ow elU8 a2 c2 5 slices2] := hb12 h10
      refine G.yl (yl_assign rfl) rfl rfl rfl ?_
      refine G.nil ?_
      refine QA.then_normal ?_
      refine C.seq ?_
      refine C.seq ?_
      refine C.region ?_
      refine G.yl (yl_move rfl) rfl rfl rfl ?_
      refine G.yl (yl_lenE Try.underlying150 rfl) rfl rfl rfl ?_
      refine G.yl (yl_move rfl) rfl rfl rfl ?_
      refine G.nil ?_
      refine QA.then_normal ?_
      refine C.block ?_
      refine C.loop_in ?_
      refine CIn.round ?_
      refine C.seq ?_
      refine C.region ?_
      refine G.yl (yl_ltI rfl rfl) rfl rfl rfl ?_
      refine G.nil ?_
      refine QA.then_normal ?_
      refine C.seq ?_
      refine C.cond_t rfl (by decide) ?_
      refine C.skip ?_
      refine QA.then_normal ?_
      refine C.seq ?_
      refine C.block ?_
      refine C.seq ?_
      refine C.region ?_
      refine G.yl (yl_indexAddr (s := 1) (off := 0) sl150.1 sl150.2 rfl rfl (by decide) rfl) rfl rfl rfl ?_
      refine G.yl (yl_load (v := (.slice a slices.length c)) ag22 rfl (View.at0 (j := 0) (Sat.pick [1] h9).isBlk.view0 rfl)) rfl rfl rfl ?_
      refine G.yl (yl_assign rfl) rfl rfl rfl ?_
      refine G.nil ?_
      refine QA.then_normal ?_
      refine C.region ?_
      refine G.yl (yl_move rfl) rfl rfl rfl ?_
      refine G.yl (yl_move rfl) rfl rfl rfl ?_
      obtain ⟨hc13, hm⟩ := sp_chk hm
      refine G.does (does_app (E := elU8) (l := r3_2) (l2 := slices) Try.underlying22 el5 h9 rfl rfl rfl rfl (by decide) (hv_slices.at_ h9) hc13 (by decide)) rfl rfl rfl ?_
      rintro _ w16 ⟨a14, c15, rfl, h17⟩
      refine G.yl (yl_assign rfl) rfl rfl rfl ?_
      refine G.nil ?_
      refine QA.block_normal ?_
      refine QA.then_normal ?_
      refine C.region ?_
      refine G.yl (yl_addI rfl rfl (by decide)) rfl rfl rfl ?_
      refine G.yl (yl_move rfl) rfl rfl rfl ?_
      refine G.nil ?_
      refine QA.in_normal ?_
      refine CIn.round ?_
      refine C.seq ?_
      refine C.region ?_
      refine G.yl (yl_ltI rfl rfl) rfl rfl rfl ?_
      refine G.nil ?_
      refine QA.then_normal ?_
      refine C.seq ?_
      refine C.cond_t rfl (by decide) ?_
      refine C.skip ?_
      refine QA.then_normal ?_
      refine C.seq ?_
      refine C.block ?_
      refine C.seq ?_
      refine C.region ?_
      refine G.yl (yl_indexAddr (s := 1) (off := 1) sl150.1 sl150.2 rfl rfl (by decide) rfl) rfl rfl rfl ?_
      refine G.yl (yl_load (v := (.slice a2 slices2.length c2)) ag22 rfl (View.at0 (j := 1) (Sat.pick [1] h17).isBlk.view0 rfl)) rfl rfl rfl ?_
      refine G.yl (yl_assign rfl) rfl rfl rfl ?_
      refine G.nil ?_
      refine QA.then_normal ?_
      refine C.region ?_
      refine G.yl (yl_move rfl) rfl rfl rfl ?_
      refine G.yl (yl_move rfl) rfl rfl rfl ?_
      obtain ⟨hc18, hm⟩ := sp_chk hm
      refine G.does (does_app (E := elU8) (l := r3_2 ++ slices) (l2 := slices2) Try.underlying22 el5 h17 rfl rfl rfl rfl (by decide) (Sat.own_view (Sat.pick [2] h17)) hc18 (by decide)) rfl rfl rfl ?_
      rintro _ w21 ⟨a19, c20, rfl, h22⟩
      refine G.yl (yl_assign rfl) rfl rfl rfl ?_
      refine G.nil ?_
      refine QA.block_normal ?_
      refine QA.then_normal ?_
      refine C.region ?_
      refine G.yl (yl_addI rfl rfl (by decide)) rfl rfl rfl ?_
      refine G.yl (yl_move rfl) rfl rfl rfl ?_
      refine G.nil ?_
      refine QA.in_normal ?_
      refine CIn.round ?_
      refine C.seq ?_
      refine C.region ?_
      refine G.yl (yl_ltI rfl rfl) rfl rfl rfl ?_
      refine G.nil ?_
      refine QA.then_normal ?_
      refine C.seq ?_
      refine C.cond_f rfl (by decide) ?_
      refine C.exit ?_
      refine QA.then_exit ?_
      refine QA.then_exit ?_
      refine QA.block_here ?_
      refine QA.then_normal ?_
      refine C.seq ?_
      refine C.region ?_
      refine G.yl (yl_move rfl) rfl rfl rfl ?_
      refine G.yl (yl_assign rfl) rfl rfl rfl ?_
      refine G.nil ?_
      refine QA.then_normal ?_
      refine C.ret ?_
      refine QA.ret1 rfl rfl ?_
      obtain rfl := sp_ret1 hm
      exact ⟨a19, c20, rfl, (Sat.pick [0, 0, 0] h22)⟩
set_option maxRecDepth 20000 in
theorem M_contact_Bytes_w {W : Base} {w : World} {c : G_api_Contact}  (h : Sat W w []) {r3 : List UInt8} (hm : M_contact_Bytes c = some r3) :
    Calls Try.prog 58 #[(.agg (bytesV (List.ofFn (n := 20) c.ID) ++ ([(v32 c.Addr.Host), (v16 c.Addr.Port)] : List Value)).toArray)] w (Ret fun v w' => ∃ r1 : Option Addr, ∃ r2 : Nat, v = (.slice r1 r3.length r2) ∧ Sat W w' [ow elU8 r1 r2 5 r3]) := by
  unfold M_contact_Bytes at hm
  refine C.enter (N := 10) Try.func58 rfl Try.ntmps58 rfl ?_
  show C _ _ _ [(0, (.agg (bytesV (List.ofFn (n := 20) c.ID) ++ ([(v32 c.Addr.Host), (v16 c.Addr.Port)] : List Value)).toArray))] _ _
  refine C.seq ?_
  refine C.region ?_
  refine G.does (does_box (cs := (bytesV (List.ofFn (n := 20) c.ID) ++ ([(v32 c.Addr.Host), (v16 c.Addr.Port)] : List Value))) h rfl rfl) rfl rfl rfl ?_
  rintro _ w2 ⟨b1, rfl, h3⟩
  refine G.yl (yl_assign rfl) rfl rfl rfl ?_
  refine G.nil ?_
  refine QA.then_normal ?_
  refine C.seq ?_
  refine C.draw (V := fun w' => View w' (some ⟨b1, 0, none⟩) (bytesV (List.ofFn (n := 20) c.ID) ++ ([(v32 c.Addr.Host), (v16 c.Addr.Port)] : List Value))) (nd := [3]) (sp := []) (n := 8) rfl h3 rfl rfl ?_
  intro w4 h5
  have hS6 : Cls (fun w' => View w' (some ⟨b1, 0, none⟩) (bytesV (List.ofFn (n := 20) c.ID) ++ ([(v32 c.Addr.Host), (v16 c.Addr.Port)] : List Value))) [3] [] #[false, false, false, false, false, false, false, false] w4 := Cls.keep (h5.isBlk.view0) (by kernel_rfl)
  refine GH.yl (i := 0) (listed' := #[true, false, false, false, false, false, false, false]) rfl (by kernel_rfl) rfl (NP.next NP.body) rfl rfl rfl (fun w' => yl_fieldAddr fo60_0 rfl) hS6 (fun hS7 => ?_)
  refine GH.yl (i := 1) (listed' := #[true, true, false, false, false, false, false, false]) rfl (by kernel_rfl) rfl (NP.next NP.body) rfl rfl rfl (fun w' => yl_slice_arr (n := 20) (l := 0) (h := 20) (s := 1) (v := (.slice (some ⟨b1, 0, none⟩) 20 20)) Try.underlying55 (by kernel_rfl) (by kernel_rfl) rfl rfl rfl (by decide) (by decide) rfl) hS7 (fun hS8 => ?_)
  refine GH.yl (i := 2) (listed' := #[true, true, true, false, false, false, false, false]) rfl (by kernel_rfl) rfl (NP.next NP.body) rfl rfl rfl (fun w' => yl_fieldAddr fo60_1 rfl) hS8 (fun hS9 => ?_)
  refine GH.yr (i := 3) (listed' := #[true, true, true, true, false, false, false, false]) rfl (by kernel_rfl) rfl rfl (NP.next NP.body) rfl rfl rfl (fun w' hw' => yl_loadN (vs := [(v32 c.Addr.Host), (v16 c.Addr.Port)]) ag58 sz58 (by simp [bytesV_length]) rfl (View.span_tail hw')) hS9 (fun hS10 => ?_)
  obtain ⟨r3_2, hy11, hm⟩ := sp_bind hm
  refine GH.does (i := 4) (listed' := #[true, true, true, true, true, false, false, false]) rfl (by kernel_rfl) rfl rfl rfl rfl (does_fn 0 rfl rfl rfl en93 h5 (fun U hU hp hr hs => M_addr_Bytes_w (a := c.Addr) hp hy11)) ?_
  rintro _ w14 ⟨U17, hb18, r112, r213, rfl, h16⟩
  have h15 : Sat W w14 [ow elU8 r112 r213 5 r3_2, blk b1 (bytesV (List.ofFn (n := 20) c.ID) ++ ([(v32 c.Addr.Host), (v16 c.Addr.Port)] : List Value)) 60] := hb18 h16
  have hS19 : Cls (fun w' => View w' (some ⟨b1, 0, none⟩) (bytesV (List.ofFn (n := 20) c.ID) ++ ([(v32 c.Addr.Host), (v16 c.Addr.Port)] : List Value))) [3] [] #[true, true, true, true, true, false, false, false] w14 := Cls.keep (((Sat.pick [1] h15).isBlk.view0)) (by kernel_rfl)
  refine ⟨hS19, ?_⟩
  refine GH.does (i := 5) (listed' := #[true, true, true, true, true, true, false, false]) rfl (by kernel_rfl) rfl rfl rfl rfl (does_buildSlice (vs := [(.slice (some ⟨b1, 0, none⟩) 20 20), (.slice r112 r3_2.length r213)]) (cs := [(.slice (some ⟨b1, 0, none⟩) 20 20), (.slice r112 r3_2.length r213)]) (e := 22) h15 rfl (by kernel_rfl)) ?_
  rintro _ w21 ⟨b20, rfl, h22⟩
  have hS23 : Cls (fun w' => View w' (some ⟨b1, 0, none⟩) (bytesV (List.ofFn (n := 20) c.ID) ++ ([(v32 c.Addr.Host), (v16 c.Addr.Port)] : List Value))) [3] [] #[true, true, true, true, true, true, false, false] w21 := Cls.keep (((Sat.pick [2] h22).isBlk.view0)) (by kernel_rfl)
  refine ⟨hS23, ?_⟩
  obtain ⟨r3_3, hy24, hm⟩ := sp_bind hm
  refine GH.does (i := 6) (listed' := #[true, true, true, true, true, true, true, false]) rfl (by kernel_rfl) rfl rfl rfl rfl (does_fn 2 rfl rfl rfl en70 (Sat.pick [0, 0, 0] h22) (fun U hU hp hr hs => M_slices_Concat_byte_s2vo_w (V.of_bytes (V.span_head (Rest.blk hr 0))) (by simp) hp hy24)) ?_
  rintro _ w27 ⟨U30, hb31, r125, r226, rfl, h29⟩
  have h28 : Sat W w27 [ow elU8 r125 r226 5 r3_3, blk b20 [(.slice (some ⟨b1, 0, none⟩) 20 20), (.slice r112 r3_2.length r213)] 22, ow elU8 r112 r213 5 r3_2, blk b1 (bytesV (List.ofFn (n := 20) c.ID) ++ ([(v32 c.Addr.Host), (v16 c.Addr.Port)] : List Value)) 60] := hb31 h29
  have hS32 : Cls (fun w' => View w' (some ⟨b1, 0, none⟩) (bytesV (List.ofFn (n := 20) c.ID) ++ ([(v32 c.Addr.Host), (v16 c.Addr.Port)] : List Value))) [3] [] #[true, true, true, true, true, true, true, false] w27 := Cls.keep (((Sat.pick [3] h28).isBlk.view0)) (by kernel_rfl)
  refine ⟨hS32, ?_⟩
  refine GH.yl (i := 7) (listed' := #[true, true, true, true, true, true, true, true]) rfl (by kernel_rfl) rfl (NP.next NP.body) rfl rfl rfl (fun w' => yl_assign rfl) hS32 (fun hS33 => ?_)
  refine GH.done (by kernel_rfl) ?_
  refine QA.then_normal ?_
  refine C.ret ?_
  refine QA.ret1 rfl rfl ?_
  obtain rfl := sp_ret1 hm
  exact ⟨r125, r226, rfl, (Sat.pick [0] h28)⟩
set_option maxRecDepth 20000 in
theorem M_contact_List_v_w {W : Base} {w : World} {a : Option Addr} {c : Nat} {l : List G_api_Contact} (hv_l : V W a (el_G_api_Contact.row l)) (hq_l : l.length ≤ c) (h : Sat W w []) {r3 : List UInt8} {r4 : Int} (hm : M_contact_List_v l = some (r3, r4)) :
    Calls Try.prog 44 #[(.slice a l.length c)] w (Ret fun v w' => ∃ r1 : Option Addr, ∃ r2 : Nat, v = (.tuple #[(.slice r1 r3.length r2), (vI r4)]) ∧ Sat W w' [ow elU8 r1 r2 5 r3]) := by
  unfold M_contact_List_v at hm
  refine C.enter (N := 26) Try.func44 rfl Try.ntmps44 rfl ?_
  show C _ _ _ [(0, (.slice a l.length c))] _ _
  refine C.seq ?_
  refine C.region ?_
  refine G.yl (yl_assign rfl) rfl rfl rfl ?_
  refine G.yl (yl_assign rfl) rfl rfl rfl ?_
  refine G.nil ?_
  refine QA.then_normal ?_
  refine C.seq ?_
  refine C.seq ?_
  refine C.region ?_
  refine G.yl (yl_move rfl) rfl rfl rfl ?_
  obtain ⟨r1_2, hy1, hm⟩ := sp_bind hm
  refine G.does (does_fn 0 rfl rfl rfl en77 h (fun U hU hp hr hs => M_contact_good_v_w (hs.v hv_l) hq_l hp hy1)) rfl rfl rfl ?_
  rintro _ w2 ⟨U5, hb6, rfl, h4⟩
  have h3 : Sat W w2 [] := hb6 h4
  refine G.yl (yl_not rfl) rfl rfl rfl ?_
  refine G.nil ?_
  refine QA.then_normal ?_
  rcases sp_b hm with ⟨hc7, hm⟩ | ⟨hc7, hm⟩
  · refine C.cond_f rfl (not_f hc7) ?_
    refine C.skip ?_
    refine QA.then_normal ?_
    refine C.seq ?_
    refine C.region ?_
    refine G.yl (yl_move rfl) rfl rfl rfl ?_
    refine G.yl (yl_lenE Try.underlying74 rfl) rfl rfl rfl ?_
    refine G.yl (yl_I64 us3 Try.underlying112 rfl) rfl rfl rfl ?_
    obtain ⟨r3_2, hy8, hm⟩ := sp_bind hm
    refine G.does (does_fn 0 rfl rfl rfl en80 h3 (fun U hU hp hr hs => M_octet_Put_v_w (b := ([] : List UInt8)) (V.nil _ _) (Nat.zero_le _) hp hy8)) rfl rfl rfl ?_
    rintro _ w11 ⟨U14, hb15, r19, r210, rfl, h13⟩
    have h12 : Sat W w11 [ow elU8 r19 r210 5 r3_2] := hb15 h13
    refine G.yl (yl_assign rfl) rfl rfl rfl ?_
    refine G.nil ?_
    refine QA.then_normal ?_
    refine C.seq ?_
    refine C.seq ?_
    refine C.region ?_
    refine G.yl (yl_move rfl) rfl rfl rfl ?_
    refine G.yl (yl_lenE Try.underlying74 rfl) rfl rfl rfl ?_
    refine G.yl (yl_move rfl) rfl rfl rfl ?_
    refine G.nil ?_
    refine QA.then_normal ?_
    refine C.block ?_
    obtain ⟨o, ho16, hm17⟩ := sp_bind hm
    refine C.left (γ := Option Addr × Nat × List UInt8) (.exit 0) (fun g => match g with | (a_3, c_3, out_2) => [(2, (.slice none 0 0)), (3, (vI 0)), (4, (.slice a_3 out_2.length c_3))]) (fun g ww => match g with | (a_3, c_3, out_2) => out_2 = o ∧ Sat W ww [ow elU8 a_3 c_3 5 out_2]) ?_ ?_
    · refine C.loopO (γ := Option Addr × Nat × List UInt8 × Int) (fun g => match g with | (a_2, c_2, out, t16) => [(2, (.slice none 0 0)), (3, (vI 0)), (4, (.slice a_2 out.length c_2)), (14, (.slice a l.length c)), (15, (vI (l.length : Int))), (16, (vI t16))]) (fun g ww => match g with | (a_2, c_2, out, t16) => Sat W ww [ow elU8 a_2 c_2 5 out]) (fun g => match g with | (a_2, c_2, out, t16) => (out, t16)) (r19, r210, r3_2, 0) ho16 (Sub.of ⟨rfl, rfl, rfl, rfl, rfl, rfl, trivial⟩) (Sat.pick [0] h12) ?_
      rintro ⟨a_2, c_2, out, t16⟩ k20 w18 y_ h19 hm hg21
      show C _ _ _ [(2, (.slice none 0 0)), (3, (vI 0)), (4, (.slice a_2 out.length c_2)), (14, (.slice a l.length c)), (15, (vI (l.length : Int))), (16, (vI t16))] _ _
      change M_contact_List_v_b1 l out t16 = some y_ at hm
      unfold M_contact_List_v_b1 at hm
      refine C.seq ?_
      refine C.region ?_
      refine G.yl (yl_ltI rfl rfl) rfl rfl rfl ?_
      refine G.nil ?_
      refine QA.then_normal ?_
      refine C.seq ?_
      rcases sp_ite hm with ⟨hc22, hm⟩ | ⟨hc22, hm⟩
      · refine C.cond_t rfl (dec_t hc22) ?_
        refine C.skip ?_
        refine QA.then_normal ?_
        refine C.seq ?_
        refine C.block ?_
        refine C.seq ?_
        refine C.region ?_
        obtain ⟨x, hy23, hm⟩ := sp_bind hm
        refine G.yl (yl_ixP (l := l) sl74 rfl rfl (View.isA (E := el_G_api_Contact) (hv_l.at_ h19) (by decide) (at?_lt hy23)) rfl (at?_lt hy23)) rfl rfl rfl ?_
        refine G.yl (yl_ldE (E := el_G_api_Contact) ag60 sz60 rfl (hv_l.at_ h19) (at?_some hy23).2) rfl rfl rfl ?_
        refine G.does (does_alloc (cs := (bytesV (List.ofFn (n := 20) (fun _ => 0)) ++ ([(.int .u32 0), (.int .u16 0)] : List Value))) h19 z60 rfl) rfl rfl rfl ?_
        rintro _ w25 ⟨b24, rfl, h26⟩
        refine G.unit (does_store (vs := (bytesV (List.ofFn (n := 20) x.ID) ++ ([(v32 x.Addr.Host), (v16 x.Addr.Port)] : List Value))) h26 sz60 rfl rfl rfl (by simp [bytesV_length]) (List.forall_mem_append.2 ⟨(bytesV_one _), (List.forall_mem_cons.2 ⟨rfl, (List.forall_mem_cons.2 ⟨rfl, (fun _ hh => by cases hh)⟩)⟩)⟩) (by simp [bytesV_length])) rfl rfl ?_
        rintro _ w27 h29
        have h28 : Sat W w27 [blk b24 (bytesV (List.ofFn (n := 20) x.ID) ++ ([(v32 x.Addr.Host), (v16 x.Addr.Port)] : List Value)) 60, ow elU8 a_2 c_2 5 out] := sl_blk (setN_all _ _ (by simp [bytesV_length])) h29
        refine G.nil ?_
        refine QA.then_normal ?_
        refine C.region ?_
        refine G.yl (yl_move rfl) rfl rfl rfl ?_
        refine G.yl (yl_loadN (vs := (bytesV (List.ofFn (n := 20) x.ID) ++ ([(v32 x.Addr.Host), (v16 x.Addr.Port)] : List Value))) ag60 sz60 (by simp [bytesV_length]) rfl (h28.isBlk.view0)) rfl rfl rfl ?_
        obtain ⟨r3_3, hy30, hm⟩ := sp_bind hm
        refine G.does (does_fn 0 rfl rfl rfl en58 h28 (fun U hU hp hr hs => M_contact_Bytes_w (c := x) hp hy30)) rfl rfl rfl ?_
        rintro _ w33 ⟨U36, hb37, r131, r232, rfl, h35⟩
        have h34 : Sat W w33 [ow elU8 r131 r232 5 r3_3, blk b24 (bytesV (List.ofFn (n := 20) x.ID) ++ ([(v32 x.Addr.Host), (v16 x.Addr.Port)] : List Value)) 60, ow elU8 a_2 c_2 5 out] := hb37 h35
        obtain ⟨hc38, hm⟩ := sp_chk hm
        refine G.does (does_app (E := elU8) (l := out) (l2 := r3_3) Try.underlying22 el5 (Sat.pick [2, 0, 0] h34) rfl rfl rfl rfl (by decide) (Sat.own_view h34) hc38 (by decide)) rfl rfl rfl ?_
        rintro _ w41 ⟨a39, c40, rfl, h42⟩
        refine G.yl (yl_assign rfl) rfl rfl rfl ?_
        refine G.nil ?_
        refine QA.block_normal ?_
        refine QA.then_normal ?_
        refine C.region ?_
        obtain ⟨hc43, hm⟩ := sp_chk hm
        refine G.yl (yl_addI rfl rfl hc43) rfl rfl rfl ?_
        refine G.yl (yl_move rfl) rfl rfl rfl ?_
        refine G.nil ?_
        obtain rfl := sp_ret1 hm
        exact QA.againO (a39, c40, out ++ r3_3, t16 + 1) hg21 (Sub.of ⟨rfl, rfl, rfl, rfl, rfl, rfl, trivial⟩) (Sat.pick [0] h42)
      · refine C.cond_f rfl (dec_f hc22) ?_
        refine C.exit ?_
        refine QA.then_exit ?_
        refine QA.then_exit ?_
        obtain rfl := sp_ret1 hm
        exact QA.left (a_2, c_2, out) (Sub.of ⟨rfl, rfl, rfl, trivial⟩) ⟨hg21, (Sat.pick [0] h19)⟩
    · rintro ⟨a_3, c_3, out_2⟩ w44 ⟨rfl, h45⟩
      have hm := hm17
      show QA _ _ [(2, (.slice none 0 0)), (3, (vI 0)), (4, (.slice a_3 out_2.length c_3))] _ _
      refine QA.block_here ?_
      refine QA.then_normal ?_
      refine C.seq ?_
      refine C.region ?_
      refine G.yl (yl_move rfl) rfl rfl rfl ?_
      refine G.yl (yl_assign rfl) rfl rfl rfl ?_
      refine G.yl (yl_assign rfl) rfl rfl rfl ?_
      refine G.nil ?_
      refine QA.then_normal ?_
      refine C.ret ?_
      refine QA.ret2 rfl rfl rfl ?_
      obtain ⟨rfl, rfl⟩ := sp_ret2 hm
      exact ⟨a_3, c_3, rfl, (Sat.pick [0] h45)⟩
  · refine C.cond_t rfl (not_t hc7) ?_
    refine C.seq ?_
    refine C.region ?_
    refine G.yl (yl_assign rfl) rfl rfl rfl ?_
    refine G.yl (yl_assign rfl) rfl rfl rfl ?_
    refine G.nil ?_
    refine QA.then_normal ?_
    refine C.ret ?_
    refine QA.then_ret ?_
    refine QA.ret2 rfl rfl rfl ?_
    obtain ⟨rfl, rfl⟩ := sp_ret2 hm
    exact ⟨none, 0, rfl, (Sat.pick [0] (Sat.own_zero h3 elU8 none 5))⟩
set_option maxRecDepth 20000 in
theorem M_octet_Open_v_w {W : Base} {w : World} {a : Option Addr} {c : Nat} {b : List UInt8} (hv_b : V W a (elU8.row b)) (hq_b : b.length ≤ c) (h : Sat W w [])  (hm : M_octet_Open_v b = some ()) :
    Calls Try.prog 34 #[(.slice a b.length c)] w (Ret fun v w' => ∃ r1 : Nat, ∃ r2 : Option Addr, ∃ r3 : Nat, v = (.pointer (some ⟨r1, 0, none⟩)) ∧ Sat W w' [blk r1 [(.slice r2 ((([] : List UInt8) ++ b).length) r3), (.bool true), (.bool false)] 122, ow elU8 r2 r3 5 (([] : List UInt8) ++ b)]) := by
  unfold M_octet_Open_v at hm
  refine C.enter (N := 9) Try.func34 rfl Try.ntmps34 rfl ?_
  show C _ _ _ [(0, (.slice a b.length c))] _ _
  refine C.seq ?_
  refine C.region ?_
  refine G.yl (yl_assign rfl) rfl rfl rfl ?_
  refine G.nil ?_
  refine QA.then_normal ?_
  refine C.seq ?_
  refine C.region ?_
  refine G.does (does_lit (E := elU8) (l := ([] : List UInt8)) (vs := []) (cs := []) (e := 5) h rfl (by kernel_rfl) rfl rfl (by decide)) rfl rfl rfl ?_
  rintro _ w2 ⟨a1, rfl, h3⟩
  refine G.yl (yl_move rfl) rfl rfl rfl ?_
  obtain ⟨hc4, hm⟩ := sp_chk hm
  refine G.does (does_app (E := elU8) (l := ([] : List UInt8)) (l2 := b) Try.underlying22 el5 (Sat.own_zero h3 elU8 a1 5) rfl rfl rfl rfl (by decide) (hv_b.at_ h3) hc4 (by decide)) rfl rfl rfl ?_
  rintro _ w7 ⟨a5, c6, rfl, h8⟩
  refine G.yl (yl_build (vs := [(.slice a5 ((([] : List UInt8) ++ b).length) c6), (.bool true)]) (cells := #[(.slice a5 ((([] : List UInt8) ++ b).length) c6), (.bool true), (.bool false)]) rfl (by kernel_rfl)) rfl rfl rfl ?_
  refine G.yl (yl_build (vs := [(.agg #[(.slice a5 ((([] : List UInt8) ++ b).length) c6), (.bool true), (.bool false)])]) (cells := #[(.slice a5 ((([] : List UInt8) ++ b).length) c6), (.bool true), (.bool false)]) rfl (by kernel_rfl)) rfl rfl rfl ?_
  refine G.does (does_box (cs := [(.slice a5 ((([] : List UInt8) ++ b).length) c6), (.bool true), (.bool false)]) h8 rfl rfl) rfl rfl rfl ?_
  rintro _ w10 ⟨b9, rfl, h11⟩
  refine G.yl (yl_assign rfl) rfl rfl rfl ?_
  refine G.nil ?_
  refine QA.then_normal ?_
  refine C.ret ?_
  refine QA.ret1 rfl rfl ?_
  exact ⟨b9, a5, c6, rfl, (Sat.pick [0, 0] h11)⟩
set_option maxRecDepth 20000 in
theorem M_octet_Reader_none_po_w {W : Base} {w : World} {b : Nat} {a : Option Addr} {c : Nat} {b2 : List UInt8} {open_ : Bool} {bad : Bool}  (h : Sat W w [blk b [(.slice a b2.length c), (.bool open_), (.bool bad)] 122, ow elU8 a c 5 b2])  (hm : M_octet_Reader_none_po b2 open_ bad = some ()) :
    Calls Try.prog 73 #[(.pointer (some ⟨b, 0, none⟩))] w (Ret fun v w' => v = (.bool (!open_)) ∧ Sat W w' [blk b [(.slice a b2.length c), (.bool open_), (.bool bad)] 122, ow elU8 a c 5 b2]) := by
  unfold M_octet_Reader_none_po at hm
  refine C.enter (N := 13) Try.func73 rfl Try.ntmps73 rfl ?_
  show C _ _ _ [(0, (.pointer (some ⟨b, 0, none⟩)))] _ _
  refine C.seq ?_
  refine C.region ?_
  refine G.yl (yl_assign rfl) rfl rfl rfl ?_
  refine G.nil ?_
  refine QA.then_normal ?_
  refine C.seq ?_
  refine C.region ?_
  refine G.yl (yl_move rfl) rfl rfl rfl ?_
  refine G.yl (yl_eq_nil np69 rfl rfl) rfl rfl rfl ?_
  refine G.yl (yl_move rfl) rfl rfl rfl ?_
  refine G.on rfl rfl rfl ?_
  refine G.yl (yl_move rfl) rfl rfl rfl ?_
  refine G.on rfl rfl rfl ?_
  refine G.yl (yl_nilCheck rfl) rfl rfl rfl ?_
  refine G.on rfl rfl rfl ?_
  refine G.yl (yl_fieldAddr fo122_0 rfl) rfl rfl rfl ?_
  refine G.on rfl rfl rfl ?_
  refine G.yl (yl_fieldAddr fo120_1 rfl) rfl rfl rfl ?_
  refine G.on rfl rfl rfl ?_
  refine G.yl (yl_load (v := (.bool open_)) ag4 rfl (View.at0 (j := 1) h.isBlk.view0 rfl)) rfl rfl rfl ?_
  refine G.on rfl rfl rfl ?_
  refine G.yl (yl_not rfl) rfl rfl rfl ?_
  refine G.yl (yl_pick_f rfl rfl rfl) rfl rfl rfl ?_
  refine G.yl (yl_assign rfl) rfl rfl rfl ?_
  refine G.nil ?_
  refine QA.then_normal ?_
  refine C.ret ?_
  refine QA.ret1 rfl rfl ?_
  exact ⟨rfl, (Sat.pick [0, 0] h)⟩
set_option maxRecDepth 20000 in
theorem M_octet_rest_fail_po_w {W : Base} {w : World} {b : Nat} {a : Option Addr} {c : Nat} {b2 : List UInt8} {open_ : Bool} {bad : Bool}  (h : Sat W w [blk b [(.slice a b2.length c), (.bool open_), (.bool bad)] 122, ow elU8 a c 5 b2])  (hm : M_octet_rest_fail_po b2 open_ bad = some ()) :
    Calls Try.prog 108 #[(.pointer (some ⟨b, 0, none⟩))] w (Ret fun v w' => v = (.tuple #[]) ∧ Sat W w' [blk b [(.slice none 0 0), (.bool open_), (.bool true)] 122]) := by
  unfold M_octet_rest_fail_po at hm
  refine C.enter (N := 8) Try.func108 rfl Try.ntmps108 rfl ?_
  show C _ _ _ [(0, (.pointer (some ⟨b, 0, none⟩)))] _ _
  refine C.region ?_
  refine G.yl (yl_move rfl) rfl rfl rfl ?_
  refine G.yl (yl_move rfl) rfl rfl rfl ?_
  refine G.yl (yl_nilCheck rfl) rfl rfl rfl ?_
  refine G.yl (yl_fieldAddr fo120_0 rfl) rfl rfl rfl ?_
  refine G.unit (does_store (vs := [(.slice none 0 0)]) h sz22 rfl rfl rfl rfl (List.forall_mem_cons.2 ⟨rfl, (fun _ hh => by cases hh)⟩) (Nat.le_of_ble_eq_true rfl)) rfl rfl ?_
  rintro _ w1 h3
  have h2 : Sat W w1 [blk b [(.slice none 0 0), (.bool open_), (.bool bad)] 122, ow elU8 a c 5 b2] := h3
  refine G.yl (yl_nilCheck rfl) rfl rfl rfl ?_
  refine G.yl (yl_fieldAddr fo120_2 rfl) rfl rfl rfl ?_
  refine G.unit (does_store (vs := [(.bool true)]) h2 sz4 rfl rfl rfl rfl (List.forall_mem_cons.2 ⟨rfl, (fun _ hh => by cases hh)⟩) (Nat.le_of_ble_eq_true rfl)) rfl rfl ?_
  rintro _ w4 h6
  have h5 : Sat W w4 [blk b [(.slice none 0 0), (.bool open_), (.bool true)] 122, ow elU8 a c 5 b2] := h6
  refine G.nil ?_
  refine QA.end0 rfl ?_
  exact ⟨rfl, (Sat.pick [0] h5)⟩
set_option maxRecDepth 20000 in
theorem M_octet_rest_cut_po_w {W : Base} {w : World} {b : Nat} {a : Option Addr} {c : Nat} {b2 : List UInt8} {open_ : Bool} {bad : Bool} {n : Int}  (h : Sat W w [blk b [(.slice a b2.length c), (.bool open_), (.bool bad)] 122, ow elU8 a c 5 b2]) {r : Unit ⊕ Unit} (hm : M_octet_rest_cut_po b2 open_ bad n = some r) :
    Calls Try.prog 74 #[(.pointer (some ⟨b, 0, none⟩)), (vI n)] w (Ret fun v w' => match r with | .inl () => v = (.tuple #[(.slice none 0 0), (.bool false)]) ∧ Sat W w' [blk b [(.slice none 0 0), (.bool open_), (.bool true)] 122] | .inr () => ∃ r1 : Option Addr, v = (.tuple #[(.slice a ((b2.take n.toNat).length) c), (.bool true)]) ∧ (Cut r1 a c n.toNat 1) ∧ Sat W w' [ow elU8 a c 5 b2, blk b [(.slice r1 ((b2.drop n.toNat).length) (c - n.toNat)), (.bool open_), (.bool bad)] 122]) := by
  unfold M_octet_rest_cut_po at hm
  refine C.enter (N := 42) Try.func74 rfl Try.ntmps74 rfl ?_
  show C _ _ _ [(0, (.pointer (some ⟨b, 0, none⟩))), (1, (vI n))] _ _
  refine C.seq ?_
  refine C.region ?_
  refine G.yl (yl_assign rfl) rfl rfl rfl ?_
  refine G.yl (yl_assign rfl) rfl rfl rfl ?_
  refine G.nil ?_
  refine QA.then_normal ?_
  refine C.seq ?_
  refine C.join (γ := Bool) (fun g => match g with | t23 => [(0, (.pointer (some ⟨b, 0, none⟩))), (1, (vI n)), (4, (.slice none 0 0)), (5, (.bool false)), (23, (.bool t23))]) (fun g ww => match g with | t23 => (M_octet_rest_cut_po_k1 b2 bad n open_ t23 = some r) ∧ Sat W ww [blk b [(.slice a b2.length c), (.bool open_), (.bool bad)] 122, ow elU8 a c 5 b2]) ?_ ?_
  · refine C.region ?_
    refine G.yl (yl_move rfl) rfl rfl rfl ?_
    refine G.yl (yl_nilCheck rfl) rfl rfl rfl ?_
    refine G.yl (yl_fieldAddr fo120_2 rfl) rfl rfl rfl ?_
    refine G.yl (yl_load (v := (.bool bad)) ag4 rfl (View.at0 (j := 2) h.isBlk.view0 rfl)) rfl rfl rfl ?_
    refine G.yl (yl_move rfl) rfl rfl rfl ?_
    rcases sp_b hm with ⟨hc1, hm⟩ | ⟨hc1, hm⟩
    · refine G.offU rfl rfl hc1 rfl ?_
      refine G.offU rfl rfl hc1 rfl ?_
      refine G.yl (yl_pick_t rfl hc1 rfl) rfl rfl rfl ?_
      refine G.yl (yl_move rfl) rfl rfl rfl ?_
      refine G.offU rfl rfl rfl rfl ?_
      refine G.offU rfl rfl rfl rfl ?_
      refine G.offU rfl rfl rfl rfl ?_
      refine G.offU rfl rfl rfl rfl ?_
      refine G.offU rfl rfl rfl rfl ?_
      refine G.offU rfl rfl rfl rfl ?_
      refine G.offU rfl rfl rfl rfl ?_
      refine G.yl (yl_pick_t rfl rfl rfl) rfl rfl rfl ?_
      refine G.nil ?_
      exact QA.join true (Sub.of ⟨rfl, rfl, rfl, rfl, rfl, trivial⟩) ⟨hm, (Sat.pick [0, 0] h)⟩
    · refine G.on rfl rfl hc1 ?_
      refine G.yl (yl_move rfl) rfl rfl rfl ?_
      refine G.on rfl rfl hc1 ?_
      refine G.yl (yl_ltI rfl rfl) rfl rfl rfl ?_
      refine G.yl (yl_pick_f rfl hc1 rfl) rfl rfl rfl ?_
      refine G.yl (yl_move rfl) rfl rfl rfl ?_
      rcases sp_ite hm with ⟨hc2, hm⟩ | ⟨hc2, hm⟩
      · refine G.offU rfl rfl (dec_t hc2) rfl ?_
        refine G.offU rfl rfl (dec_t hc2) rfl ?_
        refine G.offU rfl rfl (dec_t hc2) rfl ?_
        refine G.offU rfl rfl (dec_t hc2) rfl ?_
        refine G.offU rfl rfl (dec_t hc2) rfl ?_
        refine G.offU rfl rfl (dec_t hc2) rfl ?_
        refine G.offU rfl rfl (dec_t hc2) rfl ?_
        refine G.yl (yl_pick_t rfl (dec_t hc2) rfl) rfl rfl rfl ?_
        refine G.nil ?_
        exact QA.join true (Sub.of ⟨rfl, rfl, rfl, rfl, rfl, trivial⟩) ⟨hm, (Sat.pick [0, 0] h)⟩
      · refine G.on rfl rfl (dec_f hc2) ?_
        refine G.yl (yl_move rfl) rfl rfl rfl ?_
        refine G.on rfl rfl (dec_f hc2) ?_
        refine G.yl (yl_move rfl) rfl rfl rfl ?_
        refine G.on rfl rfl (dec_f hc2) ?_
        refine G.yl (yl_nilCheck rfl) rfl rfl rfl ?_
        refine G.on rfl rfl (dec_f hc2) ?_
        refine G.yl (yl_fieldAddr fo120_0 rfl) rfl rfl rfl ?_
        refine G.on rfl rfl (dec_f hc2) ?_
        refine G.yl (yl_load (v := (.slice a b2.length c)) ag22 rfl (View.at0 (j := 0) h.isBlk.view0 rfl)) rfl rfl rfl ?_
        refine G.on rfl rfl (dec_f hc2) ?_
        refine G.yl (yl_lenE Try.underlying22 rfl) rfl rfl rfl ?_
        refine G.on rfl rfl (dec_f hc2) ?_
        refine G.yl (yl_gtI rfl rfl) rfl rfl rfl ?_
        refine G.yl (yl_pick_f rfl (dec_f hc2) rfl) rfl rfl rfl ?_
        refine G.nil ?_
        exact QA.join (decide ((b2.length : Int) < n)) (Sub.of ⟨rfl, rfl, rfl, rfl, rfl, trivial⟩) ⟨hm, (Sat.pick [0, 0] h)⟩
  · rintro t23 w3 ⟨hm, h4⟩
    show C _ _ _ [(0, (.pointer (some ⟨b, 0, none⟩))), (1, (vI n)), (4, (.slice none 0 0)), (5, (.bool false)), (23, (.bool t23))] _ _
    unfold M_octet_rest_cut_po_k1 at hm
    rcases sp_b hm with ⟨hc5, hm⟩ | ⟨hc5, hm⟩
    · refine C.cond_t rfl hc5 ?_
      refine C.seq ?_
      refine C.region ?_
      refine G.yl (yl_move rfl) rfl rfl rfl ?_
      obtain ⟨_, hy6, hm⟩ := sp_bind hm
      refine G.does (does_fn 2 rfl rfl rfl en108 (Sat.pick [0, 0] h4) (fun U hU hp hr hs => M_octet_rest_fail_po_w hp hy6)) rfl rfl rfl ?_
      rintro _ w7 ⟨U10, hb11, rfl, h9⟩
      have h8 : Sat W w7 [blk b [(.slice none 0 0), (.bool open_), (.bool true)] 122] := hb11 h9
      refine G.nil ?_
      refine QA.then_normal ?_
      refine C.seq ?_
      refine C.region ?_
      refine G.yl (yl_assign rfl) rfl rfl rfl ?_
      refine G.yl (yl_assign rfl) rfl rfl rfl ?_
      refine G.nil ?_
      refine QA.then_normal ?_
      refine C.ret ?_
      refine QA.then_ret ?_
      refine QA.ret2 rfl rfl rfl ?_
      obtain rfl := sp_ret1 hm
      exact ⟨rfl, (Sat.pick [0] h8)⟩
    · refine C.cond_f rfl hc5 ?_
      refine C.skip ?_
      refine QA.then_normal ?_
      refine C.seq ?_
      refine C.region ?_
      refine G.yl (yl_move rfl) rfl rfl rfl ?_
      refine G.yl (yl_nilCheck rfl) rfl rfl rfl ?_
      refine G.yl (yl_fieldAddr fo120_0 rfl) rfl rfl rfl ?_
      refine G.yl (yl_load (v := (.slice a b2.length c)) ag22 rfl (View.at0 (j := 0) h4.isBlk.view0 rfl)) rfl rfl rfl ?_
      refine G.yl (yl_move rfl) rfl rfl rfl ?_
      obtain ⟨hc12, hm⟩ := sp_chk hm
      refine G.yl (yl_slH (E := elU8) (l := b2) sl22 rfl rfl rfl hc12 (Sat.own_cap (Sat.pick [1] h4)).1) rfl rfl rfl ?_
      refine G.yl (yl_assign rfl) rfl rfl rfl ?_
      refine G.nil ?_
      refine QA.then_normal ?_
      refine C.seq ?_
      refine C.region ?_
      refine G.yl (yl_move rfl) rfl rfl rfl ?_
      refine G.yl (yl_move rfl) rfl rfl rfl ?_
      refine G.yl (yl_nilCheck rfl) rfl rfl rfl ?_
      refine G.yl (yl_fieldAddr fo120_0 rfl) rfl rfl rfl ?_
      refine G.yl (yl_load (v := (.slice a b2.length c)) ag22 rfl (View.at0 (j := 0) h4.isBlk.view0 rfl)) rfl rfl rfl ?_
      refine G.yl (yl_move rfl) rfl rfl rfl ?_
      obtain ⟨a13, ha14⟩ : ∃ p', Cut p' a c n.toNat 1 := Cut.mk _ _ _ _
      obtain ⟨hc15, hm⟩ := sp_chk hm
      refine G.yl (yl_slL (E := elU8) (l := b2) sl22 rfl rfl rfl hc15 ha14) rfl rfl rfl ?_
      refine G.yl (yl_nilCheck rfl) rfl rfl rfl ?_
      refine G.yl (yl_fieldAddr fo120_0 rfl) rfl rfl rfl ?_
      refine G.unit (does_store (vs := [(.slice a13 ((b2.drop n.toNat).length) (c - n.toNat))]) h4 sz22 rfl rfl rfl rfl (List.forall_mem_cons.2 ⟨rfl, (fun _ hh => by cases hh)⟩) (Nat.le_of_ble_eq_true rfl)) rfl rfl ?_
      rintro _ w16 h18
      have h17 : Sat W w16 [blk b [(.slice a13 ((b2.drop n.toNat).length) (c - n.toNat)), (.bool open_), (.bool bad)] 122, ow elU8 a c 5 b2] := h18
      refine G.nil ?_
      refine QA.then_normal ?_
      refine C.seq ?_
      refine C.region ?_
      refine G.yl (yl_move rfl) rfl rfl rfl ?_
      refine G.yl (yl_assign rfl) rfl rfl rfl ?_
      refine G.yl (yl_assign rfl) rfl rfl rfl ?_
      refine G.nil ?_
      refine QA.then_normal ?_
      refine C.ret ?_
      refine QA.ret2 rfl rfl rfl ?_
      obtain rfl := sp_ret1 hm
      exact ⟨a13, rfl, ha14, (Sat.pick [1, 0] h17)⟩
set_option maxRecDepth 20000 in
theorem M_octet_Get_v_w {W : Base} {w : World} {a : Option Addr} {c : Nat} {b : List UInt8} {at_ : Int} {width : Int} (hv_b : V W a (elU8.row b)) (hq_b : b.length ≤ c) (h : Sat W w []) {r1 : UInt64} {r2 : Bool} (hm : M_octet_Get_v b at_ width = some (r1, r2)) :
    Calls Try.prog 110 #[(.slice a b.length c), (vI at_), (vI width)] w (Ret fun v w' => v = (.tuple #[(v64 r1), (.bool r2)]) ∧ Sat W w' []) := by
  unfold M_octet_Get_v at hm
  refine C.enter (N := 50) Try.func110 rfl Try.ntmps110 rfl ?_
  show C _ _ _ [(0, (.slice a b.length c)), (1, (vI at_)), (2, (vI width))] _ _
  refine C.seq ?_
  refine C.region ?_
  refine G.yl (yl_assign rfl) rfl rfl rfl ?_
  refine G.yl (yl_assign rfl) rfl rfl rfl ?_
  refine G.nil ?_
  refine QA.then_normal ?_
  refine C.seq ?_
  refine C.join (γ := Bool) (fun g => match g with | t31 => [(0, (.slice a b.length c)), (1, (vI at_)), (2, (vI width)), (6, (.int .u64 0)), (7, (.bool false)), (31, (.bool t31))]) (fun g ww => match g with | t31 => (M_octet_Get_v_k1 at_ b width t31 = some (r1, r2)) ∧ Sat W ww []) ?_ ?_
  · refine C.region ?_
    refine G.yl (yl_move rfl) rfl rfl rfl ?_
    obtain ⟨r1_2, hy1, hm⟩ := sp_bind hm
    refine G.does (does_fn 0 rfl rfl rfl en109 h (fun U hU hp hr hs => M_octet_may_w hp hy1)) rfl rfl rfl ?_
    rintro _ w2 ⟨U5, hb6, rfl, h4⟩
    have h3 : Sat W w2 [] := hb6 h4
    refine G.yl (yl_not rfl) rfl rfl rfl ?_
    refine G.yl (yl_move rfl) rfl rfl rfl ?_
    rcases sp_b hm with ⟨hc7, hm⟩ | ⟨hc7, hm⟩
    · refine G.on rfl rfl (not_f hc7) ?_
      refine G.yl (yl_move rfl) rfl rfl rfl ?_
      refine G.on rfl rfl (not_f hc7) ?_
      refine G.yl (yl_ltI rfl rfl) rfl rfl rfl ?_
      refine G.yl (yl_pick_f rfl (not_f hc7) rfl) rfl rfl rfl ?_
      refine G.yl (yl_move rfl) rfl rfl rfl ?_
      rcases sp_ite hm with ⟨hc8, hm⟩ | ⟨hc8, hm⟩
      · refine G.offU rfl rfl (dec_t hc8) rfl ?_
        refine G.offU rfl rfl (dec_t hc8) rfl ?_
        refine G.offU rfl rfl (dec_t hc8) rfl ?_
        refine G.offU rfl rfl (dec_t hc8) rfl ?_
        refine G.yl (yl_pick_t rfl (dec_t hc8) rfl) rfl rfl rfl ?_
        refine G.yl (yl_move rfl) rfl rfl rfl ?_
        refine G.offU rfl rfl rfl rfl ?_
        refine G.offU rfl rfl rfl rfl ?_
        refine G.offU rfl rfl rfl rfl ?_
        refine G.offU rfl rfl rfl rfl ?_
        refine G.offU rfl rfl rfl rfl ?_
        refine G.offU rfl rfl rfl rfl ?_
        refine G.yl (yl_pick_t rfl rfl rfl) rfl rfl rfl ?_
        refine G.nil ?_
        exact QA.join true (Sub.of ⟨rfl, rfl, rfl, rfl, rfl, rfl, trivial⟩) ⟨hm, (Sat.pick [] h3)⟩
      · refine G.on rfl rfl (dec_f hc8) ?_
        refine G.yl (yl_move rfl) rfl rfl rfl ?_
        refine G.on rfl rfl (dec_f hc8) ?_
        refine G.yl (yl_move rfl) rfl rfl rfl ?_
        refine G.on rfl rfl (dec_f hc8) ?_
        refine G.yl (yl_lenE Try.underlying22 rfl) rfl rfl rfl ?_
        refine G.on rfl rfl (dec_f hc8) ?_
        refine G.yl (yl_gtI rfl rfl) rfl rfl rfl ?_
        refine G.yl (yl_pick_f rfl (dec_f hc8) rfl) rfl rfl rfl ?_
        refine G.yl (yl_move rfl) rfl rfl rfl ?_
        rcases sp_ite hm with ⟨hc9, hm⟩ | ⟨hc9, hm⟩
        · refine G.offU rfl rfl (dec_t hc9) rfl ?_
          refine G.offU rfl rfl (dec_t hc9) rfl ?_
          refine G.offU rfl rfl (dec_t hc9) rfl ?_
          refine G.offU rfl rfl (dec_t hc9) rfl ?_
          refine G.offU rfl rfl (dec_t hc9) rfl ?_
          refine G.offU rfl rfl (dec_t hc9) rfl ?_
          refine G.yl (yl_pick_t rfl (dec_t hc9) rfl) rfl rfl rfl ?_
          refine G.nil ?_
          exact QA.join true (Sub.of ⟨rfl, rfl, rfl, rfl, rfl, rfl, trivial⟩) ⟨hm, (Sat.pick [] h3)⟩
        · refine G.on rfl rfl (dec_f hc9) ?_
          refine G.yl (yl_move rfl) rfl rfl rfl ?_
          refine G.on rfl rfl (dec_f hc9) ?_
          refine G.yl (yl_lenE Try.underlying22 rfl) rfl rfl rfl ?_
          refine G.on rfl rfl (dec_f hc9) ?_
          refine G.yl (yl_move rfl) rfl rfl rfl ?_
          refine G.on rfl rfl (dec_f hc9) ?_
          obtain ⟨hc10, hm⟩ := sp_chk hm
          refine G.yl (yl_subI rfl rfl hc10) rfl rfl rfl ?_
          refine G.on rfl rfl (dec_f hc9) ?_
          refine G.yl (yl_move rfl) rfl rfl rfl ?_
          refine G.on rfl rfl (dec_f hc9) ?_
          refine G.yl (yl_ltI rfl rfl) rfl rfl rfl ?_
          refine G.yl (yl_pick_f rfl (dec_f hc9) rfl) rfl rfl rfl ?_
          refine G.nil ?_
          exact QA.join (decide (((b.length : Int) - at_) < width)) (Sub.of ⟨rfl, rfl, rfl, rfl, rfl, rfl, trivial⟩) ⟨hm, (Sat.pick [] h3)⟩
    · refine G.offU rfl rfl (not_t hc7) rfl ?_
      refine G.offU rfl rfl (not_t hc7) rfl ?_
      refine G.yl (yl_pick_t rfl (not_t hc7) rfl) rfl rfl rfl ?_
      refine G.yl (yl_move rfl) rfl rfl rfl ?_
      refine G.offU rfl rfl rfl rfl ?_
      refine G.offU rfl rfl rfl rfl ?_
      refine G.offU rfl rfl rfl rfl ?_
      refine G.offU rfl rfl rfl rfl ?_
      refine G.yl (yl_pick_t rfl rfl rfl) rfl rfl rfl ?_
      refine G.yl (yl_move rfl) rfl rfl rfl ?_
      refine G.offU rfl rfl rfl rfl ?_
      refine G.offU rfl rfl rfl rfl ?_
      refine G.offU rfl rfl rfl rfl ?_
      refine G.offU rfl rfl rfl rfl ?_
      refine G.offU rfl rfl rfl rfl ?_
      refine G.offU rfl rfl rfl rfl ?_
      refine G.yl (yl_pick_t rfl rfl rfl) rfl rfl rfl ?_
      refine G.nil ?_
      exact QA.join true (Sub.of ⟨rfl, rfl, rfl, rfl, rfl, rfl, trivial⟩) ⟨hm, (Sat.pick [] h3)⟩
  · rintro t31 w11 ⟨hm, h12⟩
    show C _ _ _ [(0, (.slice a b.length c)), (1, (vI at_)), (2, (vI width)), (6, (.int .u64 0)), (7, (.bool false)), (31, (.bool t31))] _ _
    unfold M_octet_Get_v_k1 at hm
    rcases sp_b hm with ⟨hc13, hm⟩ | ⟨hc13, hm⟩
    · refine C.cond_t rfl hc13 ?_
      refine C.seq ?_
      refine C.region ?_
      refine G.yl (yl_assign rfl) rfl rfl rfl ?_
      refine G.yl (yl_assign rfl) rfl rfl rfl ?_
      refine G.nil ?_
      refine QA.then_normal ?_
      refine C.ret ?_
      refine QA.then_ret ?_
      refine QA.ret2 rfl rfl rfl ?_
      obtain ⟨rfl, rfl⟩ := sp_ret2 hm
      exact ⟨rfl, (Sat.pick [] h12)⟩
    · refine C.cond_f rfl hc13 ?_
      refine C.skip ?_
      refine QA.then_normal ?_
      refine C.seq ?_
      refine C.region ?_
      refine G.yl (yl_assign rfl) rfl rfl rfl ?_
      refine G.nil ?_
      refine QA.then_normal ?_
      refine C.seq ?_
      refine C.seq ?_
      refine C.region ?_
      refine G.yl (yl_move rfl) rfl rfl rfl ?_
      refine G.yl (yl_move rfl) rfl rfl rfl ?_
      refine G.yl (yl_move rfl) rfl rfl rfl ?_
      refine G.yl (yl_move rfl) rfl rfl rfl ?_
      obtain ⟨hc14, hm⟩ := sp_chk hm
      refine G.yl (yl_addI rfl rfl hc14) rfl rfl rfl ?_
      obtain ⟨a15, ha16⟩ : ∃ p', Cut p' a c at_.toNat 1 := Cut.mk _ _ _ _
      obtain ⟨hc17, hm⟩ := sp_chk hm
      refine G.yl (yl_slLH (E := elU8) (l := b) sl22 rfl rfl rfl rfl hc17 hq_b ha16) rfl rfl rfl ?_
      refine G.yl (yl_lenE Try.underlying22 rfl) rfl rfl rfl ?_
      refine G.yl (yl_move rfl) rfl rfl rfl ?_
      refine G.nil ?_
      refine QA.then_normal ?_
      refine C.block ?_
      obtain ⟨o, ho18, hm19⟩ := sp_bind hm
      refine C.left (γ := UInt64) (.exit 0) (fun g => match g with | n_2 => [(6, (.int .u64 0)), (7, (.bool false)), (8, (v64 n_2))]) (fun g ww => match g with | n_2 => n_2 = o ∧ Sat W ww []) ?_ ?_
      · refine C.loopO (γ := UInt64 × Int) (fun g => match g with | (n, t39) => [(6, (.int .u64 0)), (7, (.bool false)), (8, (v64 n)), (37, (.slice a15 (((b.take ((at_ + width).toNat)).drop at_.toNat).length) (c - at_.toNat))), (38, (vI (((b.take ((at_ + width).toNat)).drop at_.toNat).length : Int))), (39, (vI t39))]) (fun g ww => match g with | (n, t39) => Sat W ww []) (fun g => match g with | (n, t39) => (n, t39)) (0, 0) ho18 (Sub.of ⟨rfl, rfl, rfl, rfl, rfl, rfl, trivial⟩) (Sat.pick [] h12) ?_
        rintro ⟨n, t39⟩ k22 w20 y_ h21 hm hg23
        show C _ _ _ [(6, (.int .u64 0)), (7, (.bool false)), (8, (v64 n)), (37, (.slice a15 (((b.take ((at_ + width).toNat)).drop at_.toNat).length) (c - at_.toNat))), (38, (vI (((b.take ((at_ + width).toNat)).drop at_.toNat).length : Int))), (39, (vI t39))] _ _
        change M_octet_Get_v_b2 at_ b width n t39 = some y_ at hm
        unfold M_octet_Get_v_b2 at hm
        refine C.seq ?_
        refine C.region ?_
        refine G.yl (yl_ltI rfl rfl) rfl rfl rfl ?_
        refine G.nil ?_
        refine QA.then_normal ?_
        refine C.seq ?_
        rcases sp_ite hm with ⟨hc24, hm⟩ | ⟨hc24, hm⟩
        · refine C.cond_t rfl (dec_t hc24) ?_
          refine C.skip ?_
          refine QA.then_normal ?_
          refine C.seq ?_
          refine C.block ?_
          refine C.seq ?_
          refine C.region ?_
          obtain ⟨x, hy25, hm⟩ := sp_bind hm
          refine G.yl (yl_ixP (l := (b.take ((at_ + width).toNat)).drop at_.toNat) sl22 rfl rfl (View.isA (E := elU8) (View.cut (View.rtake (hv_b.at_ h21) ((at_ + width).toNat)) ha16 (by have := hq_b; simp only [List.length_drop, List.length_take, List.length_append, List.length_set, List.length_cons, List.length_nil, List.length_ofFn, copyL_length] at *; omega)) (by decide) (at?_lt hy25)) rfl (at?_lt hy25)) rfl rfl rfl ?_
          refine G.yl (yl_ld1 (E := elU8) (v := (v8 x)) ag5 rfl (View.cut (View.rtake (hv_b.at_ h21) ((at_ + width).toNat)) ha16 (by have := hq_b; simp only [List.length_drop, List.length_take, List.length_append, List.length_set, List.length_cons, List.length_nil, List.length_ofFn, copyL_length] at *; omega)) (at?_some hy25).2 rfl) rfl rfl rfl ?_
          refine G.yl (yl_assign rfl) rfl rfl rfl ?_
          refine G.nil ?_
          refine QA.then_normal ?_
          refine C.region ?_
          refine G.yl (yl_move rfl) rfl rfl rfl ?_
          refine G.yl (yl_shl64 rfl rfl (by decide)) rfl rfl rfl ?_
          refine G.yl (yl_move rfl) rfl rfl rfl ?_
          refine G.yl (yl_8to64 us5 Try.underlying112 rfl) rfl rfl rfl ?_
          refine G.yl (yl_or64 rfl rfl) rfl rfl rfl ?_
          refine G.yl (yl_assign rfl) rfl rfl rfl ?_
          refine G.nil ?_
          refine QA.block_normal ?_
          refine QA.then_normal ?_
          refine C.region ?_
          obtain ⟨hc26, hm⟩ := sp_chk hm
          refine G.yl (yl_addI rfl rfl hc26) rfl rfl rfl ?_
          refine G.yl (yl_move rfl) rfl rfl rfl ?_
          refine G.nil ?_
          obtain rfl := sp_ret1 hm
          exact QA.againO ((shl64 n 8) ||| x.toUInt64, t39 + 1) hg23 (Sub.of ⟨rfl, rfl, rfl, rfl, rfl, rfl, trivial⟩) (Sat.pick [] h21)
        · refine C.cond_f rfl (dec_f hc24) ?_
          refine C.exit ?_
          refine QA.then_exit ?_
          refine QA.then_exit ?_
          obtain rfl := sp_ret1 hm
          exact QA.left n (Sub.of ⟨rfl, rfl, rfl, trivial⟩) ⟨hg23, (Sat.pick [] h21)⟩
      · rintro n_2 w27 ⟨rfl, h28⟩
        have hm := hm19
        show QA _ _ [(6, (.int .u64 0)), (7, (.bool false)), (8, (v64 n_2))] _ _
        refine QA.block_here ?_
        refine QA.then_normal ?_
        refine C.seq ?_
        refine C.region ?_
        refine G.yl (yl_move rfl) rfl rfl rfl ?_
        refine G.yl (yl_assign rfl) rfl rfl rfl ?_
        refine G.yl (yl_assign rfl) rfl rfl rfl ?_
        refine G.nil ?_
        refine QA.then_normal ?_
        refine C.ret ?_
        refine QA.ret2 rfl rfl rfl ?_
        obtain ⟨rfl, rfl⟩ := sp_ret2 hm
        exact ⟨rfl, (Sat.pick [] h28)⟩
set_option maxRecDepth 20000 in
theorem M_octet_Reader_Num_po_w {W : Base} {w : World} {b : Nat} {a : Option Addr} {c : Nat} {b2 : List UInt8} {open_ : Bool} {bad : Bool} {width : Int}  (h : Sat W w [blk b [(.slice a b2.length c), (.bool open_), (.bool bad)] 122, ow elU8 a c 5 b2]) {r1 : UInt64} {r4 : List UInt8} {r5 : Bool} (hm : M_octet_Reader_Num_po b2 open_ bad width = some (r1, r4, r5)) :
    Calls Try.prog 76 #[(.pointer (some ⟨b, 0, none⟩)), (vI width)] w (Ret fun v w' => ∃ r2 : Option Addr, ∃ r3 : Nat, v = (v64 r1) ∧ Sat W w' [blk b [(.slice r2 r4.length r3), (.bool open_), (.bool r5)] 122, ow elU8 r2 r3 5 r4]) := by
  unfold M_octet_Reader_Num_po at hm
  refine C.enter (N := 35) Try.func76 rfl Try.ntmps76 rfl ?_
  show C _ _ _ [(0, (.pointer (some ⟨b, 0, none⟩))), (1, (vI width))] _ _
  refine C.seq ?_
  refine C.region ?_
  refine G.yl (yl_assign rfl) rfl rfl rfl ?_
  refine G.nil ?_
  refine QA.then_normal ?_
  refine C.seq ?_
  refine C.seq ?_
  refine C.region ?_
  refine G.yl (yl_move rfl) rfl rfl rfl ?_
  obtain ⟨_, hy1, hm⟩ := sp_bind hm
  refine G.does (does_fn 2 rfl rfl rfl en73 (Sat.pick [0, 0] h) (fun U hU hp hr hs => M_octet_Reader_none_po_w hp hy1)) rfl rfl rfl ?_
  rintro _ w2 ⟨U5, hb6, rfl, h4⟩
  have h3 : Sat W w2 [blk b [(.slice a b2.length c), (.bool open_), (.bool bad)] 122, ow elU8 a c 5 b2] := hb6 h4
  refine G.nil ?_
  refine QA.then_normal ?_
  rcases sp_b hm with ⟨hc7, hm⟩ | ⟨hc7, hm⟩
  · refine C.cond_f rfl (not_f hc7) ?_
    refine C.skip ?_
    refine QA.then_normal ?_
    refine C.seq ?_
    refine C.seq ?_
    refine C.region ?_
    refine G.yl (yl_move rfl) rfl rfl rfl ?_
    obtain ⟨r1_2, hy8, hm⟩ := sp_bind hm
    refine G.does (does_fn 0 rfl rfl rfl en109 h3 (fun U hU hp hr hs => M_octet_may_w hp hy8)) rfl rfl rfl ?_
    rintro _ w9 ⟨U12, hb13, rfl, h11⟩
    have h10 : Sat W w9 [blk b [(.slice a b2.length c), (.bool open_), (.bool bad)] 122, ow elU8 a c 5 b2] := hb13 h11
    refine G.yl (yl_not rfl) rfl rfl rfl ?_
    refine G.nil ?_
    refine QA.then_normal ?_
    rcases sp_b hm with ⟨hc14, hm⟩ | ⟨hc14, hm⟩
    · refine C.cond_f rfl (not_f hc14) ?_
      refine C.skip ?_
      refine QA.then_normal ?_
      refine C.seq ?_
      refine C.region ?_
      refine G.yl (yl_move rfl) rfl rfl rfl ?_
      refine G.yl (yl_nilCheck rfl) rfl rfl rfl ?_
      refine G.yl (yl_fieldAddr fo122_0 rfl) rfl rfl rfl ?_
      refine G.yl (yl_move rfl) rfl rfl rfl ?_
      obtain ⟨y_, hy15, hm⟩ := sp_bind hm
      rcases y_ with _ | _
      · refine G.does (does_fn 2 rfl rfl rfl en74 (Sat.pick [0, 0] h10) (fun U hU hp hr hs => M_octet_rest_cut_po_w hp hy15)) rfl rfl rfl ?_
        rintro _ w16 ⟨U19, hb20, rfl, h18⟩
        have h17 : Sat W w16 [blk b [(.slice none 0 0), (.bool open_), (.bool true)] 122] := hb20 h18
        refine G.yl (yl_move rfl) rfl rfl rfl ?_
        refine G.yl (yl_extract rfl rfl) rfl rfl rfl ?_
        refine G.yl (yl_extract rfl rfl) rfl rfl rfl ?_
        refine G.yl (yl_assign rfl) rfl rfl rfl ?_
        refine G.yl (yl_assign rfl) rfl rfl rfl ?_
        refine G.nil ?_
        refine QA.then_normal ?_
        refine C.seq ?_
        refine C.seq ?_
        refine C.region ?_
        refine G.yl (yl_move rfl) rfl rfl rfl ?_
        refine G.yl (yl_not rfl) rfl rfl rfl ?_
        refine G.nil ?_
        refine QA.then_normal ?_
        refine C.cond_t rfl (not_t rfl) ?_
        refine C.seq ?_
        refine C.region ?_
        refine G.yl (yl_assign rfl) rfl rfl rfl ?_
        refine G.nil ?_
        refine QA.then_normal ?_
        refine C.ret ?_
        refine QA.then_ret ?_
        refine QA.ret1 rfl rfl ?_
        obtain ⟨rfl, rfl, rfl⟩ := sp_ret3 hm
        exact ⟨none, 0, rfl, (Sat.pick [1, 0] (Sat.own_zero h17 elU8 none 5))⟩
      · refine G.does (does_fn 2 rfl rfl rfl en74 (Sat.pick [0, 0] h10) (fun U hU hp hr hs => M_octet_rest_cut_po_w hp hy15)) rfl rfl rfl ?_
        rintro _ w23 ⟨U26, hb27, r121, rfl, hf22, h25⟩
        have h24 : Sat W w23 [ow elU8 a c 5 b2, blk b [(.slice r121 ((b2.drop width.toNat).length) (c - width.toNat)), (.bool open_), (.bool bad)] 122] := hb27 h25
        refine G.yl (yl_move rfl) rfl rfl rfl ?_
        refine G.yl (yl_extract rfl rfl) rfl rfl rfl ?_
        refine G.yl (yl_extract rfl rfl) rfl rfl rfl ?_
        refine G.yl (yl_assign rfl) rfl rfl rfl ?_
        refine G.yl (yl_assign rfl) rfl rfl rfl ?_
        refine G.nil ?_
        refine QA.then_normal ?_
        refine C.seq ?_
        refine C.seq ?_
        refine C.region ?_
        refine G.yl (yl_move rfl) rfl rfl rfl ?_
        refine G.yl (yl_not rfl) rfl rfl rfl ?_
        refine G.nil ?_
        refine QA.then_normal ?_
        refine C.cond_f rfl (not_f rfl) ?_
        refine C.skip ?_
        refine QA.then_normal ?_
        refine C.seq ?_
        refine C.region ?_
        refine G.yl (yl_move rfl) rfl rfl rfl ?_
        refine G.yl (yl_move rfl) rfl rfl rfl ?_
        obtain ⟨⟨r1_3, r2_2⟩, hy28, hm⟩ := sp_bind hm
        refine G.does (does_fn 0 rfl rfl rfl en110 h24 (fun U hU hp hr hs => M_octet_Get_v_w (V.rtake (Rest.view hr) width.toNat) (by have := (Sat.own_cap h24).1; simp only [List.length_drop, List.length_take, List.length_append, List.length_set, List.length_cons, List.length_nil, List.length_ofFn, copyL_length] at *; omega) hp hy28)) rfl rfl rfl ?_
        rintro _ w29 ⟨U32, hb33, rfl, h31⟩
        have h30 : Sat W w29 [ow elU8 a c 5 b2, blk b [(.slice r121 ((b2.drop width.toNat).length) (c - width.toNat)), (.bool open_), (.bool bad)] 122] := hb33 h31
        refine G.yl (yl_move rfl) rfl rfl rfl ?_
        refine G.yl (yl_extract rfl rfl) rfl rfl rfl ?_
        refine G.yl (yl_extract rfl rfl) rfl rfl rfl ?_
        refine G.yl (yl_assign rfl) rfl rfl rfl ?_
        refine G.yl (yl_assign rfl) rfl rfl rfl ?_
        refine G.nil ?_
        refine QA.then_normal ?_
        refine C.seq ?_
        refine C.region ?_
        refine G.yl (yl_move rfl) rfl rfl rfl ?_
        refine G.yl (yl_assign rfl) rfl rfl rfl ?_
        refine G.nil ?_
        refine QA.then_normal ?_
        refine C.ret ?_
        refine QA.ret1 rfl rfl ?_
        have h34 : Sat W w29 [ow elU8 r121 (c - width.toNat) 5 (b2.drop width.toNat), blk b [(.slice r121 ((b2.drop width.toNat).length) (c - width.toNat)), (.bool open_), (.bool bad)] 122] := Sat.own_cut h30 hf22
        obtain ⟨rfl, rfl, rfl⟩ := sp_ret3 hm
        exact ⟨r121, c - width.toNat, rfl, (Sat.pick [1, 0] h34)⟩
    · refine C.cond_t rfl (not_t hc14) ?_
      refine C.seq ?_
      refine C.region ?_
      refine G.yl (yl_move rfl) rfl rfl rfl ?_
      refine G.yl (yl_nilCheck rfl) rfl rfl rfl ?_
      refine G.yl (yl_fieldAddr fo122_0 rfl) rfl rfl rfl ?_
      obtain ⟨_, hy35, hm⟩ := sp_bind hm
      refine G.does (does_fn 2 rfl rfl rfl en108 (Sat.pick [0, 0] h10) (fun U hU hp hr hs => M_octet_rest_fail_po_w hp hy35)) rfl rfl rfl ?_
      rintro _ w36 ⟨U39, hb40, rfl, h38⟩
      have h37 : Sat W w36 [blk b [(.slice none 0 0), (.bool open_), (.bool true)] 122] := hb40 h38
      refine G.nil ?_
      refine QA.then_normal ?_
      refine C.seq ?_
      refine C.region ?_
      refine G.yl (yl_assign rfl) rfl rfl rfl ?_
      refine G.nil ?_
      refine QA.then_normal ?_
      refine C.ret ?_
      refine QA.then_ret ?_
      refine QA.ret1 rfl rfl ?_
      obtain ⟨rfl, rfl, rfl⟩ := sp_ret3 hm
      exact ⟨none, 0, rfl, (Sat.pick [1, 0] (Sat.own_zero h37 elU8 none 5))⟩
  · refine C.cond_t rfl (not_t hc7) ?_
    refine C.seq ?_
    refine C.region ?_
    refine G.yl (yl_assign rfl) rfl rfl rfl ?_
    refine G.nil ?_
    refine QA.then_normal ?_
    refine C.ret ?_
    refine QA.then_ret ?_
    refine QA.ret1 rfl rfl ?_
    obtain ⟨rfl, rfl, rfl⟩ := sp_ret3 hm
    exact ⟨a, c, rfl, (Sat.pick [0, 0] h3)⟩
set_option maxRecDepth 20000 in
theorem M_addr_Read_v_w {W : Base} {w : World} {a : Option Addr} {c : Nat} {b : List UInt8} (hv_b : V W a (elU8.row b)) (hq_b : b.length ≤ c) (h : Sat W w []) {r1 : G_api_Addr} {r2 : Int} (hm : M_addr_Read_v b = some (r1, r2)) :
    Calls Try.prog 71 #[(.slice a b.length c)] w (Ret fun v w' => v = (.tuple #[(.agg #[(v32 r1.Host), (v16 r1.Port)]), (vI r2)]) ∧ Sat W w' []) := by
  unfold M_addr_Read_v at hm
  refine C.enter (N := 24) Try.func71 rfl Try.ntmps71 rfl ?_
  show C _ _ _ [(0, (.slice a b.length c))] _ _
  refine C.seq ?_
  refine C.region ?_
  refine G.does (does_alloc (cs := [(.int .u32 0), (.int .u16 0)]) h z58 rfl) rfl rfl rfl ?_
  rintro _ w2 ⟨b1, rfl, h3⟩
  refine G.yl (yl_assign rfl) rfl rfl rfl ?_
  refine G.nil ?_
  refine QA.then_normal ?_
  refine C.seq ?_
  refine C.seq ?_
  refine C.region ?_
  refine G.yl (yl_move rfl) rfl rfl rfl ?_
  refine G.yl (yl_lenE Try.underlying22 rfl) rfl rfl rfl ?_
  refine G.yl (yl_neI rfl rfl) rfl rfl rfl ?_
  refine G.nil ?_
  refine QA.then_normal ?_
  rcases sp_ite hm with ⟨hc4, hm⟩ | ⟨hc4, hm⟩
  · refine C.cond_f rfl (not_f (dec_t hc4)) ?_
    refine C.skip ?_
    refine QA.then_normal ?_
    refine C.seq ?_
    refine C.region ?_
    refine G.yl (yl_move rfl) rfl rfl rfl ?_
    obtain ⟨_, hy5, hm⟩ := sp_bind hm
    refine G.does (does_fn 0 rfl rfl rfl en34 h3 (fun U hU hp hr hs => M_octet_Open_v_w (hs.v hv_b) hq_b hp hy5)) rfl rfl rfl ?_
    rintro _ w9 ⟨U12, hb13, r16, r27, r38, rfl, h11⟩
    have h10 : Sat W w9 [blk r16 [(.slice r27 ((([] : List UInt8) ++ b).length) r38), (.bool true), (.bool false)] 122, ow elU8 r27 r38 5 (([] : List UInt8) ++ b), blk b1 [(.int .u32 0), (.int .u16 0)] 58] := hb13 h11
    refine G.yl (yl_assign rfl) rfl rfl rfl ?_
    refine G.nil ?_
    refine QA.then_normal ?_
    refine C.seq ?_
    refine C.region ?_
    refine G.yl (yl_move rfl) rfl rfl rfl ?_
    obtain ⟨⟨r1_2, r4_2, r5_2⟩, hy14, hm⟩ := sp_bind hm
    refine G.does (does_fn 2 rfl rfl rfl en76 (Sat.pick [0, 0, 0] h10) (fun U hU hp hr hs => M_octet_Reader_Num_po_w (b2 := ([] : List UInt8) ++ b) hp hy14)) rfl rfl rfl ?_
    rintro _ w17 ⟨U20, hb21, r215, r316, rfl, h19⟩
    have h18 : Sat W w17 [blk r16 [(.slice r215 r4_2.length r316), (.bool true), (.bool r5_2)] 122, ow elU8 r215 r316 5 r4_2, blk b1 [(.int .u32 0), (.int .u16 0)] 58] := hb21 h19
    refine G.yl (yl_64to32 us112 Try.underlying41 rfl) rfl rfl rfl ?_
    refine G.yl (yl_move rfl) rfl rfl rfl ?_
    obtain ⟨⟨r1_3, r4_3, r5_3⟩, hy22, hm⟩ := sp_bind hm
    refine G.does (does_fn 2 rfl rfl rfl en76 (Sat.pick [0, 0, 0] h18) (fun U hU hp hr hs => M_octet_Reader_Num_po_w hp hy22)) rfl rfl rfl ?_
    rintro _ w25 ⟨U28, hb29, r223, r324, rfl, h27⟩
    have h26 : Sat W w25 [blk r16 [(.slice r223 r4_3.length r324), (.bool true), (.bool r5_3)] 122, ow elU8 r223 r324 5 r4_3, blk b1 [(.int .u32 0), (.int .u16 0)] 58] := hb29 h27
    refine G.yl (yl_64to16 us112 Try.underlying56 rfl) rfl rfl rfl ?_
    refine G.yl (yl_build (vs := [(v32 r1_2.toUInt32), (v16 r1_3.toUInt16)]) (cells := #[(v32 r1_2.toUInt32), (v16 r1_3.toUInt16)]) rfl (by kernel_rfl)) rfl rfl rfl ?_
    refine G.does (does_alloc (cs := [(.int .u32 0), (.int .u16 0)]) h26 z58 rfl) rfl rfl rfl ?_
    rintro _ w31 ⟨b30, rfl, h32⟩
    refine G.unit (does_store (vs := [(v32 r1_2.toUInt32), (v16 r1_3.toUInt16)]) h32 sz58 rfl rfl rfl rfl (List.forall_mem_cons.2 ⟨rfl, (List.forall_mem_cons.2 ⟨rfl, (fun _ hh => by cases hh)⟩)⟩) (Nat.le_of_ble_eq_true rfl)) rfl rfl ?_
    rintro _ w33 h35
    have h34 : Sat W w33 [blk b30 [(v32 r1_2.toUInt32), (v16 r1_3.toUInt16)] 58, blk r16 [(.slice r223 r4_3.length r324), (.bool true), (.bool r5_3)] 122, ow elU8 r223 r324 5 r4_3, blk b1 [(.int .u32 0), (.int .u16 0)] 58] := h35
    refine G.nil ?_
    refine QA.then_normal ?_
    refine C.seq ?_
    refine C.seq ?_
    refine C.region ?_
    refine G.yl (yl_loadN (vs := [(v32 r1_2.toUInt32), (v16 r1_3.toUInt16)]) ag58 sz58 (by simp [bytesV_length]) rfl ((View.drop h34.isBlk.view0 0).take 2)) rfl rfl rfl ?_
    obtain ⟨r1_4, hy36, hm⟩ := sp_bind hm
    refine G.does (does_fn 0 rfl rfl rfl en91 h34 (fun U hU hp hr hs => M_addr_Good_w (a := (G_api_Addr.mk r1_2.toUInt32 r1_3.toUInt16)) hp hy36)) rfl rfl rfl ?_
    rintro _ w37 ⟨U40, hb41, rfl, h39⟩
    have h38 : Sat W w37 [blk b30 [(v32 r1_2.toUInt32), (v16 r1_3.toUInt16)] 58, blk r16 [(.slice r223 r4_3.length r324), (.bool true), (.bool r5_3)] 122, ow elU8 r223 r324 5 r4_3, blk b1 [(.int .u32 0), (.int .u16 0)] 58] := hb41 h39
    refine G.yl (yl_not rfl) rfl rfl rfl ?_
    refine G.nil ?_
    refine QA.then_normal ?_
    rcases sp_b hm with ⟨hc42, hm⟩ | ⟨hc42, hm⟩
    · refine C.cond_f rfl (not_f hc42) ?_
      refine C.skip ?_
      refine QA.then_normal ?_
      refine C.seq ?_
      refine C.region ?_
      refine G.yl (yl_loadN (vs := [(v32 r1_2.toUInt32), (v16 r1_3.toUInt16)]) ag58 sz58 (by simp [bytesV_length]) rfl ((View.drop h38.isBlk.view0 0).take 2)) rfl rfl rfl ?_
      refine G.unit (does_store (vs := [(v32 r1_2.toUInt32), (v16 r1_3.toUInt16)]) (Sat.pick [3, 0, 0, 0] h38) sz58 rfl rfl rfl rfl (List.forall_mem_cons.2 ⟨rfl, (List.forall_mem_cons.2 ⟨rfl, (fun _ hh => by cases hh)⟩)⟩) (Nat.le_of_ble_eq_true rfl)) rfl rfl ?_
      rintro _ w43 h45
      have h44 : Sat W w43 [blk b1 [(v32 r1_2.toUInt32), (v16 r1_3.toUInt16)] 58, blk b30 [(v32 r1_2.toUInt32), (v16 r1_3.toUInt16)] 58, blk r16 [(.slice r223 r4_3.length r324), (.bool true), (.bool r5_3)] 122, ow elU8 r223 r324 5 r4_3] := h45
      refine G.yl (yl_assign rfl) rfl rfl rfl ?_
      refine G.nil ?_
      refine QA.then_normal ?_
      refine C.ret ?_
      refine QA.ret_ct rfl (InCell.many (vs := [(v32 r1_2.toUInt32), (v16 r1_3.toUInt16)]) rfl ag58 sz58 (by simp [bytesV_length]) ((View.drop h44.isBlk.view0 0).take 2)) rfl ?_
      obtain ⟨rfl, rfl⟩ := sp_ret2 hm
      exact ⟨rfl, (Sat.pick [] h44)⟩
    · refine C.cond_t rfl (not_t hc42) ?_
      refine C.seq ?_
      refine C.region ?_
      refine G.yl (yl_build (vs := []) (cells := #[(.int .u32 0), (.int .u16 0)]) rfl (by kernel_rfl)) rfl rfl rfl ?_
      refine G.unit (does_store (vs := [(.int .u32 0), (.int .u16 0)]) (Sat.pick [3, 0, 0, 0] h38) sz58 rfl rfl rfl rfl (List.forall_mem_cons.2 ⟨rfl, (List.forall_mem_cons.2 ⟨rfl, (fun _ hh => by cases hh)⟩)⟩) (Nat.le_of_ble_eq_true rfl)) rfl rfl ?_
      rintro _ w46 h48
      have h47 : Sat W w46 [blk b1 [(.int .u32 0), (.int .u16 0)] 58, blk b30 [(v32 r1_2.toUInt32), (v16 r1_3.toUInt16)] 58, blk r16 [(.slice r223 r4_3.length r324), (.bool true), (.bool r5_3)] 122, ow elU8 r223 r324 5 r4_3] := h48
      refine G.yl (yl_assign rfl) rfl rfl rfl ?_
      refine G.nil ?_
      refine QA.then_normal ?_
      refine C.ret ?_
      refine QA.then_ret ?_
      refine QA.ret_ct rfl (InCell.many (vs := [(.int .u32 0), (.int .u16 0)]) rfl ag58 sz58 (by simp [bytesV_length]) ((View.drop h47.isBlk.view0 0).take 2)) rfl ?_
      obtain ⟨rfl, rfl⟩ := sp_ret2 hm
      exact ⟨rfl, (Sat.pick [] h47)⟩
  · refine C.cond_t rfl (not_t (dec_f hc4)) ?_
    refine C.seq ?_
    refine C.region ?_
    refine G.yl (yl_build (vs := []) (cells := #[(.int .u32 0), (.int .u16 0)]) rfl (by kernel_rfl)) rfl rfl rfl ?_
    refine G.unit (does_store (vs := [(.int .u32 0), (.int .u16 0)]) h3 sz58 rfl rfl rfl rfl (List.forall_mem_cons.2 ⟨rfl, (List.forall_mem_cons.2 ⟨rfl, (fun _ hh => by cases hh)⟩)⟩) (Nat.le_of_ble_eq_true rfl)) rfl rfl ?_
    rintro _ w49 h51
    have h50 : Sat W w49 [blk b1 [(.int .u32 0), (.int .u16 0)] 58] := h51
    refine G.yl (yl_assign rfl) rfl rfl rfl ?_
    refine G.nil ?_
    refine QA.then_normal ?_
    refine C.ret ?_
    refine QA.then_ret ?_
    refine QA.ret_ct rfl (InCell.many (vs := [(.int .u32 0), (.int .u16 0)]) rfl ag58 sz58 (by simp [bytesV_length]) ((View.drop h50.isBlk.view0 0).take 2)) rfl ?_
    obtain ⟨rfl, rfl⟩ := sp_ret2 hm
    exact ⟨rfl, (Sat.pick [] h50)⟩
set_option maxRecDepth 20000 in
theorem M_contact_Read_v_w {W : Base} {w : World} {a : Option Addr} {c : Nat} {b : List UInt8} (hv_b : V W a (elU8.row b)) (hq_b : b.length ≤ c) (h : Sat W w []) {r1 : G_api_Contact} {r2 : Int} (hm : M_contact_Read_v b = some (r1, r2)) :
    Calls Try.prog 32 #[(.slice a b.length c)] w (Ret fun v w' => v = (.tuple #[(.agg (bytesV (List.ofFn (n := 20) r1.ID) ++ ([(v32 r1.Addr.Host), (v16 r1.Addr.Port)] : List Value)).toArray), (vI r2)]) ∧ Sat W w' []) := by
  unfold M_contact_Read_v at hm
  refine C.enter (N := 28) Try.func32 rfl Try.ntmps32 rfl ?_
  show C _ _ _ [(0, (.slice a b.length c))] _ _
  refine C.seq ?_
  refine C.region ?_
  refine G.does (does_alloc (cs := (bytesV (List.ofFn (n := 20) (fun _ => 0)) ++ ([(.int .u32 0), (.int .u16 0)] : List Value))) h z60 rfl) rfl rfl rfl ?_
  rintro _ w2 ⟨b1, rfl, h3⟩
  refine G.yl (yl_assign rfl) rfl rfl rfl ?_
  refine G.nil ?_
  refine QA.then_normal ?_
  refine C.seq ?_
  refine C.seq ?_
  refine C.region ?_
  refine G.yl (yl_move rfl) rfl rfl rfl ?_
  refine G.yl (yl_lenE Try.underlying22 rfl) rfl rfl rfl ?_
  refine G.yl (yl_neI rfl rfl) rfl rfl rfl ?_
  refine G.nil ?_
  refine QA.then_normal ?_
  rcases sp_ite hm with ⟨hc4, hm⟩ | ⟨hc4, hm⟩
  · refine C.cond_f rfl (not_f (dec_t hc4)) ?_
    refine C.skip ?_
    refine QA.then_normal ?_
    refine C.seq ?_
    refine C.region ?_
    refine G.yl (yl_fieldAddr fo60_0 rfl) rfl rfl rfl ?_
    refine G.yl (yl_slice_arr (n := 20) (l := 0) (h := 20) (s := 1) (v := (.slice (some ⟨b1, 0, none⟩) 20 20)) Try.underlying55 (by kernel_rfl) (by kernel_rfl) rfl rfl rfl (by decide) (by decide) rfl) rfl rfl rfl ?_
    refine G.yl (yl_move rfl) rfl rfl rfl ?_
    refine G.does (does_cpAH (l := b) h3 Try.underlying22 sz5 rfl rfl rfl (hv_b.at_ h3) rfl) rfl rfl rfl ?_
    rintro _ w5 ⟨rfl, h6⟩
    refine G.nil ?_
    refine QA.then_normal ?_
    refine C.seq ?_
    refine C.region ?_
    refine G.yl (yl_move rfl) rfl rfl rfl ?_
    obtain ⟨a7, ha8⟩ : ∃ p', Cut p' a c 20 1 := Cut.mk _ _ _ _
    obtain ⟨hc9, hm⟩ := sp_chk hm
    refine G.yl (yl_slL (E := elU8) (l := b) sl22 rfl rfl rfl hc9 ha8) rfl rfl rfl ?_
    obtain ⟨⟨r1_2, r2_2⟩, hy10, hm⟩ := sp_bind hm
    refine G.does (does_fn 0 rfl rfl rfl en71 h6 (fun U hU hp hr hs => M_addr_Read_v_w (V.cut (hs.v hv_b) ha8 hq_b) (by have := hq_b; simp only [List.length_drop, List.length_take, List.length_append, List.length_set, List.length_cons, List.length_nil, List.length_ofFn, copyL_length] at *; omega) hp hy10)) rfl rfl rfl ?_
    rintro _ w11 ⟨U14, hb15, rfl, h13⟩
    have h12 : Sat W w11 [blk b1 (bytesV (List.ofFn (n := 20) (copyA (fun _ => 0) b)) ++ ([(.int .u32 0), (.int .u16 0)] : List Value)) 60] := hb15 h13
    refine G.yl (yl_move rfl) rfl rfl rfl ?_
    refine G.yl (yl_extract rfl rfl) rfl rfl rfl ?_
    refine G.yl (yl_extract rfl rfl) rfl rfl rfl ?_
    refine G.yl (yl_fieldAddr fo60_1 rfl) rfl rfl rfl ?_
    refine G.unit (does_store (vs := [(v32 r1_2.Host), (v16 r1_2.Port)]) h12 sz58 rfl rfl rfl (by simp [bytesV_length]) (List.forall_mem_cons.2 ⟨rfl, (List.forall_mem_cons.2 ⟨rfl, (fun _ hh => by cases hh)⟩)⟩) (by simp [bytesV_length])) rfl rfl ?_
    rintro _ w16 h18
    have h17 : Sat W w16 [blk b1 (bytesV (List.ofFn (n := 20) (copyA (fun _ => 0) b)) ++ ([(v32 r1_2.Host), (v16 r1_2.Port)] : List Value)) 60] := sl_blk (by kernel_rfl) h18
    refine G.yl (yl_assign rfl) rfl rfl rfl ?_
    refine G.nil ?_
    refine QA.then_normal ?_
    refine C.seq ?_
    refine C.seq ?_
    refine C.region ?_
    refine G.yl (yl_move rfl) rfl rfl rfl ?_
    refine G.yl (yl_neI rfl rfl) rfl rfl rfl ?_
    refine G.yl (yl_move rfl) rfl rfl rfl ?_
    rcases sp_ite hm with ⟨hc19, hm⟩ | ⟨hc19, hm⟩
    · refine G.on rfl rfl (not_f (dec_t hc19)) ?_
      refine G.yl (yl_loadN (vs := (bytesV (List.ofFn (n := 20) (copyA (fun _ => 0) b)) ++ ([(v32 r1_2.Host), (v16 r1_2.Port)] : List Value))) ag60 sz60 (by simp [bytesV_length]) rfl (h17.isBlk.view0)) rfl rfl rfl ?_
      refine G.on rfl rfl (not_f (dec_t hc19)) ?_
      refine G.yl (yl_build (vs := []) (cells := (bytesV (List.ofFn (n := 20) (fun _ => 0)) ++ ([(.int .u32 0), (.int .u16 0)] : List Value)).toArray) rfl (by kernel_rfl)) rfl rfl rfl ?_
      refine G.on rfl rfl (not_f (dec_t hc19)) ?_
      refine G.yl (yl_eq_agg (r := decide ((G_api_Contact.mk (copyA (fun _ => 0) b) r1_2) = (G_api_Contact.mk (fun _ => 0) (G_api_Addr.mk 0 0)))) (vs := (el_G_api_Contact.f (G_api_Contact.mk (copyA (fun _ => 0) b) r1_2))) (us := (el_G_api_Contact.f (G_api_Contact.mk (fun _ => 0) (G_api_Addr.mk 0 0)))) rfl rfl (by rw [decide_eq_true_eq]; exact G_api_Contact_inj) eqT60.1 eqT60.2.1 eqT60.2.2.1 eqT60.2.2.2.1 eqT60.2.2.2.2 (G_api_Contact_fits (G_api_Contact.mk (copyA (fun _ => 0) b) r1_2)) (G_api_Contact_fits (G_api_Contact.mk (fun _ => 0) (G_api_Addr.mk 0 0)))) rfl rfl rfl ?_
      refine G.yl (yl_pick_f rfl (not_f (dec_t hc19)) rfl) rfl rfl rfl ?_
      refine G.nil ?_
      refine QA.then_normal ?_
      rcases sp_ite hm with ⟨hc20, hm⟩ | ⟨hc20, hm⟩
      · refine C.cond_t rfl (dec_t hc20) ?_
        refine C.seq ?_
        refine C.region ?_
        refine G.yl (yl_build (vs := []) (cells := (bytesV (List.ofFn (n := 20) (fun _ => 0)) ++ ([(.int .u32 0), (.int .u16 0)] : List Value)).toArray) rfl (by kernel_rfl)) rfl rfl rfl ?_
        refine G.unit (does_store (vs := (bytesV (List.ofFn (n := 20) (fun _ => 0)) ++ ([(.int .u32 0), (.int .u16 0)] : List Value))) h17 sz60 rfl rfl rfl (by simp [bytesV_length]) (List.forall_mem_append.2 ⟨(bytesV_one _), (List.forall_mem_cons.2 ⟨rfl, (List.forall_mem_cons.2 ⟨rfl, (fun _ hh => by cases hh)⟩)⟩)⟩) (by simp [bytesV_length])) rfl rfl ?_
        rintro _ w21 h23
        have h22 : Sat W w21 [blk b1 (bytesV (List.ofFn (n := 20) (fun _ => 0)) ++ ([(.int .u32 0), (.int .u16 0)] : List Value)) 60] := sl_blk (setN_all _ _ (by simp [bytesV_length])) h23
        refine G.yl (yl_assign rfl) rfl rfl rfl ?_
        refine G.nil ?_
        refine QA.then_normal ?_
        refine C.ret ?_
        refine QA.then_ret ?_
        refine QA.ret_ct rfl (InCell.many (vs := (bytesV (List.ofFn (n := 20) (fun _ => 0)) ++ ([(.int .u32 0), (.int .u16 0)] : List Value))) rfl ag60 sz60 (by simp [bytesV_length]) (h22.isBlk.view0)) rfl ?_
        obtain ⟨rfl, rfl⟩ := sp_ret2 hm
        exact ⟨rfl, (Sat.pick [] h22)⟩
      · refine C.cond_f rfl (dec_f hc20) ?_
        refine C.skip ?_
        refine QA.then_normal ?_
        refine C.seq ?_
        refine C.region ?_
        refine G.yl (yl_loadN (vs := (bytesV (List.ofFn (n := 20) (copyA (fun _ => 0) b)) ++ ([(v32 r1_2.Host), (v16 r1_2.Port)] : List Value))) ag60 sz60 (by simp [bytesV_length]) rfl (h17.isBlk.view0)) rfl rfl rfl ?_
        refine G.unit (does_store (vs := (bytesV (List.ofFn (n := 20) (copyA (fun _ => 0) b)) ++ ([(v32 r1_2.Host), (v16 r1_2.Port)] : List Value))) h17 sz60 rfl rfl rfl (by simp [bytesV_length]) (List.forall_mem_append.2 ⟨(bytesV_one _), (List.forall_mem_cons.2 ⟨rfl, (List.forall_mem_cons.2 ⟨rfl, (fun _ hh => by cases hh)⟩)⟩)⟩) (by simp [bytesV_length])) rfl rfl ?_
        rintro _ w24 h26
        have h25 : Sat W w24 [blk b1 (bytesV (List.ofFn (n := 20) (copyA (fun _ => 0) b)) ++ ([(v32 r1_2.Host), (v16 r1_2.Port)] : List Value)) 60] := sl_blk (setN_all _ _ (by simp [bytesV_length])) h26
        refine G.yl (yl_assign rfl) rfl rfl rfl ?_
        refine G.nil ?_
        refine QA.then_normal ?_
        refine C.ret ?_
        refine QA.ret_ct rfl (InCell.many (vs := (bytesV (List.ofFn (n := 20) (copyA (fun _ => 0) b)) ++ ([(v32 r1_2.Host), (v16 r1_2.Port)] : List Value))) rfl ag60 sz60 (by simp [bytesV_length]) (h25.isBlk.view0)) rfl ?_
        obtain ⟨rfl, rfl⟩ := sp_ret2 hm
        exact ⟨rfl, (Sat.pick [] h25)⟩
    · refine G.offU rfl rfl (not_t (dec_f hc19)) rfl ?_
      refine G.offU rfl rfl (not_t (dec_f hc19)) rfl ?_
      refine G.offU rfl rfl (not_t (dec_f hc19)) rfl ?_
      refine G.yl (yl_pick_t rfl (not_t (dec_f hc19)) rfl) rfl rfl rfl ?_
      refine G.nil ?_
      refine QA.then_normal ?_
      refine C.cond_t rfl rfl ?_
      refine C.seq ?_
      refine C.region ?_
      refine G.yl (yl_build (vs := []) (cells := (bytesV (List.ofFn (n := 20) (fun _ => 0)) ++ ([(.int .u32 0), (.int .u16 0)] : List Value)).toArray) rfl (by kernel_rfl)) rfl rfl rfl ?_
      refine G.unit (does_store (vs := (bytesV (List.ofFn (n := 20) (fun _ => 0)) ++ ([(.int .u32 0), (.int .u16 0)] : List Value))) h17 sz60 rfl rfl rfl (by simp [bytesV_length]) (List.forall_mem_append.2 ⟨(bytesV_one _), (List.forall_mem_cons.2 ⟨rfl, (List.forall_mem_cons.2 ⟨rfl, (fun _ hh => by cases hh)⟩)⟩)⟩) (by simp [bytesV_length])) rfl rfl ?_
      rintro _ w27 h29
      have h28 : Sat W w27 [blk b1 (bytesV (List.ofFn (n := 20) (fun _ => 0)) ++ ([(.int .u32 0), (.int .u16 0)] : List Value)) 60] := sl_blk (setN_all _ _ (by simp [bytesV_length])) h29
      refine G.yl (yl_assign rfl) rfl rfl rfl ?_
      refine G.nil ?_
      refine QA.then_normal ?_
      refine C.ret ?_
      refine QA.then_ret ?_
      refine QA.ret_ct rfl (InCell.many (vs := (bytesV (List.ofFn (n := 20) (fun _ => 0)) ++ ([(.int .u32 0), (.int .u16 0)] : List Value))) rfl ag60 sz60 (by simp [bytesV_length]) (h28.isBlk.view0)) rfl ?_
      obtain ⟨rfl, rfl⟩ := sp_ret2 hm
      exact ⟨rfl, (Sat.pick [] h28)⟩
  · refine C.cond_t rfl (not_t (dec_f hc4)) ?_
    refine C.seq ?_
    refine C.region ?_
    refine G.yl (yl_build (vs := []) (cells := (bytesV (List.ofFn (n := 20) (fun _ => 0)) ++ ([(.int .u32 0), (.int .u16 0)] : List Value)).toArray) rfl (by kernel_rfl)) rfl rfl rfl ?_
    refine G.unit (does_store (vs := (bytesV (List.ofFn (n := 20) (fun _ => 0)) ++ ([(.int .u32 0), (.int .u16 0)] : List Value))) h3 sz60 rfl rfl rfl (by simp [bytesV_length]) (List.forall_mem_append.2 ⟨(bytesV_one _), (List.forall_mem_cons.2 ⟨rfl, (List.forall_mem_cons.2 ⟨rfl, (fun _ hh => by cases hh)⟩)⟩)⟩) (by simp [bytesV_length])) rfl rfl ?_
    rintro _ w30 h32
    have h31 : Sat W w30 [blk b1 (bytesV (List.ofFn (n := 20) (fun _ => 0)) ++ ([(.int .u32 0), (.int .u16 0)] : List Value)) 60] := sl_blk (setN_all _ _ (by simp [bytesV_length])) h32
    refine G.yl (yl_assign rfl) rfl rfl rfl ?_
    refine G.nil ?_
    refine QA.then_normal ?_
    refine C.ret ?_
    refine QA.then_ret ?_
    refine QA.ret_ct rfl (InCell.many (vs := (bytesV (List.ofFn (n := 20) (fun _ => 0)) ++ ([(.int .u32 0), (.int .u16 0)] : List Value))) rfl ag60 sz60 (by simp [bytesV_length]) (h31.isBlk.view0)) rfl ?_
    obtain ⟨rfl, rfl⟩ := sp_ret2 hm
    exact ⟨rfl, (Sat.pick [] h31)⟩
end Go.Proofs.Ytaaahjcldomnbaa
