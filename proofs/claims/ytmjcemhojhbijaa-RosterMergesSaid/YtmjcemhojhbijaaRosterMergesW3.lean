/-
  That the functions of the program compute what their Lean functions say, part 3. No condition.
-/
import Derived.Test.YtmjcemhojhbijaaRosterMergesW2
namespace Go.Proofs.Ytmjcemhojhbijaa
open Go Go.RowKit
set_option linter.unusedVariables false
set_option linter.unusedSimpArgs false
set_option linter.unnecessarySimpa false
set_option maxRecDepth 20000 in
set_option maxHeartbeats 1000000 in
theorem M_roster_Merge_vv_2_w {W : Base} {w : World} {a : Option Addr} {c : Nat} {a2 : List G_api_Instance} (hv_a2 : V W a (el_G_api_Instance.row a2)) (hq_a2 : a2.length ≤ c) (h : Sat W w []) {r : Unit ⊕ (List G_api_Instance)} (hm : M_roster_Merge_vv_2 a2 = some r) :
    Calls Try.prog 20 #[(.slice a a2.length c), (.slice a a2.length c)] w (Ret fun v w' => match r with | .inl () => v = (.slice a a2.length c) ∧ Sat W w' [] | .inr r3 => ∃ r1 : Option Addr, ∃ r2 : Nat, v = (.slice r1 r3.length r2) ∧ Sat W w' [ow el_G_api_Instance r1 r2 31 r3]) := by
  unfold M_roster_Merge_vv_2 at hm
  refine C.enter (N := 30) Try.func20 rfl Try.ntmps20 rfl ?_
  show C _ _ _ [(0, (.slice a a2.length c)), (1, (.slice a a2.length c))] _ _
  refine C.seq ?_
  refine C.region ?_
  refine G.yl (yl_assign rfl) rfl rfl rfl ?_
  refine G.nil ?_
  refine QA.then_normal ?_
  refine C.seq ?_
  refine C.join (γ := Bool) (fun g => match g with | t14 => [(0, (.slice a a2.length c)), (1, (.slice a a2.length c)), (4, (.slice none 0 0)), (14, (.bool t14))]) (fun g ww => match g with | t14 => (M_roster_Merge_vv_2_k1 a2 t14 = some r) ∧ Sat W ww []) ?_ ?_
  · refine C.region ?_
    refine G.yl (yl_move rfl) rfl rfl rfl ?_
    obtain ⟨r1_2, hy1, hm⟩ := sp_bind hm
    refine G.does (does_fn 0 rfl rfl rfl en10 h (fun U hU hp hr hs => M_roster_Good_v_w (l := a2) (hs.v hv_a2) hq_a2 hp hy1)) rfl rfl rfl ?_
    rintro _ w2 ⟨U5, hb6, rfl, h4⟩
    have h3 : Sat W w2 [] := hb6 h4
    refine G.yl (yl_not rfl) rfl rfl rfl ?_
    refine G.yl (yl_move rfl) rfl rfl rfl ?_
    rcases sp_b hm with ⟨hc7, hm⟩ | ⟨hc7, hm⟩
    · refine G.on rfl rfl (not_f hc7) ?_
      refine G.yl (yl_move rfl) rfl rfl rfl ?_
      refine G.on rfl rfl (not_f hc7) ?_
      obtain ⟨r1_3, hy8, hm⟩ := sp_bind hm
      refine G.does (does_fn 0 rfl rfl rfl en10 h3 (fun U hU hp hr hs => M_roster_Good_v_w (l := a2) (hs.v hv_a2) hq_a2 hp hy8)) rfl rfl rfl ?_
      rintro _ w9 ⟨U12, hb13, rfl, h11⟩
      have h10 : Sat W w9 [] := hb13 h11
      refine G.on rfl rfl (not_f hc7) ?_
      refine G.yl (yl_not rfl) rfl rfl rfl ?_
      refine G.yl (yl_pick_f rfl (not_f hc7) rfl) rfl rfl rfl ?_
      refine G.nil ?_
      exact QA.join (!r1_3) (Sub.of ⟨rfl, rfl, rfl, rfl, trivial⟩) ⟨hm, (Sat.pick [] h10)⟩
    · refine G.offU rfl rfl (not_t hc7) rfl ?_
      refine G.offU rfl rfl (not_t hc7) rfl ?_
      refine G.offU rfl rfl (not_t hc7) rfl ?_
      refine G.yl (yl_pick_t rfl (not_t hc7) rfl) rfl rfl rfl ?_
      refine G.nil ?_
      exact QA.join true (Sub.of ⟨rfl, rfl, rfl, rfl, trivial⟩) ⟨hm, (Sat.pick [] h3)⟩
  · rintro t14 w14 ⟨hm, h15⟩
    show C _ _ _ [(0, (.slice a a2.length c)), (1, (.slice a a2.length c)), (4, (.slice none 0 0)), (14, (.bool t14))] _ _
    unfold M_roster_Merge_vv_2_k1 at hm
    rcases sp_b hm with ⟨hc16, hm⟩ | ⟨hc16, hm⟩
    · refine C.cond_t rfl hc16 ?_
      refine C.seq ?_
      refine C.region ?_
      refine G.yl (yl_move rfl) rfl rfl rfl ?_
      refine G.yl (yl_assign rfl) rfl rfl rfl ?_
      refine G.nil ?_
      refine QA.then_normal ?_
      refine C.ret ?_
      refine QA.then_ret ?_
      refine QA.ret1 rfl rfl ?_
      obtain rfl := sp_ret1 hm
      exact ⟨rfl, (Sat.pick [] h15)⟩
    · refine C.cond_f rfl hc16 ?_
      refine C.skip ?_
      refine QA.then_normal ?_
      refine C.seq ?_
      refine C.seq ?_
      refine C.region ?_
      refine G.yl (yl_move rfl) rfl rfl rfl ?_
      refine G.yl (yl_lenE Try.underlying22 rfl) rfl rfl rfl ?_
      refine G.yl (yl_move rfl) rfl rfl rfl ?_
      refine G.nil ?_
      refine QA.then_normal ?_
      refine C.block ?_
      obtain ⟨o, ho17, hm18⟩ := sp_bind hm
      refine C.left (γ := Unit ⊕ (Option Addr × Nat × List G_api_Instance)) (.exit 0) (fun g => match g with | .inl () => [(0, (.slice a a2.length c)), (4, (.slice none 0 0))] | .inr (a_4, c_3, a_5) => [(0, (.slice a_4 a_5.length c_3)), (4, (.slice none 0 0))]) (fun g ww => match g with | .inl () => .inl () = o ∧ Sat W ww [] | .inr (a_4, c_3, a_5) => .inr a_5 = o ∧ Sat W ww [ow el_G_api_Instance a_4 c_3 31 a_5]) ?_ ?_
      · refine C.loopO (γ := Int ⊕ (Option Addr × Nat × List G_api_Instance × Int)) (σ := Int ⊕ (List G_api_Instance × Int)) (fun g => match g with | .inl t18 => [(0, (.slice a a2.length c)), (4, (.slice none 0 0)), (16, (.slice a a2.length c)), (17, (vI (a2.length : Int))), (18, (vI t18))] | .inr (a_2, c_2, a_3, t18_2) => [(0, (.slice a_2 a_3.length c_2)), (4, (.slice none 0 0)), (16, (.slice a a2.length c)), (17, (vI (a2.length : Int))), (18, (vI t18_2))]) (fun g ww => match g with | .inl t18 => Sat W ww [] | .inr (a_2, c_2, a_3, t18_2) => Sat W ww [ow el_G_api_Instance a_2 c_2 31 a_3]) (fun g => match g with | .inl t18 => .inl t18 | .inr (a_2, c_2, a_3, t18_2) => .inr (a_3, t18_2)) (.inl 0) ho17 (Sub.of ⟨rfl, rfl, rfl, rfl, rfl, trivial⟩) (Sat.pick [] h15) ?_
        rintro (t18 | ⟨a_2, c_2, a_3, t18_2⟩) k19 w22 y_ hS21 hm hg20
        · have h23 := hS21
          show C _ _ _ [(0, (.slice a a2.length c)), (4, (.slice none 0 0)), (16, (.slice a a2.length c)), (17, (vI (a2.length : Int))), (18, (vI t18))] _ _
          change M_roster_Merge_vv_2_b2 a2 t18 = some y_ at hm
          unfold M_roster_Merge_vv_2_b2 at hm
          refine C.seq ?_
          refine C.region ?_
          refine G.yl (yl_ltI rfl rfl) rfl rfl rfl ?_
          refine G.nil ?_
          refine QA.then_normal ?_
          refine C.seq ?_
          rcases sp_ite hm with ⟨hc24, hm⟩ | ⟨hc24, hm⟩
          · refine C.cond_t rfl (dec_t hc24) ?_
            refine C.skip ?_
            refine QA.then_normal ?_
            refine C.seq ?_
            refine C.block ?_
            refine C.seq ?_
            refine C.region ?_
            obtain ⟨x, hy25, hm⟩ := sp_bind hm
            refine G.yl (yl_ixP (l := a2) sl22 rfl rfl (View.isA (E := el_G_api_Instance) (hv_a2.at_ h23) (by decide) (at?_lt hy25)) rfl (at?_lt hy25)) rfl rfl rfl ?_
            refine G.yl (yl_ldE (E := el_G_api_Instance) ag31 sz31 rfl (hv_a2.at_ h23) (at?_some hy25).2) rfl rfl rfl ?_
            refine G.does (does_alloc (cs := (bytesV (List.ofFn (n := 20) (fun _ => 0)) ++ ([(.int .u64 0), (.int .u64 0), (.int .u32 0), (.bool false), (.int .u16 0), (.int .u16 0), (.int .u16 0), (.string (str ([] : List UInt8)))] : List Value))) h23 z31 rfl) rfl rfl rfl ?_
            rintro _ w27 ⟨b26, rfl, h28⟩
            refine G.unit (does_store (vs := (bytesV (List.ofFn (n := 20) x.Publisher) ++ ([(v64 x.Seq), (v64 x.Born), (v32 x.Life), (.bool x.Gone), (v16 x.Priority), (v16 x.Weight), (v16 x.Port), (.string (str x.Target))] : List Value))) h28 sz31 rfl rfl rfl (by simp [bytesV_length]) (List.forall_mem_append.2 ⟨(bytesV_one _), (List.forall_mem_cons.2 ⟨rfl, (List.forall_mem_cons.2 ⟨rfl, (List.forall_mem_cons.2 ⟨rfl, (List.forall_mem_cons.2 ⟨rfl, (List.forall_mem_cons.2 ⟨rfl, (List.forall_mem_cons.2 ⟨rfl, (List.forall_mem_cons.2 ⟨rfl, (List.forall_mem_cons.2 ⟨rfl, (fun _ hh => by cases hh)⟩)⟩)⟩)⟩)⟩)⟩)⟩)⟩)⟩) (by simp [bytesV_length])) rfl rfl ?_
            rintro _ w29 h31
            have h30 : Sat W w29 [blk b26 (bytesV (List.ofFn (n := 20) x.Publisher) ++ ([(v64 x.Seq), (v64 x.Born), (v32 x.Life), (.bool x.Gone), (v16 x.Priority), (v16 x.Weight), (v16 x.Port), (.string (str x.Target))] : List Value)) 31] := sl_blk (setN_all _ _ (by simp [bytesV_length])) h31
            refine G.nil ?_
            refine QA.then_normal ?_
            refine C.region ?_
            refine G.yl (yl_move rfl) rfl rfl rfl ?_
            refine G.yl (yl_loadN (vs := (bytesV (List.ofFn (n := 20) x.Publisher) ++ ([(v64 x.Seq), (v64 x.Born), (v32 x.Life), (.bool x.Gone), (v16 x.Priority), (v16 x.Weight), (v16 x.Port), (.string (str x.Target))] : List Value))) ag31 sz31 (by simp [bytesV_length]) rfl (h30.isBlk.view0)) rfl rfl rfl ?_
            obtain ⟨y__2, hy32, hm⟩ := sp_bind hm
            rcases y__2 with _ | ⟨r3_2, r4_2⟩
            · refine G.does (does_fn 0 rfl rfl rfl en9 h30 (fun U hU hp hr hs => M_roster_Put_v_w (l := a2) (i := x) (hs.v hv_a2) hq_a2 hp hy32)) rfl rfl rfl ?_
              rintro _ w33 ⟨U36, hb37, rfl, h35⟩
              have h34 : Sat W w33 [blk b26 (bytesV (List.ofFn (n := 20) x.Publisher) ++ ([(v64 x.Seq), (v64 x.Born), (v32 x.Life), (.bool x.Gone), (v16 x.Priority), (v16 x.Weight), (v16 x.Port), (.string (str x.Target))] : List Value)) 31] := hb37 h35
              refine G.yl (yl_move rfl) rfl rfl rfl ?_
              refine G.yl (yl_extract rfl rfl) rfl rfl rfl ?_
              refine G.yl (yl_extract rfl rfl) rfl rfl rfl ?_
              refine G.yl (yl_assign rfl) rfl rfl rfl ?_
              refine G.nil ?_
              refine QA.block_normal ?_
              refine QA.then_normal ?_
              refine C.region ?_
              obtain ⟨hc38, hm⟩ := sp_chk hm
              refine G.yl (yl_addI rfl rfl hc38) rfl rfl rfl ?_
              refine G.yl (yl_move rfl) rfl rfl rfl ?_
              refine G.nil ?_
              obtain rfl := sp_ret1 hm
              exact QA.againO (.inl (t18 + 1)) hg20 (Sub.of ⟨rfl, rfl, rfl, rfl, rfl, trivial⟩) (Sat.pick [] h34)
            · refine G.does (does_fn 0 rfl rfl rfl en9 h30 (fun U hU hp hr hs => M_roster_Put_v_w (l := a2) (i := x) (hs.v hv_a2) hq_a2 hp hy32)) rfl rfl rfl ?_
              rintro _ w41 ⟨U44, hb45, r139, r240, rfl, h43⟩
              have h42 : Sat W w41 [ow el_G_api_Instance r139 r240 31 r3_2, blk b26 (bytesV (List.ofFn (n := 20) x.Publisher) ++ ([(v64 x.Seq), (v64 x.Born), (v32 x.Life), (.bool x.Gone), (v16 x.Priority), (v16 x.Weight), (v16 x.Port), (.string (str x.Target))] : List Value)) 31] := hb45 h43
              refine G.yl (yl_move rfl) rfl rfl rfl ?_
              refine G.yl (yl_extract rfl rfl) rfl rfl rfl ?_
              refine G.yl (yl_extract rfl rfl) rfl rfl rfl ?_
              refine G.yl (yl_assign rfl) rfl rfl rfl ?_
              refine G.nil ?_
              refine QA.block_normal ?_
              refine QA.then_normal ?_
              refine C.region ?_
              obtain ⟨hc46, hm⟩ := sp_chk hm
              refine G.yl (yl_addI rfl rfl hc46) rfl rfl rfl ?_
              refine G.yl (yl_move rfl) rfl rfl rfl ?_
              refine G.nil ?_
              obtain rfl := sp_ret1 hm
              exact QA.againO (.inr (r139, r240, r3_2, t18 + 1)) hg20 (Sub.of ⟨rfl, rfl, rfl, rfl, rfl, trivial⟩) (Sat.pick [0] h42)
          · refine C.cond_f rfl (dec_f hc24) ?_
            refine C.exit ?_
            refine QA.then_exit ?_
            refine QA.then_exit ?_
            obtain rfl := sp_ret1 hm
            exact QA.left (.inl ()) (Sub.of ⟨rfl, rfl, trivial⟩) ⟨hg20, (Sat.pick [] h23)⟩
        · have h47 := hS21
          show C _ _ _ [(0, (.slice a_2 a_3.length c_2)), (4, (.slice none 0 0)), (16, (.slice a a2.length c)), (17, (vI (a2.length : Int))), (18, (vI t18_2))] _ _
          change M_roster_Merge_vv_2_b3 a2 a_3 t18_2 = some y_ at hm
          unfold M_roster_Merge_vv_2_b3 at hm
          refine C.seq ?_
          refine C.region ?_
          refine G.yl (yl_ltI rfl rfl) rfl rfl rfl ?_
          refine G.nil ?_
          refine QA.then_normal ?_
          refine C.seq ?_
          rcases sp_ite hm with ⟨hc48, hm⟩ | ⟨hc48, hm⟩
          · refine C.cond_t rfl (dec_t hc48) ?_
            refine C.skip ?_
            refine QA.then_normal ?_
            refine C.seq ?_
            refine C.block ?_
            refine C.seq ?_
            refine C.region ?_
            obtain ⟨x_2, hy49, hm⟩ := sp_bind hm
            refine G.yl (yl_ixP (l := a2) sl22 rfl rfl (View.isA (E := el_G_api_Instance) (hv_a2.at_ h47) (by decide) (at?_lt hy49)) rfl (at?_lt hy49)) rfl rfl rfl ?_
            refine G.yl (yl_ldE (E := el_G_api_Instance) ag31 sz31 rfl (hv_a2.at_ h47) (at?_some hy49).2) rfl rfl rfl ?_
            refine G.does (does_alloc (cs := (bytesV (List.ofFn (n := 20) (fun _ => 0)) ++ ([(.int .u64 0), (.int .u64 0), (.int .u32 0), (.bool false), (.int .u16 0), (.int .u16 0), (.int .u16 0), (.string (str ([] : List UInt8)))] : List Value))) h47 z31 rfl) rfl rfl rfl ?_
            rintro _ w51 ⟨b50, rfl, h52⟩
            refine G.unit (does_store (vs := (bytesV (List.ofFn (n := 20) x_2.Publisher) ++ ([(v64 x_2.Seq), (v64 x_2.Born), (v32 x_2.Life), (.bool x_2.Gone), (v16 x_2.Priority), (v16 x_2.Weight), (v16 x_2.Port), (.string (str x_2.Target))] : List Value))) h52 sz31 rfl rfl rfl (by simp [bytesV_length]) (List.forall_mem_append.2 ⟨(bytesV_one _), (List.forall_mem_cons.2 ⟨rfl, (List.forall_mem_cons.2 ⟨rfl, (List.forall_mem_cons.2 ⟨rfl, (List.forall_mem_cons.2 ⟨rfl, (List.forall_mem_cons.2 ⟨rfl, (List.forall_mem_cons.2 ⟨rfl, (List.forall_mem_cons.2 ⟨rfl, (List.forall_mem_cons.2 ⟨rfl, (fun _ hh => by cases hh)⟩)⟩)⟩)⟩)⟩)⟩)⟩)⟩)⟩) (by simp [bytesV_length])) rfl rfl ?_
            rintro _ w53 h55
            have h54 : Sat W w53 [blk b50 (bytesV (List.ofFn (n := 20) x_2.Publisher) ++ ([(v64 x_2.Seq), (v64 x_2.Born), (v32 x_2.Life), (.bool x_2.Gone), (v16 x_2.Priority), (v16 x_2.Weight), (v16 x_2.Port), (.string (str x_2.Target))] : List Value)) 31, ow el_G_api_Instance a_2 c_2 31 a_3] := sl_blk (setN_all _ _ (by simp [bytesV_length])) h55
            refine G.nil ?_
            refine QA.then_normal ?_
            refine C.region ?_
            refine G.yl (yl_move rfl) rfl rfl rfl ?_
            refine G.yl (yl_loadN (vs := (bytesV (List.ofFn (n := 20) x_2.Publisher) ++ ([(v64 x_2.Seq), (v64 x_2.Born), (v32 x_2.Life), (.bool x_2.Gone), (v16 x_2.Priority), (v16 x_2.Weight), (v16 x_2.Port), (.string (str x_2.Target))] : List Value))) ag31 sz31 (by simp [bytesV_length]) rfl (h54.isBlk.view0)) rfl rfl rfl ?_
            obtain ⟨y__3, hy56, hm⟩ := sp_bind hm
            rcases y__3 with _ | ⟨r3_3, r4_3⟩
            · refine G.does (does_fn 0 rfl rfl rfl en9 h54 (fun U hU hp hr hs => M_roster_Put_v_w (l := a_3) (i := x_2) (Rest.view (Rest.front 1 hr)) (Sat.own_cap (Sat.pick [1] h54)).1 hp hy56)) rfl rfl rfl ?_
              rintro _ w57 ⟨U60, hb61, rfl, h59⟩
              have h58 : Sat W w57 [blk b50 (bytesV (List.ofFn (n := 20) x_2.Publisher) ++ ([(v64 x_2.Seq), (v64 x_2.Born), (v32 x_2.Life), (.bool x_2.Gone), (v16 x_2.Priority), (v16 x_2.Weight), (v16 x_2.Port), (.string (str x_2.Target))] : List Value)) 31, ow el_G_api_Instance a_2 c_2 31 a_3] := hb61 h59
              refine G.yl (yl_move rfl) rfl rfl rfl ?_
              refine G.yl (yl_extract rfl rfl) rfl rfl rfl ?_
              refine G.yl (yl_extract rfl rfl) rfl rfl rfl ?_
              refine G.yl (yl_assign rfl) rfl rfl rfl ?_
              refine G.nil ?_
              refine QA.block_normal ?_
              refine QA.then_normal ?_
              refine C.region ?_
              obtain ⟨hc62, hm⟩ := sp_chk hm
              refine G.yl (yl_addI rfl rfl hc62) rfl rfl rfl ?_
              refine G.yl (yl_move rfl) rfl rfl rfl ?_
              refine G.nil ?_
              obtain rfl := sp_ret1 hm
              exact QA.againO (.inr (a_2, c_2, a_3, t18_2 + 1)) hg20 (Sub.of ⟨rfl, rfl, rfl, rfl, rfl, trivial⟩) (Sat.pick [1] h58)
            · refine G.does (does_fn 0 rfl rfl rfl en9 h54 (fun U hU hp hr hs => M_roster_Put_v_w (l := a_3) (i := x_2) (Rest.view (Rest.front 1 hr)) (Sat.own_cap (Sat.pick [1] h54)).1 hp hy56)) rfl rfl rfl ?_
              rintro _ w65 ⟨U68, hb69, r163, r264, rfl, h67⟩
              have h66 : Sat W w65 [ow el_G_api_Instance r163 r264 31 r3_3, blk b50 (bytesV (List.ofFn (n := 20) x_2.Publisher) ++ ([(v64 x_2.Seq), (v64 x_2.Born), (v32 x_2.Life), (.bool x_2.Gone), (v16 x_2.Priority), (v16 x_2.Weight), (v16 x_2.Port), (.string (str x_2.Target))] : List Value)) 31, ow el_G_api_Instance a_2 c_2 31 a_3] := hb69 h67
              refine G.yl (yl_move rfl) rfl rfl rfl ?_
              refine G.yl (yl_extract rfl rfl) rfl rfl rfl ?_
              refine G.yl (yl_extract rfl rfl) rfl rfl rfl ?_
              refine G.yl (yl_assign rfl) rfl rfl rfl ?_
              refine G.nil ?_
              refine QA.block_normal ?_
              refine QA.then_normal ?_
              refine C.region ?_
              obtain ⟨hc70, hm⟩ := sp_chk hm
              refine G.yl (yl_addI rfl rfl hc70) rfl rfl rfl ?_
              refine G.yl (yl_move rfl) rfl rfl rfl ?_
              refine G.nil ?_
              obtain rfl := sp_ret1 hm
              exact QA.againO (.inr (r163, r264, r3_3, t18_2 + 1)) hg20 (Sub.of ⟨rfl, rfl, rfl, rfl, rfl, trivial⟩) (Sat.pick [0] h66)
          · refine C.cond_f rfl (dec_f hc48) ?_
            refine C.exit ?_
            refine QA.then_exit ?_
            refine QA.then_exit ?_
            obtain rfl := sp_ret1 hm
            exact QA.left (.inr (a_2, c_2, a_3)) (Sub.of ⟨rfl, rfl, trivial⟩) ⟨hg20, (Sat.pick [0] h47)⟩
      · rintro (_ | ⟨a_4, c_3, a_5⟩) w71 hS72
        · obtain ⟨rfl, h73⟩ := hS72
          have hm := hm18
          show QA _ _ [(0, (.slice a a2.length c)), (4, (.slice none 0 0))] _ _
          refine QA.block_here ?_
          refine QA.then_normal ?_
          refine C.seq ?_
          refine C.region ?_
          refine G.yl (yl_move rfl) rfl rfl rfl ?_
          refine G.yl (yl_assign rfl) rfl rfl rfl ?_
          refine G.nil ?_
          refine QA.then_normal ?_
          refine C.ret ?_
          refine QA.ret1 rfl rfl ?_
          obtain rfl := sp_ret1 hm
          exact ⟨rfl, (Sat.pick [] h73)⟩
        · obtain ⟨rfl, h74⟩ := hS72
          have hm := hm18
          show QA _ _ [(0, (.slice a_4 a_5.length c_3)), (4, (.slice none 0 0))] _ _
          refine QA.block_here ?_
          refine QA.then_normal ?_
          refine C.seq ?_
          refine C.region ?_
          refine G.yl (yl_move rfl) rfl rfl rfl ?_
          refine G.yl (yl_assign rfl) rfl rfl rfl ?_
          refine G.nil ?_
          refine QA.then_normal ?_
          refine C.ret ?_
          refine QA.ret1 rfl rfl ?_
          obtain rfl := sp_ret1 hm
          exact ⟨a_4, c_3, rfl, (Sat.pick [0] h74)⟩
set_option maxRecDepth 20000 in
set_option maxHeartbeats 1000000 in
theorem M_slices_Equal_Instance_vv_w {W : Base} {w : World} {a : Option Addr} {c : Nat} {s1 : List G_api_Instance} (hv_s1 : V W a (el_G_api_Instance.row s1)) (hq_s1 : s1.length ≤ c) (h : Sat W w [])  (hm : M_slices_Equal_Instance_vv s1 = some ()) :
    Calls Try.prog 46 #[(.slice a s1.length c), (.slice a s1.length c)] w (Ret fun v w' => v = (.bool true) ∧ Sat W w' []) := by
  unfold M_slices_Equal_Instance_vv at hm
  refine C.enter (N := 26) Try.func46 rfl Try.ntmps46 rfl ?_
  show C _ _ _ [(0, (.slice a s1.length c)), (1, (.slice a s1.length c))] _ _
  refine C.seq ?_
  refine C.region ?_
  refine G.yl (yl_assign rfl) rfl rfl rfl ?_
  refine G.nil ?_
  refine QA.then_normal ?_
  refine C.seq ?_
  refine C.seq ?_
  refine C.region ?_
  refine G.yl (yl_move rfl) rfl rfl rfl ?_
  refine G.yl (yl_lenE Try.underlying22 rfl) rfl rfl rfl ?_
  refine G.yl (yl_move rfl) rfl rfl rfl ?_
  refine G.yl (yl_lenE Try.underlying22 rfl) rfl rfl rfl ?_
  refine G.yl (yl_neI rfl rfl) rfl rfl rfl ?_
  refine G.nil ?_
  refine QA.then_normal ?_
  refine C.cond_f rfl (not_f (dec_t rfl)) ?_
  refine C.skip ?_
  refine QA.then_normal ?_
  refine C.seq ?_
  refine C.seq ?_
  refine C.region ?_
  refine G.yl (yl_move rfl) rfl rfl rfl ?_
  refine G.yl (yl_lenE Try.underlying22 rfl) rfl rfl rfl ?_
  refine G.yl (yl_move rfl) rfl rfl rfl ?_
  refine G.nil ?_
  refine QA.then_normal ?_
  refine C.block ?_
  obtain ⟨o, ho1, hm2⟩ := sp_bind hm
  refine C.left (γ := Unit) (.exit 0) (fun g => match g with | () => [(4, (.bool false))]) (fun g ww => match g with | () => () = o ∧ Sat W ww []) ?_ ?_
  · refine C.loopO (γ := Int) (fun g => match g with | t13 => [(0, (.slice a s1.length c)), (1, (.slice a s1.length c)), (4, (.bool false)), (12, (vI (s1.length : Int))), (13, (vI t13))]) (fun g ww => match g with | t13 => Sat W ww []) (fun g => match g with | t13 => t13) 0 ho1 (Sub.of ⟨rfl, rfl, rfl, rfl, rfl, trivial⟩) (Sat.pick [] h) ?_
    rintro t13 k5 w3 y_ h4 hm hg6
    show C _ _ _ [(0, (.slice a s1.length c)), (1, (.slice a s1.length c)), (4, (.bool false)), (12, (vI (s1.length : Int))), (13, (vI t13))] _ _
    change M_slices_Equal_Instance_vv_b1 s1 t13 = some y_ at hm
    unfold M_slices_Equal_Instance_vv_b1 at hm
    refine C.seq ?_
    refine C.region ?_
    refine G.yl (yl_ltI rfl rfl) rfl rfl rfl ?_
    refine G.nil ?_
    refine QA.then_normal ?_
    refine C.seq ?_
    rcases sp_ite hm with ⟨hc7, hm⟩ | ⟨hc7, hm⟩
    · refine C.cond_t rfl (dec_t hc7) ?_
      refine C.skip ?_
      refine QA.then_normal ?_
      refine C.seq ?_
      refine C.block ?_
      refine C.seq ?_
      refine C.region ?_
      refine G.yl (yl_move rfl) rfl rfl rfl ?_
      refine G.yl (yl_assign rfl) rfl rfl rfl ?_
      refine G.nil ?_
      refine QA.then_normal ?_
      refine C.seq ?_
      refine C.draw (V := fun w' => View w' a (el_G_api_Instance.row s1)) (nd := [3, 7]) (sp := []) (n := 9) rfl h4 rfl rfl ?_
      intro w8 h9
      have hS10 : Cls (fun w' => View w' a (el_G_api_Instance.row s1)) [3, 7] [] #[false, false, false, false, false, false, false, false, false] w8 := Cls.keep ((hv_s1.at_ h9)) (by kernel_rfl)
      refine GH.yl (i := 0) (listed' := #[true, false, false, false, false, false, false, false, false]) rfl (by kernel_rfl) rfl (NP.next (NP.block (NP.next (NP.next (NP.left (by simp) (NP.block (NP.next NP.body))))))) rfl rfl rfl (fun w' => yl_move rfl) hS10 (fun hS11 => ?_)
      refine GH.yl (i := 1) (listed' := #[true, true, false, false, false, false, false, false, false]) rfl (by kernel_rfl) rfl (NP.next (NP.block (NP.next (NP.next (NP.left (by simp) (NP.block (NP.next NP.body))))))) rfl rfl rfl (fun w' => yl_move rfl) hS11 (fun hS12 => ?_)
      obtain ⟨x, hy13, hm⟩ := sp_bind hm
      refine GH.yl (i := 2) (listed' := #[true, true, true, false, false, false, false, false, false]) rfl (by kernel_rfl) rfl (NP.next (NP.block (NP.next (NP.next (NP.left (by simp) (NP.block (NP.next NP.body))))))) rfl rfl rfl (fun w' => yl_ixP (l := s1) sl22 rfl rfl (View.isA (E := el_G_api_Instance) (hv_s1.at_ h9) (by decide) (at?_lt hy13)) rfl (at?_lt hy13)) hS12 (fun hS14 => ?_)
      refine GH.yr (i := 3) (listed' := #[true, true, true, true, false, false, false, false, false]) rfl (by kernel_rfl) rfl rfl (NP.next (NP.block (NP.next (NP.next (NP.left (by simp) (NP.block (NP.next NP.body))))))) rfl rfl rfl (fun w' hw' => yl_ldE (E := el_G_api_Instance) ag31 sz31 rfl (hw') (at?_some hy13).2) hS14 (fun hS15 => ?_)
      refine GH.yl (i := 4) (listed' := #[true, true, true, true, true, false, false, false, false]) rfl (by kernel_rfl) rfl (NP.next (NP.block (NP.next (NP.next (NP.left (by simp) (NP.block (NP.next NP.body))))))) rfl rfl rfl (fun w' => yl_move rfl) hS15 (fun hS16 => ?_)
      refine GH.yl (i := 5) (listed' := #[true, true, true, true, true, true, false, false, false]) rfl (by kernel_rfl) rfl (NP.next (NP.block (NP.next (NP.next (NP.left (by simp) (NP.block (NP.next NP.body))))))) rfl rfl rfl (fun w' => yl_move rfl) hS16 (fun hS17 => ?_)
      refine GH.yl (i := 6) (listed' := #[true, true, true, true, true, true, true, false, false]) rfl (by kernel_rfl) rfl (NP.next (NP.block (NP.next (NP.next (NP.left (by simp) (NP.block (NP.next NP.body))))))) rfl rfl rfl (fun w' => yl_ixP (l := s1) sl22 rfl rfl (View.isA (E := el_G_api_Instance) (hv_s1.at_ h9) (by decide) (at?_lt hy13)) rfl (at?_lt hy13)) hS17 (fun hS18 => ?_)
      refine GH.yr (i := 7) (listed' := #[true, true, true, true, true, true, true, true, false]) rfl (by kernel_rfl) rfl rfl (NP.next (NP.block (NP.next (NP.next (NP.left (by simp) (NP.block (NP.next NP.body))))))) rfl rfl rfl (fun w' hw' => yl_ldE (E := el_G_api_Instance) ag31 sz31 rfl (hw') (at?_some hy13).2) hS18 (fun hS19 => ?_)
      obtain ⟨hc20, hm⟩ := sp_chk hm
      obtain ⟨hc21, hm⟩ := sp_chk hm
      refine GH.yl (i := 8) (listed' := #[true, true, true, true, true, true, true, true, true]) rfl (by kernel_rfl) rfl (NP.next (NP.block (NP.next (NP.next (NP.left (by simp) (NP.block (NP.next NP.body))))))) rfl rfl rfl (fun w' => yl_ne_agg (r := decide (x = x)) (vs := (el_G_api_Instance.f x)) (us := (el_G_api_Instance.f x)) rfl rfl (by rw [decide_eq_true_eq]; exact G_api_Instance_inj) eqT31.1 eqT31.2.1 eqT31.2.2.1 eqT31.2.2.2.1 eqT31.2.2.2.2 (G_api_Instance_fits x hc20) (G_api_Instance_fits x hc21)) hS19 (fun hS22 => ?_)
      refine GH.done (by kernel_rfl) ?_
      refine QA.then_normal ?_
      refine C.cond_f rfl (not_f (dec_t rfl)) ?_
      refine C.skip ?_
      refine QA.block_normal ?_
      refine QA.then_normal ?_
      refine C.region ?_
      obtain ⟨hc23, hm⟩ := sp_chk hm
      refine G.yl (yl_addI rfl rfl hc23) rfl rfl rfl ?_
      refine G.yl (yl_move rfl) rfl rfl rfl ?_
      refine G.nil ?_
      obtain rfl := sp_ret1 hm
      exact QA.againO (t13 + 1) hg6 (Sub.of ⟨rfl, rfl, rfl, rfl, rfl, trivial⟩) (Sat.pick [] h9)
    · refine C.cond_f rfl (dec_f hc7) ?_
      refine C.exit ?_
      refine QA.then_exit ?_
      refine QA.then_exit ?_
      obtain rfl := sp_ret1 hm
      exact QA.left () (Sub.of ⟨rfl, trivial⟩) ⟨hg6, (Sat.pick [] h4)⟩
  · rintro _ w24 ⟨rfl, h25⟩
    have hm := hm2
    show QA _ _ [(4, (.bool false))] _ _
    refine QA.block_here ?_
    refine QA.then_normal ?_
    refine C.seq ?_
    refine C.region ?_
    refine G.yl (yl_assign rfl) rfl rfl rfl ?_
    refine G.nil ?_
    refine QA.then_normal ?_
    refine C.ret ?_
    refine QA.ret1 rfl rfl ?_
    exact ⟨rfl, (Sat.pick [] h25)⟩
set_option maxRecDepth 20000 in
set_option maxHeartbeats 1000000 in
theorem M_roster_Same_vv_w {W : Base} {w : World} {a : Option Addr} {c : Nat} {a2 : List G_api_Instance} (hv_a2 : V W a (el_G_api_Instance.row a2)) (hq_a2 : a2.length ≤ c) (h : Sat W w [])  (hm : M_roster_Same_vv a2 = some ()) :
    Calls Try.prog 21 #[(.slice a a2.length c), (.slice a a2.length c)] w (Ret fun v w' => v = (.bool true) ∧ Sat W w' []) := by
  unfold M_roster_Same_vv at hm
  refine C.enter (N := 8) Try.func21 rfl Try.ntmps21 rfl ?_
  show C _ _ _ [(0, (.slice a a2.length c)), (1, (.slice a a2.length c))] _ _
  refine C.seq ?_
  refine C.region ?_
  refine G.yl (yl_assign rfl) rfl rfl rfl ?_
  refine G.nil ?_
  refine QA.then_normal ?_
  refine C.seq ?_
  refine C.region ?_
  refine G.yl (yl_move rfl) rfl rfl rfl ?_
  refine G.yl (yl_move rfl) rfl rfl rfl ?_
  obtain ⟨_, hy1, hm⟩ := sp_bind hm
  refine G.does (does_fn 0 rfl rfl rfl en46 h (fun U hU hp hr hs => M_slices_Equal_Instance_vv_w (s1 := a2) (hs.v hv_a2) hq_a2 hp hy1)) rfl rfl rfl ?_
  rintro _ w2 ⟨U5, hb6, rfl, h4⟩
  have h3 : Sat W w2 [] := hb6 h4
  refine G.yl (yl_assign rfl) rfl rfl rfl ?_
  refine G.nil ?_
  refine QA.then_normal ?_
  refine C.ret ?_
  refine QA.ret1 rfl rfl ?_
  exact ⟨rfl, (Sat.pick [] h3)⟩
set_option maxRecDepth 20000 in
set_option maxHeartbeats 1000000 in
theorem M_slices_Equal_Instance_vv_2_w {W : Base} {w : World} {a : Option Addr} {c : Nat} {s1 : List G_api_Instance} {a2 : Option Addr} {c2 : Nat} {s2 : List G_api_Instance} (hv_s1 : V W a (el_G_api_Instance.row s1)) (hq_s1 : s1.length ≤ c) (hv_s2 : V W a2 (el_G_api_Instance.row s2)) (hq_s2 : s2.length ≤ c2) (h : Sat W w []) {r1 : Bool} (hm : M_slices_Equal_Instance_vv_2 s1 s2 = some r1) :
    Calls Try.prog 46 #[(.slice a s1.length c), (.slice a2 s2.length c2)] w (Ret fun v w' => v = (.bool r1) ∧ Sat W w' []) := by
  unfold M_slices_Equal_Instance_vv_2 at hm
  refine C.enter (N := 26) Try.func46 rfl Try.ntmps46 rfl ?_
  show C _ _ _ [(0, (.slice a s1.length c)), (1, (.slice a2 s2.length c2))] _ _
  refine C.seq ?_
  refine C.region ?_
  refine G.yl (yl_assign rfl) rfl rfl rfl ?_
  refine G.nil ?_
  refine QA.then_normal ?_
  refine C.seq ?_
  refine C.seq ?_
  refine C.region ?_
  refine G.yl (yl_move rfl) rfl rfl rfl ?_
  refine G.yl (yl_lenE Try.underlying22 rfl) rfl rfl rfl ?_
  refine G.yl (yl_move rfl) rfl rfl rfl ?_
  refine G.yl (yl_lenE Try.underlying22 rfl) rfl rfl rfl ?_
  refine G.yl (yl_neI rfl rfl) rfl rfl rfl ?_
  refine G.nil ?_
  refine QA.then_normal ?_
  rcases sp_ite hm with ⟨hc1, hm⟩ | ⟨hc1, hm⟩
  · refine C.cond_f rfl (not_f (dec_t hc1)) ?_
    refine C.skip ?_
    refine QA.then_normal ?_
    refine C.seq ?_
    refine C.seq ?_
    refine C.region ?_
    refine G.yl (yl_move rfl) rfl rfl rfl ?_
    refine G.yl (yl_lenE Try.underlying22 rfl) rfl rfl rfl ?_
    refine G.yl (yl_move rfl) rfl rfl rfl ?_
    refine G.nil ?_
    refine QA.then_normal ?_
    refine C.block ?_
    obtain ⟨o, ho2, hm3⟩ := sp_bind hm
    refine C.left (γ := Unit) (.exit 0) (fun g => match g with | () => [(4, (.bool false))]) (fun g ww => match g with | () => .inl () = o ∧ Sat W ww []) ?_ ?_
    · refine C.loopO (γ := Int) (fun g => match g with | t13 => [(0, (.slice a s1.length c)), (1, (.slice a2 s2.length c2)), (4, (.bool false)), (12, (vI (s1.length : Int))), (13, (vI t13))]) (fun g ww => match g with | t13 => Sat W ww []) (fun g => match g with | t13 => t13) 0 ho2 (Sub.of ⟨rfl, rfl, rfl, rfl, rfl, trivial⟩) (Sat.pick [] h) ?_
      rintro t13 k6 w4 y_ h5 hm hg7
      show C _ _ _ [(0, (.slice a s1.length c)), (1, (.slice a2 s2.length c2)), (4, (.bool false)), (12, (vI (s1.length : Int))), (13, (vI t13))] _ _
      change M_slices_Equal_Instance_vv_2_b1 s1 s2 t13 = some y_ at hm
      unfold M_slices_Equal_Instance_vv_2_b1 at hm
      refine C.seq ?_
      refine C.region ?_
      refine G.yl (yl_ltI rfl rfl) rfl rfl rfl ?_
      refine G.nil ?_
      refine QA.then_normal ?_
      refine C.seq ?_
      rcases sp_ite hm with ⟨hc8, hm⟩ | ⟨hc8, hm⟩
      · refine C.cond_t rfl (dec_t hc8) ?_
        refine C.skip ?_
        refine QA.then_normal ?_
        refine C.seq ?_
        refine C.block ?_
        refine C.seq ?_
        refine C.region ?_
        refine G.yl (yl_move rfl) rfl rfl rfl ?_
        refine G.yl (yl_assign rfl) rfl rfl rfl ?_
        refine G.nil ?_
        refine QA.then_normal ?_
        refine C.seq ?_
        refine C.draw (V := fun w' => View w' a (el_G_api_Instance.row s1) ∧ View w' a2 (el_G_api_Instance.row s2)) (nd := [3, 7]) (sp := []) (n := 9) rfl h5 rfl rfl ?_
        intro w9 h10
        have hS11 : Cls (fun w' => View w' a (el_G_api_Instance.row s1) ∧ View w' a2 (el_G_api_Instance.row s2)) [3, 7] [] #[false, false, false, false, false, false, false, false, false] w9 := Cls.keep (⟨(hv_s1.at_ h10), (hv_s2.at_ h10)⟩) (by kernel_rfl)
        refine GH.yl (i := 0) (listed' := #[true, false, false, false, false, false, false, false, false]) rfl (by kernel_rfl) rfl (NP.next (NP.block (NP.next (NP.next (NP.left (by simp) (NP.block (NP.next NP.body))))))) rfl rfl rfl (fun w' => yl_move rfl) hS11 (fun hS12 => ?_)
        refine GH.yl (i := 1) (listed' := #[true, true, false, false, false, false, false, false, false]) rfl (by kernel_rfl) rfl (NP.next (NP.block (NP.next (NP.next (NP.left (by simp) (NP.block (NP.next NP.body))))))) rfl rfl rfl (fun w' => yl_move rfl) hS12 (fun hS13 => ?_)
        obtain ⟨x, hy14, hm⟩ := sp_bind hm
        refine GH.yl (i := 2) (listed' := #[true, true, true, false, false, false, false, false, false]) rfl (by kernel_rfl) rfl (NP.next (NP.block (NP.next (NP.next (NP.left (by simp) (NP.block (NP.next NP.body))))))) rfl rfl rfl (fun w' => yl_ixP (l := s1) sl22 rfl rfl (View.isA (E := el_G_api_Instance) (hv_s1.at_ h10) (by decide) (at?_lt hy14)) rfl (at?_lt hy14)) hS13 (fun hS15 => ?_)
        refine GH.yr (i := 3) (listed' := #[true, true, true, true, false, false, false, false, false]) rfl (by kernel_rfl) rfl rfl (NP.next (NP.block (NP.next (NP.next (NP.left (by simp) (NP.block (NP.next NP.body))))))) rfl rfl rfl (fun w' hw' => yl_ldE (E := el_G_api_Instance) ag31 sz31 rfl (hw'.1) (at?_some hy14).2) hS15 (fun hS16 => ?_)
        refine GH.yl (i := 4) (listed' := #[true, true, true, true, true, false, false, false, false]) rfl (by kernel_rfl) rfl (NP.next (NP.block (NP.next (NP.next (NP.left (by simp) (NP.block (NP.next NP.body))))))) rfl rfl rfl (fun w' => yl_move rfl) hS16 (fun hS17 => ?_)
        refine GH.yl (i := 5) (listed' := #[true, true, true, true, true, true, false, false, false]) rfl (by kernel_rfl) rfl (NP.next (NP.block (NP.next (NP.next (NP.left (by simp) (NP.block (NP.next NP.body))))))) rfl rfl rfl (fun w' => yl_move rfl) hS17 (fun hS18 => ?_)
        obtain ⟨x_2, hy19, hm⟩ := sp_bind hm
        refine GH.yl (i := 6) (listed' := #[true, true, true, true, true, true, true, false, false]) rfl (by kernel_rfl) rfl (NP.next (NP.block (NP.next (NP.next (NP.left (by simp) (NP.block (NP.next NP.body))))))) rfl rfl rfl (fun w' => yl_ixP (l := s2) sl22 rfl rfl (View.isA (E := el_G_api_Instance) (hv_s2.at_ h10) (by decide) (at?_lt hy19)) rfl (at?_lt hy19)) hS18 (fun hS20 => ?_)
        refine GH.yr (i := 7) (listed' := #[true, true, true, true, true, true, true, true, false]) rfl (by kernel_rfl) rfl rfl (NP.next (NP.block (NP.next (NP.next (NP.left (by simp) (NP.block (NP.next NP.body))))))) rfl rfl rfl (fun w' hw' => yl_ldE (E := el_G_api_Instance) ag31 sz31 rfl (hw'.2) (at?_some hy19).2) hS20 (fun hS21 => ?_)
        obtain ⟨hc22, hm⟩ := sp_chk hm
        obtain ⟨hc23, hm⟩ := sp_chk hm
        refine GH.yl (i := 8) (listed' := #[true, true, true, true, true, true, true, true, true]) rfl (by kernel_rfl) rfl (NP.next (NP.block (NP.next (NP.next (NP.left (by simp) (NP.block (NP.next NP.body))))))) rfl rfl rfl (fun w' => yl_ne_agg (r := decide (x = x_2)) (vs := (el_G_api_Instance.f x)) (us := (el_G_api_Instance.f x_2)) rfl rfl (by rw [decide_eq_true_eq]; exact G_api_Instance_inj) eqT31.1 eqT31.2.1 eqT31.2.2.1 eqT31.2.2.2.1 eqT31.2.2.2.2 (G_api_Instance_fits x hc22) (G_api_Instance_fits x_2 hc23)) hS21 (fun hS24 => ?_)
        refine GH.done (by kernel_rfl) ?_
        refine QA.then_normal ?_
        rcases sp_ite hm with ⟨hc25, hm⟩ | ⟨hc25, hm⟩
        · refine C.cond_f rfl (not_f (dec_t hc25)) ?_
          refine C.skip ?_
          refine QA.block_normal ?_
          refine QA.then_normal ?_
          refine C.region ?_
          obtain ⟨hc26, hm⟩ := sp_chk hm
          refine G.yl (yl_addI rfl rfl hc26) rfl rfl rfl ?_
          refine G.yl (yl_move rfl) rfl rfl rfl ?_
          refine G.nil ?_
          obtain rfl := sp_ret1 hm
          exact QA.againO (t13 + 1) hg7 (Sub.of ⟨rfl, rfl, rfl, rfl, rfl, trivial⟩) (Sat.pick [] h10)
        · refine C.cond_t rfl (not_t (dec_f hc25)) ?_
          refine C.seq ?_
          refine C.region ?_
          refine G.yl (yl_assign rfl) rfl rfl rfl ?_
          refine G.nil ?_
          refine QA.then_normal ?_
          refine C.ret ?_
          refine QA.block_ret ?_
          refine QA.then_ret ?_
          refine QA.then_ret ?_
          refine QA.past (by simp) ?_
          refine QA.block_ret ?_
          refine QA.then_ret ?_
          refine QA.ret1 rfl rfl ?_
          obtain rfl := sp_ret1 hm
          obtain rfl : .inr false = o := hg7
          have hm : some false = some r1 := hm3
          obtain rfl := sp_ret1 hm
          exact ⟨rfl, (Sat.pick [] h10)⟩
      · refine C.cond_f rfl (dec_f hc8) ?_
        refine C.exit ?_
        refine QA.then_exit ?_
        refine QA.then_exit ?_
        obtain rfl := sp_ret1 hm
        exact QA.left () (Sub.of ⟨rfl, trivial⟩) ⟨hg7, (Sat.pick [] h5)⟩
    · rintro _ w27 ⟨rfl, h28⟩
      have hm := hm3
      show QA _ _ [(4, (.bool false))] _ _
      refine QA.block_here ?_
      refine QA.then_normal ?_
      refine C.seq ?_
      refine C.region ?_
      refine G.yl (yl_assign rfl) rfl rfl rfl ?_
      refine G.nil ?_
      refine QA.then_normal ?_
      refine C.ret ?_
      refine QA.ret1 rfl rfl ?_
      obtain rfl := sp_ret1 hm
      exact ⟨rfl, (Sat.pick [] h28)⟩
  · refine C.cond_t rfl (not_t (dec_f hc1)) ?_
    refine C.seq ?_
    refine C.region ?_
    refine G.yl (yl_assign rfl) rfl rfl rfl ?_
    refine G.nil ?_
    refine QA.then_normal ?_
    refine C.ret ?_
    refine QA.then_ret ?_
    refine QA.ret1 rfl rfl ?_
    obtain rfl := sp_ret1 hm
    exact ⟨rfl, (Sat.pick [] h)⟩
set_option maxRecDepth 20000 in
set_option maxHeartbeats 1000000 in
theorem M_roster_Same_vv_2_w {W : Base} {w : World} {a : Option Addr} {c : Nat} {a2 : List G_api_Instance} {a3 : Option Addr} {c2 : Nat} {b : List G_api_Instance} (hv_a2 : V W a (el_G_api_Instance.row a2)) (hq_a2 : a2.length ≤ c) (hv_b : V W a3 (el_G_api_Instance.row b)) (hq_b : b.length ≤ c2) (h : Sat W w []) {r1 : Bool} (hm : M_roster_Same_vv_2 a2 b = some r1) :
    Calls Try.prog 21 #[(.slice a a2.length c), (.slice a3 b.length c2)] w (Ret fun v w' => v = (.bool r1) ∧ Sat W w' []) := by
  unfold M_roster_Same_vv_2 at hm
  refine C.enter (N := 8) Try.func21 rfl Try.ntmps21 rfl ?_
  show C _ _ _ [(0, (.slice a a2.length c)), (1, (.slice a3 b.length c2))] _ _
  refine C.seq ?_
  refine C.region ?_
  refine G.yl (yl_assign rfl) rfl rfl rfl ?_
  refine G.nil ?_
  refine QA.then_normal ?_
  refine C.seq ?_
  refine C.region ?_
  refine G.yl (yl_move rfl) rfl rfl rfl ?_
  refine G.yl (yl_move rfl) rfl rfl rfl ?_
  obtain ⟨r1_2, hy1, hm⟩ := sp_bind hm
  refine G.does (does_fn 0 rfl rfl rfl en46 h (fun U hU hp hr hs => M_slices_Equal_Instance_vv_2_w (s1 := a2) (s2 := b) (hs.v hv_a2) hq_a2 (hs.v hv_b) hq_b hp hy1)) rfl rfl rfl ?_
  rintro _ w2 ⟨U5, hb6, rfl, h4⟩
  have h3 : Sat W w2 [] := hb6 h4
  refine G.yl (yl_assign rfl) rfl rfl rfl ?_
  refine G.nil ?_
  refine QA.then_normal ?_
  refine C.ret ?_
  refine QA.ret1 rfl rfl ?_
  obtain rfl := sp_ret1 hm
  exact ⟨rfl, (Sat.pick [] h3)⟩
set_option maxRecDepth 20000 in
set_option maxHeartbeats 1000000 in
theorem M_signpostlaw12_publishers_v_w {W : Base} {w : World} {a : Option Addr} {c : Nat} {l : List G_api_Instance} (hv_l : V W a (el_G_api_Instance.row l)) (hq_l : l.length ≤ c) (h : Sat W w []) {r1 : Int} (hm : M_signpostlaw12_publishers_v l = some r1) :
    Calls Try.prog 11 #[(.slice a l.length c)] w (Ret fun v w' => v = (vI r1) ∧ Sat W w' []) := by
  unfold M_signpostlaw12_publishers_v at hm
  refine C.enter (N := 38) Try.func11 rfl Try.ntmps11 rfl ?_
  show C _ _ _ [(0, (.slice a l.length c))] _ _
  refine C.seq ?_
  refine C.region ?_
  refine G.yl (yl_assign rfl) rfl rfl rfl ?_
  refine G.nil ?_
  refine QA.then_normal ?_
  refine C.seq ?_
  refine C.region ?_
  refine G.yl (yl_assign rfl) rfl rfl rfl ?_
  refine G.nil ?_
  refine QA.then_normal ?_
  refine C.seq ?_
  refine C.seq ?_
  refine C.region ?_
  refine G.yl (yl_move rfl) rfl rfl rfl ?_
  refine G.yl (yl_lenE Try.underlying22 rfl) rfl rfl rfl ?_
  refine G.yl (yl_move rfl) rfl rfl rfl ?_
  refine G.nil ?_
  refine QA.then_normal ?_
  refine C.block ?_
  obtain ⟨o, ho1, hm2⟩ := sp_bind hm
  refine C.left (γ := Int) (.exit 0) (fun g => match g with | n_2 => [(2, (vI 0)), (3, (vI n_2))]) (fun g ww => match g with | n_2 => n_2 = o ∧ Sat W ww []) ?_ ?_
  · refine C.loopO (γ := Int × Int) (fun g => match g with | (n, t11) => [(0, (.slice a l.length c)), (2, (vI 0)), (3, (vI n)), (9, (.slice a l.length c)), (10, (vI (l.length : Int))), (11, (vI t11))]) (fun g ww => match g with | (n, t11) => Sat W ww []) (fun g => match g with | (n, t11) => (n, t11)) (0, 0) ho1 (Sub.of ⟨rfl, rfl, rfl, rfl, rfl, rfl, trivial⟩) (Sat.pick [] h) ?_
    rintro ⟨n, t11⟩ k5 w3 y_ h4 hm hg6
    show C _ _ _ [(0, (.slice a l.length c)), (2, (vI 0)), (3, (vI n)), (9, (.slice a l.length c)), (10, (vI (l.length : Int))), (11, (vI t11))] _ _
    change M_signpostlaw12_publishers_v_b1 l n t11 = some y_ at hm
    unfold M_signpostlaw12_publishers_v_b1 at hm
    refine C.seq ?_
    refine C.region ?_
    refine G.yl (yl_ltI rfl rfl) rfl rfl rfl ?_
    refine G.nil ?_
    refine QA.then_normal ?_
    refine C.seq ?_
    rcases sp_ite hm with ⟨hc7, hm⟩ | ⟨hc7, hm⟩
    · refine C.cond_t rfl (dec_t hc7) ?_
      refine C.skip ?_
      refine QA.then_normal ?_
      refine C.seq ?_
      refine C.block ?_
      refine C.seq ?_
      refine C.region ?_
      refine G.yl (yl_move rfl) rfl rfl rfl ?_
      obtain ⟨x, hy8, hm⟩ := sp_bind hm
      refine G.yl (yl_ixP (l := l) sl22 rfl rfl (View.isA (E := el_G_api_Instance) (hv_l.at_ h4) (by decide) (at?_lt hy8)) rfl (at?_lt hy8)) rfl rfl rfl ?_
      refine G.yl (yl_ldE (E := el_G_api_Instance) ag31 sz31 rfl (hv_l.at_ h4) (at?_some hy8).2) rfl rfl rfl ?_
      refine G.does (does_alloc (cs := (bytesV (List.ofFn (n := 20) (fun _ => 0)) ++ ([(.int .u64 0), (.int .u64 0), (.int .u32 0), (.bool false), (.int .u16 0), (.int .u16 0), (.int .u16 0), (.string (str ([] : List UInt8)))] : List Value))) h4 z31 rfl) rfl rfl rfl ?_
      rintro _ w10 ⟨b9, rfl, h11⟩
      refine G.yl (yl_assign rfl) rfl rfl rfl ?_
      refine G.unit (does_store (vs := (bytesV (List.ofFn (n := 20) x.Publisher) ++ ([(v64 x.Seq), (v64 x.Born), (v32 x.Life), (.bool x.Gone), (v16 x.Priority), (v16 x.Weight), (v16 x.Port), (.string (str x.Target))] : List Value))) h11 sz31 rfl rfl rfl (by simp [bytesV_length]) (List.forall_mem_append.2 ⟨(bytesV_one _), (List.forall_mem_cons.2 ⟨rfl, (List.forall_mem_cons.2 ⟨rfl, (List.forall_mem_cons.2 ⟨rfl, (List.forall_mem_cons.2 ⟨rfl, (List.forall_mem_cons.2 ⟨rfl, (List.forall_mem_cons.2 ⟨rfl, (List.forall_mem_cons.2 ⟨rfl, (List.forall_mem_cons.2 ⟨rfl, (fun _ hh => by cases hh)⟩)⟩)⟩)⟩)⟩)⟩)⟩)⟩)⟩) (by simp [bytesV_length])) rfl rfl ?_
      rintro _ w12 h14
      have h13 : Sat W w12 [blk b9 (bytesV (List.ofFn (n := 20) x.Publisher) ++ ([(v64 x.Seq), (v64 x.Born), (v32 x.Life), (.bool x.Gone), (v16 x.Priority), (v16 x.Weight), (v16 x.Port), (.string (str x.Target))] : List Value)) 31] := sl_blk (setN_all _ _ (by simp [bytesV_length])) h14
      refine G.nil ?_
      refine QA.then_normal ?_
      refine C.seq ?_
      refine C.region ?_
      refine G.yl (yl_assign rfl) rfl rfl rfl ?_
      refine G.nil ?_
      refine QA.then_normal ?_
      refine C.seq ?_
      refine C.seq ?_
      refine C.region ?_
      refine G.yl (yl_move rfl) rfl rfl rfl ?_
      refine G.yl (yl_move rfl) rfl rfl rfl ?_
      obtain ⟨hc15, hm⟩ := sp_chk hm
      refine G.yl (yl_slH (E := el_G_api_Instance) (l := l) sl22 rfl rfl rfl hc15 hq_l) rfl rfl rfl ?_
      refine G.yl (yl_lenE Try.underlying22 rfl) rfl rfl rfl ?_
      refine G.yl (yl_move rfl) rfl rfl rfl ?_
      refine G.nil ?_
      refine QA.then_normal ?_
      refine C.block ?_
      obtain ⟨o_2, ho16, hm17⟩ := sp_bind hm
      refine C.left (γ := Bool) (.exit 2) (fun g => match g with | once_2 => [(0, (.slice a l.length c)), (2, (vI 0)), (3, (vI n)), (6, (.bool once_2)), (9, (.slice a l.length c)), (10, (vI (l.length : Int))), (11, (vI t11))]) (fun g ww => match g with | once_2 => once_2 = o_2 ∧ Sat W ww []) ?_ ?_
      · refine C.loopO (γ := Bool × Int) (fun g => match g with | (once, t20) => [(0, (.slice a l.length c)), (2, (vI 0)), (3, (vI n)), (5, (.pointer (some ⟨b9, 0, none⟩))), (6, (.bool once)), (9, (.slice a l.length c)), (10, (vI (l.length : Int))), (11, (vI t11)), (18, (.slice a ((l.take t11.toNat).length) c)), (19, (vI ((l.take t11.toNat).length : Int))), (20, (vI t20))]) (fun g ww => match g with | (once, t20) => Sat W ww [blk b9 (bytesV (List.ofFn (n := 20) x.Publisher) ++ ([(v64 x.Seq), (v64 x.Born), (v32 x.Life), (.bool x.Gone), (v16 x.Priority), (v16 x.Weight), (v16 x.Port), (.string (str x.Target))] : List Value)) 31]) (fun g => match g with | (once, t20) => (once, t20)) (true, 0) ho16 (Sub.of ⟨rfl, rfl, rfl, rfl, rfl, rfl, rfl, rfl, rfl, rfl, rfl, trivial⟩) (Sat.pick [0] h13) ?_
        rintro ⟨once, t20⟩ k20 w18 y__2 h19 hm hg21
        show C _ _ _ [(0, (.slice a l.length c)), (2, (vI 0)), (3, (vI n)), (5, (.pointer (some ⟨b9, 0, none⟩))), (6, (.bool once)), (9, (.slice a l.length c)), (10, (vI (l.length : Int))), (11, (vI t11)), (18, (.slice a ((l.take t11.toNat).length) c)), (19, (vI ((l.take t11.toNat).length : Int))), (20, (vI t20))] _ _
        change M_signpostlaw12_publishers_v_b2 l t11 x once t20 = some y__2 at hm
        unfold M_signpostlaw12_publishers_v_b2 at hm
        refine C.seq ?_
        refine C.region ?_
        refine G.yl (yl_ltI rfl rfl) rfl rfl rfl ?_
        refine G.nil ?_
        refine QA.then_normal ?_
        refine C.seq ?_
        rcases sp_ite hm with ⟨hc22, hm⟩ | ⟨hc22, hm⟩
        · refine C.cond_t rfl (dec_t hc22) ?_
          refine C.skip ?_
          refine QA.then_normal ?_
          refine C.seq ?_
          refine C.block ?_
          refine C.seq ?_
          refine C.region ?_
          obtain ⟨x_2, hy23, hm⟩ := sp_bind hm
          refine G.yl (yl_ixP (l := l.take t11.toNat) sl22 rfl rfl (View.isA (E := el_G_api_Instance) (View.rtake (hv_l.at_ h19) t11.toNat) (by decide) (at?_lt hy23)) rfl (at?_lt hy23)) rfl rfl rfl ?_
          refine G.yl (yl_ldE (E := el_G_api_Instance) ag31 sz31 rfl (hv_l.at_ h19) (at?_pre hy23 (by simp))) rfl rfl rfl ?_
          refine G.does (does_alloc (cs := (bytesV (List.ofFn (n := 20) (fun _ => 0)) ++ ([(.int .u64 0), (.int .u64 0), (.int .u32 0), (.bool false), (.int .u16 0), (.int .u16 0), (.int .u16 0), (.string (str ([] : List UInt8)))] : List Value))) h19 z31 rfl) rfl rfl rfl ?_
          rintro _ w25 ⟨b24, rfl, h26⟩
          refine G.unit (does_store (vs := (bytesV (List.ofFn (n := 20) x_2.Publisher) ++ ([(v64 x_2.Seq), (v64 x_2.Born), (v32 x_2.Life), (.bool x_2.Gone), (v16 x_2.Priority), (v16 x_2.Weight), (v16 x_2.Port), (.string (str x_2.Target))] : List Value))) h26 sz31 rfl rfl rfl (by simp [bytesV_length]) (List.forall_mem_append.2 ⟨(bytesV_one _), (List.forall_mem_cons.2 ⟨rfl, (List.forall_mem_cons.2 ⟨rfl, (List.forall_mem_cons.2 ⟨rfl, (List.forall_mem_cons.2 ⟨rfl, (List.forall_mem_cons.2 ⟨rfl, (List.forall_mem_cons.2 ⟨rfl, (List.forall_mem_cons.2 ⟨rfl, (List.forall_mem_cons.2 ⟨rfl, (fun _ hh => by cases hh)⟩)⟩)⟩)⟩)⟩)⟩)⟩)⟩)⟩) (by simp [bytesV_length])) rfl rfl ?_
          rintro _ w27 h29
          have h28 : Sat W w27 [blk b24 (bytesV (List.ofFn (n := 20) x_2.Publisher) ++ ([(v64 x_2.Seq), (v64 x_2.Born), (v32 x_2.Life), (.bool x_2.Gone), (v16 x_2.Priority), (v16 x_2.Weight), (v16 x_2.Port), (.string (str x_2.Target))] : List Value)) 31, blk b9 (bytesV (List.ofFn (n := 20) x.Publisher) ++ ([(v64 x.Seq), (v64 x.Born), (v32 x.Life), (.bool x.Gone), (v16 x.Priority), (v16 x.Weight), (v16 x.Port), (.string (str x.Target))] : List Value)) 31] := sl_blk (setN_all _ _ (by simp [bytesV_length])) h29
          refine G.nil ?_
          refine QA.then_normal ?_
          refine C.region ?_
          refine G.yl (yl_move rfl) rfl rfl rfl ?_
          refine G.yl (yl_move rfl) rfl rfl rfl ?_
          rcases sp_b hm with ⟨hc30, hm⟩ | ⟨hc30, hm⟩
          · refine G.on rfl rfl hc30 ?_
            refine G.yl (yl_fieldAddr fo31_0 rfl) rfl rfl rfl ?_
            refine G.on rfl rfl hc30 ?_
            refine G.yl (yl_loadN (vs := (bytesV (List.ofFn (n := 20) x_2.Publisher))) ag26 sz26 (by simp [bytesV_length]) rfl (View.span_head h28.isBlk.view0)) rfl rfl rfl ?_
            refine G.on rfl rfl hc30 ?_
            refine G.yl (yl_fieldAddr fo31_0 rfl) rfl rfl rfl ?_
            refine G.on rfl rfl hc30 ?_
            refine G.yl (yl_loadN (vs := (bytesV (List.ofFn (n := 20) x.Publisher))) ag26 sz26 (by simp [bytesV_length]) rfl (View.span_head (Sat.pick [1] h28).isBlk.view0)) rfl rfl rfl ?_
            refine G.on rfl rfl hc30 ?_
            refine G.yl (yl_ne_agg (r := decide (x_2.Publisher = x.Publisher)) (vs := (bytesV (List.ofFn x_2.Publisher))) (us := (bytesV (List.ofFn x.Publisher))) rfl rfl (by rw [decide_eq_true_eq]; exact arr_inj) eqT26.1 eqT26.2.1 eqT26.2.2.1 eqT26.2.2.2.1 eqT26.2.2.2.2 (fits_span _) (fits_span _)) rfl rfl rfl ?_
            refine G.yl (yl_pick_t rfl hc30 rfl) rfl rfl rfl ?_
            refine G.yl (yl_assign rfl) rfl rfl rfl ?_
            refine G.nil ?_
            refine QA.block_normal ?_
            refine QA.then_normal ?_
            refine C.region ?_
            obtain ⟨hc31, hm⟩ := sp_chk hm
            refine G.yl (yl_addI rfl rfl hc31) rfl rfl rfl ?_
            refine G.yl (yl_move rfl) rfl rfl rfl ?_
            refine G.nil ?_
            obtain rfl := sp_ret1 hm
            exact QA.againO (!(decide (x_2.Publisher = x.Publisher)), t20 + 1) hg21 (Sub.of ⟨rfl, rfl, rfl, rfl, rfl, rfl, rfl, rfl, rfl, rfl, rfl, trivial⟩) (Sat.pick [1] h28)
          · refine G.offU rfl rfl hc30 rfl ?_
            refine G.offU rfl rfl hc30 rfl ?_
            refine G.offU rfl rfl hc30 rfl ?_
            refine G.offU rfl rfl hc30 rfl ?_
            refine G.offU rfl rfl hc30 rfl ?_
            refine G.yl (yl_pick_f rfl hc30 rfl) rfl rfl rfl ?_
            refine G.yl (yl_assign rfl) rfl rfl rfl ?_
            refine G.nil ?_
            refine QA.block_normal ?_
            refine QA.then_normal ?_
            refine C.region ?_
            obtain ⟨hc32, hm⟩ := sp_chk hm
            refine G.yl (yl_addI rfl rfl hc32) rfl rfl rfl ?_
            refine G.yl (yl_move rfl) rfl rfl rfl ?_
            refine G.nil ?_
            obtain rfl := sp_ret1 hm
            exact QA.againO (false, t20 + 1) hg21 (Sub.of ⟨rfl, rfl, rfl, rfl, rfl, rfl, rfl, rfl, rfl, rfl, rfl, trivial⟩) (Sat.pick [1] h28)
        · refine C.cond_f rfl (dec_f hc22) ?_
          refine C.exit ?_
          refine QA.then_exit ?_
          refine QA.then_exit ?_
          obtain rfl := sp_ret1 hm
          exact QA.left once (Sub.of ⟨rfl, rfl, rfl, rfl, rfl, rfl, rfl, trivial⟩) ⟨hg21, (Sat.pick [] h19)⟩
      · rintro once_2 w33 ⟨rfl, h34⟩
        have hm := hm17
        show QA _ _ [(0, (.slice a l.length c)), (2, (vI 0)), (3, (vI n)), (6, (.bool once_2)), (9, (.slice a l.length c)), (10, (vI (l.length : Int))), (11, (vI t11))] _ _
        refine QA.block_here ?_
        refine QA.then_normal ?_
        refine C.seq ?_
        refine C.region ?_
        refine G.yl (yl_move rfl) rfl rfl rfl ?_
        refine G.nil ?_
        refine QA.then_normal ?_
        rcases sp_b hm with ⟨hc35, hm⟩ | ⟨hc35, hm⟩
        · refine C.cond_t rfl hc35 ?_
          refine C.region ?_
          refine G.yl (yl_move rfl) rfl rfl rfl ?_
          obtain ⟨hc36, hm⟩ := sp_chk hm
          refine G.yl (yl_addI rfl rfl hc36) rfl rfl rfl ?_
          refine G.yl (yl_assign rfl) rfl rfl rfl ?_
          refine G.nil ?_
          refine QA.block_normal ?_
          refine QA.then_normal ?_
          refine C.region ?_
          obtain ⟨hc37, hm⟩ := sp_chk hm
          refine G.yl (yl_addI rfl rfl hc37) rfl rfl rfl ?_
          refine G.yl (yl_move rfl) rfl rfl rfl ?_
          refine G.nil ?_
          obtain rfl := sp_ret1 hm
          exact QA.againO (n + 1, t11 + 1) hg6 (Sub.of ⟨rfl, rfl, rfl, rfl, rfl, rfl, trivial⟩) (Sat.pick [] h34)
        · refine C.cond_f rfl hc35 ?_
          refine C.skip ?_
          refine QA.block_normal ?_
          refine QA.then_normal ?_
          refine C.region ?_
          obtain ⟨hc38, hm⟩ := sp_chk hm
          refine G.yl (yl_addI rfl rfl hc38) rfl rfl rfl ?_
          refine G.yl (yl_move rfl) rfl rfl rfl ?_
          refine G.nil ?_
          obtain rfl := sp_ret1 hm
          exact QA.againO (n, t11 + 1) hg6 (Sub.of ⟨rfl, rfl, rfl, rfl, rfl, rfl, trivial⟩) (Sat.pick [] h34)
    · refine C.cond_f rfl (dec_f hc7) ?_
      refine C.exit ?_
      refine QA.then_exit ?_
      refine QA.then_exit ?_
      obtain rfl := sp_ret1 hm
      exact QA.left n (Sub.of ⟨rfl, rfl, trivial⟩) ⟨hg6, (Sat.pick [] h4)⟩
  · rintro n_2 w39 ⟨rfl, h40⟩
    have hm := hm2
    show QA _ _ [(2, (vI 0)), (3, (vI n_2))] _ _
    refine QA.block_here ?_
    refine QA.then_normal ?_
    refine C.seq ?_
    refine C.region ?_
    refine G.yl (yl_move rfl) rfl rfl rfl ?_
    refine G.yl (yl_assign rfl) rfl rfl rfl ?_
    refine G.nil ?_
    refine QA.then_normal ?_
    refine C.ret ?_
    refine QA.ret1 rfl rfl ?_
    obtain rfl := sp_ret1 hm
    exact ⟨rfl, (Sat.pick [] h40)⟩
end Go.Proofs.Ytmjcemhojhbijaa
