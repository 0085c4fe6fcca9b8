/-
  That the functions of the program compute what their Lean functions say, part 3. No condition.
-/
import Derived.Test.YtmjcemhojhbijaaRosterNewestW2
namespace Go.Proofs.Ytmjcemhojhbijaa
open Go Go.RowKit
set_option linter.unusedVariables false
set_option linter.unusedSimpArgs false
set_option linter.unnecessarySimpa false
set_option maxRecDepth 20000 in
set_option maxHeartbeats 1000000 in
theorem M_signpostlaw12_RosterNewest_v_w {W : Base} {w : World} {a : Option Addr} {c : Nat} {l : List G_api_Instance} (hv_l : V W a (el_G_api_Instance.row l)) (hq_l : l.length ≤ c) (h : Sat W w []) {r1 : Bool} (hm : M_signpostlaw12_RosterNewest_v l = some r1) :
    Calls Try.prog 3 #[(.slice a l.length c)] w (Ret fun v w' => v = (.bool r1) ∧ Sat W w' []) := by
  unfold M_signpostlaw12_RosterNewest_v at hm
  refine C.enter (N := 87) Try.func3 rfl Try.ntmps3 rfl ?_
  show C _ _ _ [(0, (.slice a l.length c))] _ _
  refine C.seq ?_
  refine C.region ?_
  refine G.yl (yl_assign rfl) rfl rfl rfl ?_
  refine G.nil ?_
  refine QA.then_normal ?_
  refine C.seq ?_
  refine C.seq ?_
  refine C.region ?_
  refine G.yl (yl_move rfl) rfl rfl rfl ?_
  obtain ⟨r1_2, hy1, hm⟩ := sp_bind hm
  refine G.does (does_fn 0 rfl rfl rfl en6 h (fun U hU hp hr hs => M_signpostlaw12_Light_v_w (l := l) (hs.v hv_l) hq_l hp hy1)) rfl rfl rfl ?_
  rintro _ w2 ⟨U5, hb6, rfl, h4⟩
  have h3 : Sat W w2 [] := hb6 h4
  refine G.yl (yl_not rfl) rfl rfl rfl ?_
  refine G.nil ?_
  refine QA.then_normal ?_
  rcases sp_b hm with ⟨hc7, hm⟩ | ⟨hc7, hm⟩
  · refine C.cond_f rfl (not_f hc7) ?_
    refine C.skip ?_
    refine QA.then_normal ?_
    refine C.seq ?_
    refine C.region ?_
    refine G.yl (yl_assign rfl) rfl rfl rfl ?_
    refine G.yl (yl_assign rfl) rfl rfl rfl ?_
    refine G.nil ?_
    refine QA.then_normal ?_
    refine C.seq ?_
    refine C.seq ?_
    refine C.region ?_
    refine G.yl (yl_move rfl) rfl rfl rfl ?_
    refine G.yl (yl_lenE Try.underlying22 rfl) rfl rfl rfl ?_
    refine G.yl (yl_move rfl) rfl rfl rfl ?_
    refine G.nil ?_
    refine QA.then_normal ?_
    refine C.block ?_
    obtain ⟨o, ho8, hm9⟩ := sp_bind hm
    refine C.left (γ := Unit) (.exit 0) (fun g => match g with | () => [(2, (.bool false))]) (fun g ww => match g with | () => .inl () = o ∧ Sat W ww []) ?_ ?_
    · refine C.loopO (γ := Option Addr × Nat × List G_api_Instance × Option Addr × Nat × List G_api_Instance × Int) (fun g => match g with | (a_2, c_2, out, a_3, c_3, came, t20) => [(2, (.bool false)), (3, (.slice a_2 out.length c_2)), (4, (.slice a_3 came.length c_3)), (18, (.slice a l.length c)), (19, (vI (l.length : Int))), (20, (vI t20))]) (fun g ww => match g with | (a_2, c_2, out, a_3, c_3, came, t20) => Sat W ww [ow el_G_api_Instance a_2 c_2 31 out, ow el_G_api_Instance a_3 c_3 31 came]) (fun g => match g with | (a_2, c_2, out, a_3, c_3, came, t20) => (out, came, t20)) (none, 0, ([] : List G_api_Instance), none, 0, ([] : List G_api_Instance), 0) ho8 (Sub.of ⟨rfl, rfl, rfl, rfl, rfl, rfl, trivial⟩) (Sat.pick [0, 0] (Sat.own_zero (Sat.own_zero h3 el_G_api_Instance none 31) el_G_api_Instance none 31)) ?_
      rintro ⟨a_2, c_2, out, a_3, c_3, came, t20⟩ k12 w10 y_ h11 hm hg13
      show C _ _ _ [(2, (.bool false)), (3, (.slice a_2 out.length c_2)), (4, (.slice a_3 came.length c_3)), (18, (.slice a l.length c)), (19, (vI (l.length : Int))), (20, (vI t20))] _ _
      change M_signpostlaw12_RosterNewest_v_b1 l out came t20 = some y_ at hm
      unfold M_signpostlaw12_RosterNewest_v_b1 at hm
      refine C.seq ?_
      refine C.region ?_
      refine G.yl (yl_ltI rfl rfl) rfl rfl rfl ?_
      refine G.nil ?_
      refine QA.then_normal ?_
      refine C.seq ?_
      rcases sp_ite hm with ⟨hc14, hm⟩ | ⟨hc14, hm⟩
      · refine C.cond_t rfl (dec_t hc14) ?_
        refine C.skip ?_
        refine QA.then_normal ?_
        refine C.seq ?_
        refine C.block ?_
        refine C.seq ?_
        refine C.region ?_
        obtain ⟨x, hy15, hm⟩ := sp_bind hm
        refine G.yl (yl_ixP (l := l) sl22 rfl rfl (View.isA (E := el_G_api_Instance) (hv_l.at_ h11) (by decide) (at?_lt hy15)) rfl (at?_lt hy15)) rfl rfl rfl ?_
        refine G.yl (yl_ldE (E := el_G_api_Instance) ag31 sz31 rfl (hv_l.at_ h11) (at?_some hy15).2) rfl rfl rfl ?_
        refine G.does (does_alloc (cs := (bytesV (List.ofFn (n := 20) (fun _ => 0)) ++ ([(.int .u64 0), (.int .u64 0), (.int .u32 0), (.bool false), (.int .u16 0), (.int .u16 0), (.int .u16 0), (.string (str ([] : List UInt8)))] : List Value))) h11 z31 rfl) rfl rfl rfl ?_
        rintro _ w17 ⟨b16, rfl, h18⟩
        refine G.unit (does_store (vs := (bytesV (List.ofFn (n := 20) x.Publisher) ++ ([(v64 x.Seq), (v64 x.Born), (v32 x.Life), (.bool x.Gone), (v16 x.Priority), (v16 x.Weight), (v16 x.Port), (.string (str x.Target))] : List Value))) h18 sz31 rfl rfl rfl (by simp [bytesV_length]) (List.forall_mem_append.2 ⟨(bytesV_one _), (List.forall_mem_cons.2 ⟨rfl, (List.forall_mem_cons.2 ⟨rfl, (List.forall_mem_cons.2 ⟨rfl, (List.forall_mem_cons.2 ⟨rfl, (List.forall_mem_cons.2 ⟨rfl, (List.forall_mem_cons.2 ⟨rfl, (List.forall_mem_cons.2 ⟨rfl, (List.forall_mem_cons.2 ⟨rfl, (fun _ hh => by cases hh)⟩)⟩)⟩)⟩)⟩)⟩)⟩)⟩)⟩) (by simp [bytesV_length])) rfl rfl ?_
        rintro _ w19 h21
        have h20 : Sat W w19 [blk b16 (bytesV (List.ofFn (n := 20) x.Publisher) ++ ([(v64 x.Seq), (v64 x.Born), (v32 x.Life), (.bool x.Gone), (v16 x.Priority), (v16 x.Weight), (v16 x.Port), (.string (str x.Target))] : List Value)) 31, ow el_G_api_Instance a_2 c_2 31 out, ow el_G_api_Instance a_3 c_3 31 came] := sl_blk (setN_all _ _ (by simp [bytesV_length])) h21
        refine G.nil ?_
        refine QA.then_normal ?_
        refine C.seq ?_
        refine C.seq ?_
        refine C.region ?_
        refine G.yl (yl_loadN (vs := (bytesV (List.ofFn (n := 20) x.Publisher) ++ ([(v64 x.Seq), (v64 x.Born), (v32 x.Life), (.bool x.Gone), (v16 x.Priority), (v16 x.Weight), (v16 x.Port), (.string (str x.Target))] : List Value))) ag31 sz31 (by simp [bytesV_length]) rfl (h20.isBlk.view0)) rfl rfl rfl ?_
        obtain ⟨r1_3, hy22, hm⟩ := sp_bind hm
        refine G.does (does_fn 0 rfl rfl rfl en8 h20 (fun U hU hp hr hs => M_inst_Good_w (i := x) hp hy22)) rfl rfl rfl ?_
        rintro _ w23 ⟨U26, hb27, rfl, h25⟩
        have h24 : Sat W w23 [blk b16 (bytesV (List.ofFn (n := 20) x.Publisher) ++ ([(v64 x.Seq), (v64 x.Born), (v32 x.Life), (.bool x.Gone), (v16 x.Priority), (v16 x.Weight), (v16 x.Port), (.string (str x.Target))] : List Value)) 31, ow el_G_api_Instance a_2 c_2 31 out, ow el_G_api_Instance a_3 c_3 31 came] := hb27 h25
        refine G.yl (yl_not rfl) rfl rfl rfl ?_
        refine G.nil ?_
        refine QA.then_normal ?_
        rcases sp_b hm with ⟨hc28, hm⟩ | ⟨hc28, hm⟩
        · refine C.cond_f rfl (not_f hc28) ?_
          refine C.skip ?_
          refine QA.then_normal ?_
          refine C.seq ?_
          refine C.region ?_
          refine G.yl (yl_move rfl) rfl rfl rfl ?_
          refine G.yl (yl_loadN (vs := (bytesV (List.ofFn (n := 20) x.Publisher) ++ ([(v64 x.Seq), (v64 x.Born), (v32 x.Life), (.bool x.Gone), (v16 x.Priority), (v16 x.Weight), (v16 x.Port), (.string (str x.Target))] : List Value))) ag31 sz31 (by simp [bytesV_length]) rfl (h24.isBlk.view0)) rfl rfl rfl ?_
          obtain ⟨y__2, hy29, hm⟩ := sp_bind hm
          rcases y__2 with _ | ⟨r3_2, r4_2⟩
          · refine G.does (does_fn 0 rfl rfl rfl en9 h24 (fun U hU hp hr hs => M_roster_Put_v_w (l := out) (i := x) (Rest.view (Rest.front 1 hr)) (Sat.own_cap (Sat.pick [1] h24)).1 hp hy29)) rfl rfl rfl ?_
            rintro _ w30 ⟨U33, hb34, rfl, h32⟩
            have h31 : Sat W w30 [blk b16 (bytesV (List.ofFn (n := 20) x.Publisher) ++ ([(v64 x.Seq), (v64 x.Born), (v32 x.Life), (.bool x.Gone), (v16 x.Priority), (v16 x.Weight), (v16 x.Port), (.string (str x.Target))] : List Value)) 31, ow el_G_api_Instance a_2 c_2 31 out, ow el_G_api_Instance a_3 c_3 31 came] := hb34 h32
            refine G.yl (yl_move rfl) rfl rfl rfl ?_
            refine G.yl (yl_extract rfl rfl) rfl rfl rfl ?_
            refine G.yl (yl_extract rfl rfl) rfl rfl rfl ?_
            refine G.yl (yl_assign rfl) rfl rfl rfl ?_
            refine G.nil ?_
            refine QA.then_normal ?_
            refine C.seq ?_
            refine C.region ?_
            refine G.yl (yl_move rfl) rfl rfl rfl ?_
            refine G.yl (yl_loadN (vs := (bytesV (List.ofFn (n := 20) x.Publisher) ++ ([(v64 x.Seq), (v64 x.Born), (v32 x.Life), (.bool x.Gone), (v16 x.Priority), (v16 x.Weight), (v16 x.Port), (.string (str x.Target))] : List Value))) ag31 sz31 (by simp [bytesV_length]) rfl (h31.isBlk.view0)) rfl rfl rfl ?_
            refine G.does (does_lit (E := el_G_api_Instance) (l := [x]) (vs := [(.agg (bytesV (List.ofFn (n := 20) x.Publisher) ++ ([(v64 x.Seq), (v64 x.Born), (v32 x.Life), (.bool x.Gone), (v16 x.Priority), (v16 x.Weight), (v16 x.Port), (.string (str x.Target))] : List Value)).toArray)]) (cs := (bytesV (List.ofFn (n := 20) x.Publisher) ++ ([(v64 x.Seq), (v64 x.Born), (v32 x.Life), (.bool x.Gone), (v16 x.Priority), (v16 x.Weight), (v16 x.Port), (.string (str x.Target))] : List Value))) (e := 31) h31 rfl (by kernel_rfl) rfl rfl (by decide)) rfl rfl rfl ?_
            rintro _ w36 ⟨a35, rfl, h37⟩
            obtain ⟨hc38, hm⟩ := sp_chk hm
            refine G.does (does_app (E := el_G_api_Instance) (l := came) (l2 := [x]) Try.underlying22 el31 (Sat.pick [3, 0, 0, 0] h37) rfl rfl rfl rfl (by decide) (Sat.own_view h37) hc38 (by decide)) rfl rfl rfl ?_
            rintro _ w41 ⟨a39, c40, rfl, h42⟩
            refine G.yl (yl_assign rfl) rfl rfl rfl ?_
            refine G.nil ?_
            refine QA.then_normal ?_
            refine C.seq ?_
            refine C.seq ?_
            refine C.region ?_
            refine G.yl (yl_move rfl) rfl rfl rfl ?_
            obtain ⟨r1_4, hy43, hm⟩ := sp_bind hm
            refine G.does (does_fn 0 rfl rfl rfl en10 h42 (fun U hU hp hr hs => M_roster_Good_v_w (l := out) (Rest.view (Rest.front 3 hr)) (Sat.own_cap (Sat.pick [3] h42)).1 hp hy43)) rfl rfl rfl ?_
            rintro _ w44 ⟨U47, hb48, rfl, h46⟩
            have h45 : Sat W w44 [ow el_G_api_Instance a39 c40 31 (came ++ [x]), ow el_G_api_Instance a35 1 31 [x], blk b16 (bytesV (List.ofFn (n := 20) x.Publisher) ++ ([(v64 x.Seq), (v64 x.Born), (v32 x.Life), (.bool x.Gone), (v16 x.Priority), (v16 x.Weight), (v16 x.Port), (.string (str x.Target))] : List Value)) 31, ow el_G_api_Instance a_2 c_2 31 out] := hb48 h46
            refine G.yl (yl_not rfl) rfl rfl rfl ?_
            refine G.nil ?_
            refine QA.then_normal ?_
            rcases sp_b hm with ⟨hc49, hm⟩ | ⟨hc49, hm⟩
            · refine C.cond_f rfl (not_f hc49) ?_
              refine C.skip ?_
              refine QA.then_normal ?_
              refine C.seq ?_
              refine C.seq ?_
              refine C.region ?_
              refine G.yl (yl_move rfl) rfl rfl rfl ?_
              obtain ⟨r1_5, hy50, hm⟩ := sp_bind hm
              refine G.does (does_fn 0 rfl rfl rfl en11 h45 (fun U hU hp hr hs => M_signpostlaw12_publishers_v_w (l := came ++ [x]) (Rest.view hr) (Sat.own_cap h45).1 hp hy50)) rfl rfl rfl ?_
              rintro _ w51 ⟨U54, hb55, rfl, h53⟩
              have h52 : Sat W w51 [ow el_G_api_Instance a39 c40 31 (came ++ [x]), ow el_G_api_Instance a35 1 31 [x], blk b16 (bytesV (List.ofFn (n := 20) x.Publisher) ++ ([(v64 x.Seq), (v64 x.Born), (v32 x.Life), (.bool x.Gone), (v16 x.Priority), (v16 x.Weight), (v16 x.Port), (.string (str x.Target))] : List Value)) 31, ow el_G_api_Instance a_2 c_2 31 out] := hb55 h53
              refine G.yl (yl_gtI rfl rfl) rfl rfl rfl ?_
              refine G.nil ?_
              refine QA.then_normal ?_
              rcases sp_ite hm with ⟨hc56, hm⟩ | ⟨hc56, hm⟩
              · refine C.cond_t rfl (dec_t hc56) ?_
                refine C.exit ?_
                refine QA.then_exit ?_
                refine QA.block_here ?_
                refine QA.then_normal ?_
                refine C.region ?_
                obtain ⟨hc57, hm⟩ := sp_chk hm
                refine G.yl (yl_addI rfl rfl hc57) rfl rfl rfl ?_
                refine G.yl (yl_move rfl) rfl rfl rfl ?_
                refine G.nil ?_
                obtain rfl := sp_ret1 hm
                exact QA.againO (a_2, c_2, out, a39, c40, came ++ [x], t20 + 1) hg13 (Sub.of ⟨rfl, rfl, rfl, rfl, rfl, rfl, trivial⟩) (Sat.pick [3, 0] h52)
              · refine C.cond_f rfl (dec_f hc56) ?_
                refine C.skip ?_
                refine QA.then_normal ?_
                refine C.seq ?_
                refine C.region ?_
                refine G.yl (yl_move rfl) rfl rfl rfl ?_
                refine G.yl (yl_lenE Try.underlying22 rfl) rfl rfl rfl ?_
                refine G.yl (yl_move rfl) rfl rfl rfl ?_
                refine G.nil ?_
                refine QA.then_normal ?_
                refine C.block ?_
                obtain ⟨o_2, ho58, hm59⟩ := sp_bind hm
                refine C.left (γ := Unit) (.exit 2) (fun g => match g with | () => [(2, (.bool false)), (3, (.slice a_2 out.length c_2)), (4, (.slice a39 ((came ++ [x]).length) c40)), (18, (.slice a l.length c)), (19, (vI (l.length : Int))), (20, (vI t20))]) (fun g ww => match g with | () => .inl () = o_2 ∧ Sat W ww [ow el_G_api_Instance a_2 c_2 31 out, ow el_G_api_Instance a39 c40 31 (came ++ [x])]) ?_ ?_
                · refine C.loopO (γ := Int) (fun g => match g with | t46 => [(2, (.bool false)), (3, (.slice a_2 out.length c_2)), (4, (.slice a39 ((came ++ [x]).length) c40)), (18, (.slice a l.length c)), (19, (vI (l.length : Int))), (20, (vI t20)), (44, (.slice a39 ((came ++ [x]).length) c40)), (45, (vI ((came ++ [x]).length : Int))), (46, (vI t46))]) (fun g ww => match g with | t46 => Sat W ww [ow el_G_api_Instance a_2 c_2 31 out, ow el_G_api_Instance a39 c40 31 (came ++ [x])]) (fun g => match g with | t46 => t46) 0 ho58 (Sub.of ⟨rfl, rfl, rfl, rfl, rfl, rfl, rfl, rfl, rfl, trivial⟩) (Sat.pick [3, 0] h52) ?_
                  rintro t46 k62 w60 y__3 h61 hm hg63
                  show C _ _ _ [(2, (.bool false)), (3, (.slice a_2 out.length c_2)), (4, (.slice a39 ((came ++ [x]).length) c40)), (18, (.slice a l.length c)), (19, (vI (l.length : Int))), (20, (vI t20)), (44, (.slice a39 ((came ++ [x]).length) c40)), (45, (vI ((came ++ [x]).length : Int))), (46, (vI t46))] _ _
                  change M_signpostlaw12_RosterNewest_v_b2 came out x t46 = some y__3 at hm
                  unfold M_signpostlaw12_RosterNewest_v_b2 at hm
                  refine C.seq ?_
                  refine C.region ?_
                  refine G.yl (yl_ltI rfl rfl) rfl rfl rfl ?_
                  refine G.nil ?_
                  refine QA.then_normal ?_
                  refine C.seq ?_
                  rcases sp_ite hm with ⟨hc64, hm⟩ | ⟨hc64, hm⟩
                  · refine C.cond_t rfl (dec_t hc64) ?_
                    refine C.skip ?_
                    refine QA.then_normal ?_
                    refine C.seq ?_
                    refine C.block ?_
                    refine C.seq ?_
                    refine C.region ?_
                    obtain ⟨x_2, hy65, hm⟩ := sp_bind hm
                    refine G.yl (yl_ixP (l := came ++ [x]) sl22 rfl rfl (View.isA (E := el_G_api_Instance) (Sat.own_view (Sat.pick [1] h61)) (by decide) (at?_lt hy65)) rfl (at?_lt hy65)) rfl rfl rfl ?_
                    refine G.yl (yl_ldE (E := el_G_api_Instance) ag31 sz31 rfl (Sat.own_view (Sat.pick [1] h61)) (at?_some hy65).2) rfl rfl rfl ?_
                    refine G.does (does_alloc (cs := (bytesV (List.ofFn (n := 20) (fun _ => 0)) ++ ([(.int .u64 0), (.int .u64 0), (.int .u32 0), (.bool false), (.int .u16 0), (.int .u16 0), (.int .u16 0), (.string (str ([] : List UInt8)))] : List Value))) h61 z31 rfl) rfl rfl rfl ?_
                    rintro _ w67 ⟨b66, rfl, h68⟩
                    refine G.unit (does_store (vs := (bytesV (List.ofFn (n := 20) x_2.Publisher) ++ ([(v64 x_2.Seq), (v64 x_2.Born), (v32 x_2.Life), (.bool x_2.Gone), (v16 x_2.Priority), (v16 x_2.Weight), (v16 x_2.Port), (.string (str x_2.Target))] : List Value))) h68 sz31 rfl rfl rfl (by simp [bytesV_length]) (List.forall_mem_append.2 ⟨(bytesV_one _), (List.forall_mem_cons.2 ⟨rfl, (List.forall_mem_cons.2 ⟨rfl, (List.forall_mem_cons.2 ⟨rfl, (List.forall_mem_cons.2 ⟨rfl, (List.forall_mem_cons.2 ⟨rfl, (List.forall_mem_cons.2 ⟨rfl, (List.forall_mem_cons.2 ⟨rfl, (List.forall_mem_cons.2 ⟨rfl, (fun _ hh => by cases hh)⟩)⟩)⟩)⟩)⟩)⟩)⟩)⟩)⟩) (by simp [bytesV_length])) rfl rfl ?_
                    rintro _ w69 h71
                    have h70 : Sat W w69 [blk b66 (bytesV (List.ofFn (n := 20) x_2.Publisher) ++ ([(v64 x_2.Seq), (v64 x_2.Born), (v32 x_2.Life), (.bool x_2.Gone), (v16 x_2.Priority), (v16 x_2.Weight), (v16 x_2.Port), (.string (str x_2.Target))] : List Value)) 31, ow el_G_api_Instance a_2 c_2 31 out, ow el_G_api_Instance a39 c40 31 (came ++ [x])] := sl_blk (setN_all _ _ (by simp [bytesV_length])) h71
                    refine G.nil ?_
                    refine QA.then_normal ?_
                    refine C.seq ?_
                    refine C.region ?_
                    refine G.yl (yl_loadN (vs := (bytesV (List.ofFn (n := 20) x_2.Publisher) ++ ([(v64 x_2.Seq), (v64 x_2.Born), (v32 x_2.Life), (.bool x_2.Gone), (v16 x_2.Priority), (v16 x_2.Weight), (v16 x_2.Port), (.string (str x_2.Target))] : List Value))) ag31 sz31 (by simp [bytesV_length]) rfl (h70.isBlk.view0)) rfl rfl rfl ?_
                    refine G.does (does_alloc (cs := (bytesV (List.ofFn (n := 20) (fun _ => 0)) ++ ([(.int .u64 0), (.int .u64 0), (.int .u32 0), (.bool false), (.int .u16 0), (.int .u16 0), (.int .u16 0), (.string (str ([] : List UInt8)))] : List Value))) h70 z31 rfl) rfl rfl rfl ?_
                    rintro _ w73 ⟨b72, rfl, h74⟩
                    refine G.unit (does_store (vs := (bytesV (List.ofFn (n := 20) x_2.Publisher) ++ ([(v64 x_2.Seq), (v64 x_2.Born), (v32 x_2.Life), (.bool x_2.Gone), (v16 x_2.Priority), (v16 x_2.Weight), (v16 x_2.Port), (.string (str x_2.Target))] : List Value))) h74 sz31 rfl rfl rfl (by simp [bytesV_length]) (List.forall_mem_append.2 ⟨(bytesV_one _), (List.forall_mem_cons.2 ⟨rfl, (List.forall_mem_cons.2 ⟨rfl, (List.forall_mem_cons.2 ⟨rfl, (List.forall_mem_cons.2 ⟨rfl, (List.forall_mem_cons.2 ⟨rfl, (List.forall_mem_cons.2 ⟨rfl, (List.forall_mem_cons.2 ⟨rfl, (List.forall_mem_cons.2 ⟨rfl, (fun _ hh => by cases hh)⟩)⟩)⟩)⟩)⟩)⟩)⟩)⟩)⟩) (by simp [bytesV_length])) rfl rfl ?_
                    rintro _ w75 h77
                    have h76 : Sat W w75 [blk b72 (bytesV (List.ofFn (n := 20) x_2.Publisher) ++ ([(v64 x_2.Seq), (v64 x_2.Born), (v32 x_2.Life), (.bool x_2.Gone), (v16 x_2.Priority), (v16 x_2.Weight), (v16 x_2.Port), (.string (str x_2.Target))] : List Value)) 31, blk b66 (bytesV (List.ofFn (n := 20) x_2.Publisher) ++ ([(v64 x_2.Seq), (v64 x_2.Born), (v32 x_2.Life), (.bool x_2.Gone), (v16 x_2.Priority), (v16 x_2.Weight), (v16 x_2.Port), (.string (str x_2.Target))] : List Value)) 31, ow el_G_api_Instance a_2 c_2 31 out, ow el_G_api_Instance a39 c40 31 (came ++ [x])] := sl_blk (setN_all _ _ (by simp [bytesV_length])) h77
                    refine G.nil ?_
                    refine QA.then_normal ?_
                    refine C.seq ?_
                    refine C.seq ?_
                    refine C.region ?_
                    refine G.yl (yl_move rfl) rfl rfl rfl ?_
                    refine G.yl (yl_lenE Try.underlying22 rfl) rfl rfl rfl ?_
                    refine G.yl (yl_move rfl) rfl rfl rfl ?_
                    refine G.nil ?_
                    refine QA.then_normal ?_
                    refine C.block ?_
                    obtain ⟨o_3, ho78, hm79⟩ := sp_bind hm
                    refine C.left (γ := G_api_Instance) (.exit 4) (fun g => match g with | newest_2 => [(2, (.bool false)), (3, (.slice a_2 out.length c_2)), (4, (.slice a39 ((came ++ [x]).length) c40)), (8, (.pointer (some ⟨b66, 0, none⟩))), (9, (.pointer (some ⟨b72, 0, none⟩))), (18, (.slice a l.length c)), (19, (vI (l.length : Int))), (20, (vI t20)), (44, (.slice a39 ((came ++ [x]).length) c40)), (45, (vI ((came ++ [x]).length : Int))), (46, (vI t46))]) (fun g ww => match g with | newest_2 => newest_2 = o_3 ∧ Sat W ww [ow el_G_api_Instance a_2 c_2 31 out, ow el_G_api_Instance a39 c40 31 (came ++ [x]), blk b66 (bytesV (List.ofFn (n := 20) x_2.Publisher) ++ ([(v64 x_2.Seq), (v64 x_2.Born), (v32 x_2.Life), (.bool x_2.Gone), (v16 x_2.Priority), (v16 x_2.Weight), (v16 x_2.Port), (.string (str x_2.Target))] : List Value)) 31, blk b72 (bytesV (List.ofFn (n := 20) newest_2.Publisher) ++ ([(v64 newest_2.Seq), (v64 newest_2.Born), (v32 newest_2.Life), (.bool newest_2.Gone), (v16 newest_2.Priority), (v16 newest_2.Weight), (v16 newest_2.Port), (.string (str newest_2.Target))] : List Value)) 31]) ?_ ?_
                    · refine C.loopO (γ := G_api_Instance × Int) (fun g => match g with | (newest, t53) => [(2, (.bool false)), (3, (.slice a_2 out.length c_2)), (4, (.slice a39 ((came ++ [x]).length) c40)), (8, (.pointer (some ⟨b66, 0, none⟩))), (9, (.pointer (some ⟨b72, 0, none⟩))), (18, (.slice a l.length c)), (19, (vI (l.length : Int))), (20, (vI t20)), (44, (.slice a39 ((came ++ [x]).length) c40)), (45, (vI ((came ++ [x]).length : Int))), (46, (vI t46)), (51, (.slice a39 ((came ++ [x]).length) c40)), (52, (vI ((came ++ [x]).length : Int))), (53, (vI t53))]) (fun g ww => match g with | (newest, t53) => Sat W ww [ow el_G_api_Instance a_2 c_2 31 out, ow el_G_api_Instance a39 c40 31 (came ++ [x]), blk b66 (bytesV (List.ofFn (n := 20) x_2.Publisher) ++ ([(v64 x_2.Seq), (v64 x_2.Born), (v32 x_2.Life), (.bool x_2.Gone), (v16 x_2.Priority), (v16 x_2.Weight), (v16 x_2.Port), (.string (str x_2.Target))] : List Value)) 31, blk b72 (bytesV (List.ofFn (n := 20) newest.Publisher) ++ ([(v64 newest.Seq), (v64 newest.Born), (v32 newest.Life), (.bool newest.Gone), (v16 newest.Priority), (v16 newest.Weight), (v16 newest.Port), (.string (str newest.Target))] : List Value)) 31]) (fun g => match g with | (newest, t53) => (newest, t53)) (x_2, 0) ho78 (Sub.of ⟨rfl, rfl, rfl, rfl, rfl, rfl, rfl, rfl, rfl, rfl, rfl, rfl, rfl, rfl, trivial⟩) (Sat.pick [2, 2, 1, 0] h76) ?_
                      rintro ⟨newest, t53⟩ k82 w80 y__4 h81 hm hg83
                      show C _ _ _ [(2, (.bool false)), (3, (.slice a_2 out.length c_2)), (4, (.slice a39 ((came ++ [x]).length) c40)), (8, (.pointer (some ⟨b66, 0, none⟩))), (9, (.pointer (some ⟨b72, 0, none⟩))), (18, (.slice a l.length c)), (19, (vI (l.length : Int))), (20, (vI t20)), (44, (.slice a39 ((came ++ [x]).length) c40)), (45, (vI ((came ++ [x]).length : Int))), (46, (vI t46)), (51, (.slice a39 ((came ++ [x]).length) c40)), (52, (vI ((came ++ [x]).length : Int))), (53, (vI t53))] _ _
                      change M_signpostlaw12_RosterNewest_v_b3 came x x_2 newest t53 = some y__4 at hm
                      unfold M_signpostlaw12_RosterNewest_v_b3 at hm
                      refine C.seq ?_
                      refine C.region ?_
                      refine G.yl (yl_ltI rfl rfl) rfl rfl rfl ?_
                      refine G.nil ?_
                      refine QA.then_normal ?_
                      refine C.seq ?_
                      rcases sp_ite hm with ⟨hc84, hm⟩ | ⟨hc84, hm⟩
                      · refine C.cond_t rfl (dec_t hc84) ?_
                        refine C.skip ?_
                        refine QA.then_normal ?_
                        refine C.join (γ := G_api_Instance) (fun g => match g with | newest_3 => [(2, (.bool false)), (3, (.slice a_2 out.length c_2)), (4, (.slice a39 ((came ++ [x]).length) c40)), (8, (.pointer (some ⟨b66, 0, none⟩))), (9, (.pointer (some ⟨b72, 0, none⟩))), (18, (.slice a l.length c)), (19, (vI (l.length : Int))), (20, (vI t20)), (44, (.slice a39 ((came ++ [x]).length) c40)), (45, (vI ((came ++ [x]).length : Int))), (46, (vI t46)), (51, (.slice a39 ((came ++ [x]).length) c40)), (52, (vI ((came ++ [x]).length : Int))), (53, (vI t53))]) (fun g ww => match g with | newest_3 => (M_signpostlaw12_RosterNewest_v_k4 t53 newest_3 = some y__4) ∧ Sat W ww [ow el_G_api_Instance a_2 c_2 31 out, ow el_G_api_Instance a39 c40 31 (came ++ [x]), blk b66 (bytesV (List.ofFn (n := 20) x_2.Publisher) ++ ([(v64 x_2.Seq), (v64 x_2.Born), (v32 x_2.Life), (.bool x_2.Gone), (v16 x_2.Priority), (v16 x_2.Weight), (v16 x_2.Port), (.string (str x_2.Target))] : List Value)) 31, blk b72 (bytesV (List.ofFn (n := 20) newest_3.Publisher) ++ ([(v64 newest_3.Seq), (v64 newest_3.Born), (v32 newest_3.Life), (.bool newest_3.Gone), (v16 newest_3.Priority), (v16 newest_3.Weight), (v16 newest_3.Port), (.string (str newest_3.Target))] : List Value)) 31]) ?_ ?_
                        · refine C.block ?_
                          refine C.seq ?_
                          refine C.region ?_
                          obtain ⟨x_3, hy85, hm⟩ := sp_bind hm
                          refine G.yl (yl_ixP (l := came ++ [x]) sl22 rfl rfl (View.isA (E := el_G_api_Instance) (Sat.own_view (Sat.pick [1] h81)) (by decide) (at?_lt hy85)) rfl (at?_lt hy85)) rfl rfl rfl ?_
                          refine G.yl (yl_ldE (E := el_G_api_Instance) ag31 sz31 rfl (Sat.own_view (Sat.pick [1] h81)) (at?_some hy85).2) rfl rfl rfl ?_
                          refine G.does (does_alloc (cs := (bytesV (List.ofFn (n := 20) (fun _ => 0)) ++ ([(.int .u64 0), (.int .u64 0), (.int .u32 0), (.bool false), (.int .u16 0), (.int .u16 0), (.int .u16 0), (.string (str ([] : List UInt8)))] : List Value))) h81 z31 rfl) rfl rfl rfl ?_
                          rintro _ w87 ⟨b86, rfl, h88⟩
                          refine G.unit (does_store (vs := (bytesV (List.ofFn (n := 20) x_3.Publisher) ++ ([(v64 x_3.Seq), (v64 x_3.Born), (v32 x_3.Life), (.bool x_3.Gone), (v16 x_3.Priority), (v16 x_3.Weight), (v16 x_3.Port), (.string (str x_3.Target))] : List Value))) h88 sz31 rfl rfl rfl (by simp [bytesV_length]) (List.forall_mem_append.2 ⟨(bytesV_one _), (List.forall_mem_cons.2 ⟨rfl, (List.forall_mem_cons.2 ⟨rfl, (List.forall_mem_cons.2 ⟨rfl, (List.forall_mem_cons.2 ⟨rfl, (List.forall_mem_cons.2 ⟨rfl, (List.forall_mem_cons.2 ⟨rfl, (List.forall_mem_cons.2 ⟨rfl, (List.forall_mem_cons.2 ⟨rfl, (fun _ hh => by cases hh)⟩)⟩)⟩)⟩)⟩)⟩)⟩)⟩)⟩) (by simp [bytesV_length])) rfl rfl ?_
                          rintro _ w89 h91
                          have h90 : Sat W w89 [blk b86 (bytesV (List.ofFn (n := 20) x_3.Publisher) ++ ([(v64 x_3.Seq), (v64 x_3.Born), (v32 x_3.Life), (.bool x_3.Gone), (v16 x_3.Priority), (v16 x_3.Weight), (v16 x_3.Port), (.string (str x_3.Target))] : List Value)) 31, ow el_G_api_Instance a_2 c_2 31 out, ow el_G_api_Instance a39 c40 31 (came ++ [x]), blk b66 (bytesV (List.ofFn (n := 20) x_2.Publisher) ++ ([(v64 x_2.Seq), (v64 x_2.Born), (v32 x_2.Life), (.bool x_2.Gone), (v16 x_2.Priority), (v16 x_2.Weight), (v16 x_2.Port), (.string (str x_2.Target))] : List Value)) 31, blk b72 (bytesV (List.ofFn (n := 20) newest.Publisher) ++ ([(v64 newest.Seq), (v64 newest.Born), (v32 newest.Life), (.bool newest.Gone), (v16 newest.Priority), (v16 newest.Weight), (v16 newest.Port), (.string (str newest.Target))] : List Value)) 31] := sl_blk (setN_all _ _ (by simp [bytesV_length])) h91
                          refine G.nil ?_
                          refine QA.then_normal ?_
                          refine C.join (γ := Bool) (fun g => match g with | t67 => [(2, (.bool false)), (3, (.slice a_2 out.length c_2)), (4, (.slice a39 ((came ++ [x]).length) c40)), (8, (.pointer (some ⟨b66, 0, none⟩))), (9, (.pointer (some ⟨b72, 0, none⟩))), (11, (.pointer (some ⟨b86, 0, none⟩))), (18, (.slice a l.length c)), (19, (vI (l.length : Int))), (20, (vI t20)), (44, (.slice a39 ((came ++ [x]).length) c40)), (45, (vI ((came ++ [x]).length : Int))), (46, (vI t46)), (51, (.slice a39 ((came ++ [x]).length) c40)), (52, (vI ((came ++ [x]).length : Int))), (53, (vI t53)), (67, (.bool t67))]) (fun g ww => match g with | t67 => (M_signpostlaw12_RosterNewest_v_k5 newest t53 x_3 t67 = some y__4) ∧ Sat W ww [ow el_G_api_Instance a_2 c_2 31 out, ow el_G_api_Instance a39 c40 31 (came ++ [x]), blk b66 (bytesV (List.ofFn (n := 20) x_2.Publisher) ++ ([(v64 x_2.Seq), (v64 x_2.Born), (v32 x_2.Life), (.bool x_2.Gone), (v16 x_2.Priority), (v16 x_2.Weight), (v16 x_2.Port), (.string (str x_2.Target))] : List Value)) 31, blk b72 (bytesV (List.ofFn (n := 20) newest.Publisher) ++ ([(v64 newest.Seq), (v64 newest.Born), (v32 newest.Life), (.bool newest.Gone), (v16 newest.Priority), (v16 newest.Weight), (v16 newest.Port), (.string (str newest.Target))] : List Value)) 31, blk b86 (bytesV (List.ofFn (n := 20) x_3.Publisher) ++ ([(v64 x_3.Seq), (v64 x_3.Born), (v32 x_3.Life), (.bool x_3.Gone), (v16 x_3.Priority), (v16 x_3.Weight), (v16 x_3.Port), (.string (str x_3.Target))] : List Value)) 31]) ?_ ?_
                          · refine C.region ?_
                            refine G.yl (yl_fieldAddr fo31_0 rfl) rfl rfl rfl ?_
                            refine G.yl (yl_loadN (vs := (bytesV (List.ofFn (n := 20) x_3.Publisher))) ag26 sz26 (by simp [bytesV_length]) rfl (View.span_head h90.isBlk.view0)) rfl rfl rfl ?_
                            refine G.yl (yl_fieldAddr fo31_0 rfl) rfl rfl rfl ?_
                            refine G.yl (yl_loadN (vs := (bytesV (List.ofFn (n := 20) x_2.Publisher))) ag26 sz26 (by simp [bytesV_length]) rfl (View.span_head (Sat.pick [3] h90).isBlk.view0)) rfl rfl rfl ?_
                            refine G.yl (yl_eq_agg (r := decide (x_3.Publisher = x_2.Publisher)) (vs := (bytesV (List.ofFn x_3.Publisher))) (us := (bytesV (List.ofFn x_2.Publisher))) rfl rfl (by rw [decide_eq_true_eq]; exact arr_inj) eqT26.1 eqT26.2.1 eqT26.2.2.1 eqT26.2.2.2.1 eqT26.2.2.2.2 (fits_span _) (fits_span _)) rfl rfl rfl ?_
                            refine G.yl (yl_move rfl) rfl rfl rfl ?_
                            rcases sp_ite hm with ⟨hc92, hm⟩ | ⟨hc92, hm⟩
                            · refine G.on rfl rfl (dec_t hc92) ?_
                              refine G.yl (yl_loadN (vs := (bytesV (List.ofFn (n := 20) x_3.Publisher) ++ ([(v64 x_3.Seq), (v64 x_3.Born), (v32 x_3.Life), (.bool x_3.Gone), (v16 x_3.Priority), (v16 x_3.Weight), (v16 x_3.Port), (.string (str x_3.Target))] : List Value))) ag31 sz31 (by simp [bytesV_length]) rfl (h90.isBlk.view0)) rfl rfl rfl ?_
                              refine G.on rfl rfl (dec_t hc92) ?_
                              refine G.yl (yl_loadN (vs := (bytesV (List.ofFn (n := 20) newest.Publisher) ++ ([(v64 newest.Seq), (v64 newest.Born), (v32 newest.Life), (.bool newest.Gone), (v16 newest.Priority), (v16 newest.Weight), (v16 newest.Port), (.string (str newest.Target))] : List Value))) ag31 sz31 (by simp [bytesV_length]) rfl ((Sat.pick [4] h90).isBlk.view0)) rfl rfl rfl ?_
                              refine G.on rfl rfl (dec_t hc92) ?_
                              obtain ⟨r1_6, hy93, hm⟩ := sp_bind hm
                              refine G.does (does_fn 0 rfl rfl rfl en12 h90 (fun U hU hp hr hs => M_inst_Cmp_w (a := x_3) (b := newest) hp hy93)) rfl rfl rfl ?_
                              rintro _ w94 ⟨U97, hb98, rfl, h96⟩
                              have h95 : Sat W w94 [blk b86 (bytesV (List.ofFn (n := 20) x_3.Publisher) ++ ([(v64 x_3.Seq), (v64 x_3.Born), (v32 x_3.Life), (.bool x_3.Gone), (v16 x_3.Priority), (v16 x_3.Weight), (v16 x_3.Port), (.string (str x_3.Target))] : List Value)) 31, ow el_G_api_Instance a_2 c_2 31 out, ow el_G_api_Instance a39 c40 31 (came ++ [x]), blk b66 (bytesV (List.ofFn (n := 20) x_2.Publisher) ++ ([(v64 x_2.Seq), (v64 x_2.Born), (v32 x_2.Life), (.bool x_2.Gone), (v16 x_2.Priority), (v16 x_2.Weight), (v16 x_2.Port), (.string (str x_2.Target))] : List Value)) 31, blk b72 (bytesV (List.ofFn (n := 20) newest.Publisher) ++ ([(v64 newest.Seq), (v64 newest.Born), (v32 newest.Life), (.bool newest.Gone), (v16 newest.Priority), (v16 newest.Weight), (v16 newest.Port), (.string (str newest.Target))] : List Value)) 31] := hb98 h96
                              refine G.on rfl rfl (dec_t hc92) ?_
                              refine G.yl (yl_gtI rfl rfl) rfl rfl rfl ?_
                              refine G.yl (yl_pick_t rfl (dec_t hc92) rfl) rfl rfl rfl ?_
                              refine G.nil ?_
                              exact QA.join (decide ((0 : Int) < r1_6)) (Sub.of ⟨rfl, rfl, rfl, rfl, rfl, rfl, rfl, rfl, rfl, rfl, rfl, rfl, rfl, rfl, rfl, rfl, trivial⟩) ⟨hm, (Sat.pick [1, 1, 1, 1, 0] h95)⟩
                            · refine G.offU rfl rfl (dec_f hc92) rfl ?_
                              refine G.offU rfl rfl (dec_f hc92) rfl ?_
                              refine G.offU rfl rfl (dec_f hc92) rfl ?_
                              refine G.offU rfl rfl (dec_f hc92) rfl ?_
                              refine G.yl (yl_pick_f rfl (dec_f hc92) rfl) rfl rfl rfl ?_
                              refine G.nil ?_
                              exact QA.join false (Sub.of ⟨rfl, rfl, rfl, rfl, rfl, rfl, rfl, rfl, rfl, rfl, rfl, rfl, rfl, rfl, rfl, rfl, trivial⟩) ⟨hm, (Sat.pick [1, 1, 1, 1, 0] h90)⟩
                          · rintro t67 w99 ⟨hm, h100⟩
                            show C _ _ _ [(2, (.bool false)), (3, (.slice a_2 out.length c_2)), (4, (.slice a39 ((came ++ [x]).length) c40)), (8, (.pointer (some ⟨b66, 0, none⟩))), (9, (.pointer (some ⟨b72, 0, none⟩))), (11, (.pointer (some ⟨b86, 0, none⟩))), (18, (.slice a l.length c)), (19, (vI (l.length : Int))), (20, (vI t20)), (44, (.slice a39 ((came ++ [x]).length) c40)), (45, (vI ((came ++ [x]).length : Int))), (46, (vI t46)), (51, (.slice a39 ((came ++ [x]).length) c40)), (52, (vI ((came ++ [x]).length : Int))), (53, (vI t53)), (67, (.bool t67))] _ _
                            unfold M_signpostlaw12_RosterNewest_v_k5 at hm
                            rcases sp_b hm with ⟨hc101, hm⟩ | ⟨hc101, hm⟩
                            · refine C.cond_t rfl hc101 ?_
                              refine C.region ?_
                              refine G.yl (yl_loadN (vs := (bytesV (List.ofFn (n := 20) x_3.Publisher) ++ ([(v64 x_3.Seq), (v64 x_3.Born), (v32 x_3.Life), (.bool x_3.Gone), (v16 x_3.Priority), (v16 x_3.Weight), (v16 x_3.Port), (.string (str x_3.Target))] : List Value))) ag31 sz31 (by simp [bytesV_length]) rfl ((Sat.pick [4] h100).isBlk.view0)) rfl rfl rfl ?_
                              refine G.unit (does_store (vs := (bytesV (List.ofFn (n := 20) x_3.Publisher) ++ ([(v64 x_3.Seq), (v64 x_3.Born), (v32 x_3.Life), (.bool x_3.Gone), (v16 x_3.Priority), (v16 x_3.Weight), (v16 x_3.Port), (.string (str x_3.Target))] : List Value))) (Sat.pick [3, 0, 0, 0, 0] h100) sz31 rfl rfl rfl (by simp [bytesV_length]) (List.forall_mem_append.2 ⟨(bytesV_one _), (List.forall_mem_cons.2 ⟨rfl, (List.forall_mem_cons.2 ⟨rfl, (List.forall_mem_cons.2 ⟨rfl, (List.forall_mem_cons.2 ⟨rfl, (List.forall_mem_cons.2 ⟨rfl, (List.forall_mem_cons.2 ⟨rfl, (List.forall_mem_cons.2 ⟨rfl, (List.forall_mem_cons.2 ⟨rfl, (fun _ hh => by cases hh)⟩)⟩)⟩)⟩)⟩)⟩)⟩)⟩)⟩) (by simp [bytesV_length])) rfl rfl ?_
                              rintro _ w102 h104
                              have h103 : Sat W w102 [blk b72 (bytesV (List.ofFn (n := 20) x_3.Publisher) ++ ([(v64 x_3.Seq), (v64 x_3.Born), (v32 x_3.Life), (.bool x_3.Gone), (v16 x_3.Priority), (v16 x_3.Weight), (v16 x_3.Port), (.string (str x_3.Target))] : List Value)) 31, ow el_G_api_Instance a_2 c_2 31 out, ow el_G_api_Instance a39 c40 31 (came ++ [x]), blk b66 (bytesV (List.ofFn (n := 20) x_2.Publisher) ++ ([(v64 x_2.Seq), (v64 x_2.Born), (v32 x_2.Life), (.bool x_2.Gone), (v16 x_2.Priority), (v16 x_2.Weight), (v16 x_2.Port), (.string (str x_2.Target))] : List Value)) 31, blk b86 (bytesV (List.ofFn (n := 20) x_3.Publisher) ++ ([(v64 x_3.Seq), (v64 x_3.Born), (v32 x_3.Life), (.bool x_3.Gone), (v16 x_3.Priority), (v16 x_3.Weight), (v16 x_3.Port), (.string (str x_3.Target))] : List Value)) 31] := sl_blk (setN_all _ _ (by simp [bytesV_length])) h104
                              refine G.nil ?_
                              refine QA.block_normal ?_
                              exact QA.join x_3 (Sub.of ⟨rfl, rfl, rfl, rfl, rfl, rfl, rfl, rfl, rfl, rfl, rfl, rfl, rfl, rfl, trivial⟩) ⟨hm, (Sat.pick [1, 1, 1, 0] h103)⟩
                            · refine C.cond_f rfl hc101 ?_
                              refine C.skip ?_
                              refine QA.block_normal ?_
                              exact QA.join newest (Sub.of ⟨rfl, rfl, rfl, rfl, rfl, rfl, rfl, rfl, rfl, rfl, rfl, rfl, rfl, rfl, trivial⟩) ⟨hm, (Sat.pick [0, 0, 0, 0] h100)⟩
                        · rintro newest_3 w105 ⟨hm, h106⟩
                          show C _ _ _ [(2, (.bool false)), (3, (.slice a_2 out.length c_2)), (4, (.slice a39 ((came ++ [x]).length) c40)), (8, (.pointer (some ⟨b66, 0, none⟩))), (9, (.pointer (some ⟨b72, 0, none⟩))), (18, (.slice a l.length c)), (19, (vI (l.length : Int))), (20, (vI t20)), (44, (.slice a39 ((came ++ [x]).length) c40)), (45, (vI ((came ++ [x]).length : Int))), (46, (vI t46)), (51, (.slice a39 ((came ++ [x]).length) c40)), (52, (vI ((came ++ [x]).length : Int))), (53, (vI t53))] _ _
                          unfold M_signpostlaw12_RosterNewest_v_k4 at hm
                          refine C.region ?_
                          obtain ⟨hc107, hm⟩ := sp_chk hm
                          refine G.yl (yl_addI rfl rfl hc107) rfl rfl rfl ?_
                          refine G.yl (yl_move rfl) rfl rfl rfl ?_
                          refine G.nil ?_
                          obtain rfl := sp_ret1 hm
                          exact QA.againO (newest_3, t53 + 1) hg83 (Sub.of ⟨rfl, rfl, rfl, rfl, rfl, rfl, rfl, rfl, rfl, rfl, rfl, rfl, rfl, rfl, trivial⟩) (Sat.pick [0, 0, 0, 0] h106)
                      · refine C.cond_f rfl (dec_f hc84) ?_
                        refine C.exit ?_
                        refine QA.then_exit ?_
                        refine QA.then_exit ?_
                        obtain rfl := sp_ret1 hm
                        exact QA.left newest (Sub.of ⟨rfl, rfl, rfl, rfl, rfl, rfl, rfl, rfl, rfl, rfl, rfl, trivial⟩) ⟨hg83, (Sat.pick [0, 0, 0, 0] h81)⟩
                    · rintro newest_2 w108 ⟨rfl, h109⟩
                      have hm := hm79
                      show QA _ _ [(2, (.bool false)), (3, (.slice a_2 out.length c_2)), (4, (.slice a39 ((came ++ [x]).length) c40)), (8, (.pointer (some ⟨b66, 0, none⟩))), (9, (.pointer (some ⟨b72, 0, none⟩))), (18, (.slice a l.length c)), (19, (vI (l.length : Int))), (20, (vI t20)), (44, (.slice a39 ((came ++ [x]).length) c40)), (45, (vI ((came ++ [x]).length : Int))), (46, (vI t46))] _ _
                      refine QA.block_here ?_
                      refine QA.then_normal ?_
                      refine C.seq ?_
                      refine C.region ?_
                      refine G.yl (yl_move rfl) rfl rfl rfl ?_
                      refine G.yl (yl_fieldAddr fo31_0 rfl) rfl rfl rfl ?_
                      refine G.yl (yl_loadN (vs := (bytesV (List.ofFn (n := 20) x_2.Publisher))) ag26 sz26 (by simp [bytesV_length]) rfl (View.span_head (Sat.pick [2] h109).isBlk.view0)) rfl rfl rfl ?_
                      obtain ⟨⟨r1_7, r2_2⟩, hy110, hm⟩ := sp_bind hm
                      refine G.does (does_fn 0 rfl rfl rfl en13 h109 (fun U hU hp hr hs => M_roster_Get_v_w (l := out) (publisher := x_2.Publisher) (Rest.view hr) (Sat.own_cap h109).1 hp hy110)) rfl rfl rfl ?_
                      rintro _ w111 ⟨U114, hb115, rfl, h113⟩
                      have h112 : Sat W w111 [ow el_G_api_Instance a_2 c_2 31 out, ow el_G_api_Instance a39 c40 31 (came ++ [x]), blk b66 (bytesV (List.ofFn (n := 20) x_2.Publisher) ++ ([(v64 x_2.Seq), (v64 x_2.Born), (v32 x_2.Life), (.bool x_2.Gone), (v16 x_2.Priority), (v16 x_2.Weight), (v16 x_2.Port), (.string (str x_2.Target))] : List Value)) 31, blk b72 (bytesV (List.ofFn (n := 20) newest_2.Publisher) ++ ([(v64 newest_2.Seq), (v64 newest_2.Born), (v32 newest_2.Life), (.bool newest_2.Gone), (v16 newest_2.Priority), (v16 newest_2.Weight), (v16 newest_2.Port), (.string (str newest_2.Target))] : List Value)) 31] := hb115 h113
                      refine G.yl (yl_move rfl) rfl rfl rfl ?_
                      refine G.yl (yl_extract rfl rfl) rfl rfl rfl ?_
                      refine G.yl (yl_extract rfl rfl) rfl rfl rfl ?_
                      refine G.does (does_alloc (cs := (bytesV (List.ofFn (n := 20) (fun _ => 0)) ++ ([(.int .u64 0), (.int .u64 0), (.int .u32 0), (.bool false), (.int .u16 0), (.int .u16 0), (.int .u16 0), (.string (str ([] : List UInt8)))] : List Value))) h112 z31 rfl) rfl rfl rfl ?_
                      rintro _ w117 ⟨b116, rfl, h118⟩
                      refine G.unit (does_store (vs := (bytesV (List.ofFn (n := 20) r1_7.Publisher) ++ ([(v64 r1_7.Seq), (v64 r1_7.Born), (v32 r1_7.Life), (.bool r1_7.Gone), (v16 r1_7.Priority), (v16 r1_7.Weight), (v16 r1_7.Port), (.string (str r1_7.Target))] : List Value))) h118 sz31 rfl rfl rfl (by simp [bytesV_length]) (List.forall_mem_append.2 ⟨(bytesV_one _), (List.forall_mem_cons.2 ⟨rfl, (List.forall_mem_cons.2 ⟨rfl, (List.forall_mem_cons.2 ⟨rfl, (List.forall_mem_cons.2 ⟨rfl, (List.forall_mem_cons.2 ⟨rfl, (List.forall_mem_cons.2 ⟨rfl, (List.forall_mem_cons.2 ⟨rfl, (List.forall_mem_cons.2 ⟨rfl, (fun _ hh => by cases hh)⟩)⟩)⟩)⟩)⟩)⟩)⟩)⟩)⟩) (by simp [bytesV_length])) rfl rfl ?_
                      rintro _ w119 h121
                      have h120 : Sat W w119 [blk b116 (bytesV (List.ofFn (n := 20) r1_7.Publisher) ++ ([(v64 r1_7.Seq), (v64 r1_7.Born), (v32 r1_7.Life), (.bool r1_7.Gone), (v16 r1_7.Priority), (v16 r1_7.Weight), (v16 r1_7.Port), (.string (str r1_7.Target))] : List Value)) 31, ow el_G_api_Instance a_2 c_2 31 out, ow el_G_api_Instance a39 c40 31 (came ++ [x]), blk b66 (bytesV (List.ofFn (n := 20) x_2.Publisher) ++ ([(v64 x_2.Seq), (v64 x_2.Born), (v32 x_2.Life), (.bool x_2.Gone), (v16 x_2.Priority), (v16 x_2.Weight), (v16 x_2.Port), (.string (str x_2.Target))] : List Value)) 31, blk b72 (bytesV (List.ofFn (n := 20) newest_2.Publisher) ++ ([(v64 newest_2.Seq), (v64 newest_2.Born), (v32 newest_2.Life), (.bool newest_2.Gone), (v16 newest_2.Priority), (v16 newest_2.Weight), (v16 newest_2.Port), (.string (str newest_2.Target))] : List Value)) 31] := sl_blk (setN_all _ _ (by simp [bytesV_length])) h121
                      refine G.yl (yl_assign rfl) rfl rfl rfl ?_
                      refine G.nil ?_
                      refine QA.then_normal ?_
                      refine C.join (γ := Bool) (fun g => match g with | t83 => [(2, (.bool false)), (3, (.slice a_2 out.length c_2)), (4, (.slice a39 ((came ++ [x]).length) c40)), (18, (.slice a l.length c)), (19, (vI (l.length : Int))), (20, (vI t20)), (44, (.slice a39 ((came ++ [x]).length) c40)), (45, (vI ((came ++ [x]).length : Int))), (46, (vI t46)), (83, (.bool t83))]) (fun g ww => match g with | t83 => (M_signpostlaw12_RosterNewest_v_k6 t46 t83 = some y__3) ∧ Sat W ww [ow el_G_api_Instance a_2 c_2 31 out, ow el_G_api_Instance a39 c40 31 (came ++ [x])]) ?_ ?_
                      · refine C.region ?_
                        refine G.yl (yl_move rfl) rfl rfl rfl ?_
                        refine G.yl (yl_not rfl) rfl rfl rfl ?_
                        refine G.yl (yl_move rfl) rfl rfl rfl ?_
                        rcases sp_b hm with ⟨hc122, hm⟩ | ⟨hc122, hm⟩
                        · refine G.on rfl rfl (not_f hc122) ?_
                          refine G.yl (yl_loadN (vs := (bytesV (List.ofFn (n := 20) r1_7.Publisher) ++ ([(v64 r1_7.Seq), (v64 r1_7.Born), (v32 r1_7.Life), (.bool r1_7.Gone), (v16 r1_7.Priority), (v16 r1_7.Weight), (v16 r1_7.Port), (.string (str r1_7.Target))] : List Value))) ag31 sz31 (by simp [bytesV_length]) rfl (h120.isBlk.view0)) rfl rfl rfl ?_
                          refine G.on rfl rfl (not_f hc122) ?_
                          refine G.yl (yl_loadN (vs := (bytesV (List.ofFn (n := 20) newest_2.Publisher) ++ ([(v64 newest_2.Seq), (v64 newest_2.Born), (v32 newest_2.Life), (.bool newest_2.Gone), (v16 newest_2.Priority), (v16 newest_2.Weight), (v16 newest_2.Port), (.string (str newest_2.Target))] : List Value))) ag31 sz31 (by simp [bytesV_length]) rfl ((Sat.pick [4] h120).isBlk.view0)) rfl rfl rfl ?_
                          refine G.on rfl rfl (not_f hc122) ?_
                          obtain ⟨hc123, hm⟩ := sp_chk hm
                          obtain ⟨hc124, hm⟩ := sp_chk hm
                          refine G.yl (yl_ne_agg (r := decide (r1_7 = newest_2)) (vs := (el_G_api_Instance.f r1_7)) (us := (el_G_api_Instance.f newest_2)) rfl rfl (by rw [decide_eq_true_eq]; exact G_api_Instance_inj) eqT31.1 eqT31.2.1 eqT31.2.2.1 eqT31.2.2.2.1 eqT31.2.2.2.2 (G_api_Instance_fits r1_7 hc123) (G_api_Instance_fits newest_2 hc124)) rfl rfl rfl ?_
                          refine G.yl (yl_pick_f rfl (not_f hc122) rfl) rfl rfl rfl ?_
                          refine G.nil ?_
                          exact QA.join (!(decide (r1_7 = newest_2))) (Sub.of ⟨rfl, rfl, rfl, rfl, rfl, rfl, rfl, rfl, rfl, rfl, trivial⟩) ⟨hm, (Sat.pick [1, 1] h120)⟩
                        · refine G.offU rfl rfl (not_t hc122) rfl ?_
                          refine G.offU rfl rfl (not_t hc122) rfl ?_
                          refine G.offU rfl rfl (not_t hc122) rfl ?_
                          refine G.yl (yl_pick_t rfl (not_t hc122) rfl) rfl rfl rfl ?_
                          refine G.nil ?_
                          exact QA.join true (Sub.of ⟨rfl, rfl, rfl, rfl, rfl, rfl, rfl, rfl, rfl, rfl, trivial⟩) ⟨hm, (Sat.pick [1, 1] h120)⟩
                      · rintro t83 w125 ⟨hm, h126⟩
                        show C _ _ _ [(2, (.bool false)), (3, (.slice a_2 out.length c_2)), (4, (.slice a39 ((came ++ [x]).length) c40)), (18, (.slice a l.length c)), (19, (vI (l.length : Int))), (20, (vI t20)), (44, (.slice a39 ((came ++ [x]).length) c40)), (45, (vI ((came ++ [x]).length : Int))), (46, (vI t46)), (83, (.bool t83))] _ _
                        unfold M_signpostlaw12_RosterNewest_v_k6 at hm
                        rcases sp_b hm with ⟨hc127, hm⟩ | ⟨hc127, hm⟩
                        · refine C.cond_t rfl hc127 ?_
                          refine C.seq ?_
                          refine C.region ?_
                          refine G.yl (yl_assign rfl) rfl rfl rfl ?_
                          refine G.nil ?_
                          refine QA.then_normal ?_
                          refine C.ret ?_
                          refine QA.block_ret ?_
                          refine QA.then_ret ?_
                          refine QA.then_ret ?_
                          refine QA.past (by simp) ?_
                          refine QA.block_ret ?_
                          refine QA.block_ret ?_
                          refine QA.then_ret ?_
                          refine QA.then_ret ?_
                          refine QA.past (by simp) ?_
                          refine QA.block_ret ?_
                          refine QA.then_ret ?_
                          refine QA.ret1 rfl rfl ?_
                          obtain rfl := sp_ret1 hm
                          obtain rfl : .inr false = o_2 := hg63
                          have hm := hm59
                          obtain rfl := sp_ret1 hm
                          obtain rfl : .inr false = o := hg13
                          have hm : some false = some r1 := hm9
                          obtain rfl := sp_ret1 hm
                          exact ⟨rfl, (Sat.pick [] h126)⟩
                        · refine C.cond_f rfl hc127 ?_
                          refine C.skip ?_
                          refine QA.block_normal ?_
                          refine QA.then_normal ?_
                          refine C.region ?_
                          obtain ⟨hc128, hm⟩ := sp_chk hm
                          refine G.yl (yl_addI rfl rfl hc128) rfl rfl rfl ?_
                          refine G.yl (yl_move rfl) rfl rfl rfl ?_
                          refine G.nil ?_
                          obtain rfl := sp_ret1 hm
                          exact QA.againO (t46 + 1) hg63 (Sub.of ⟨rfl, rfl, rfl, rfl, rfl, rfl, rfl, rfl, rfl, trivial⟩) (Sat.pick [0, 0] h126)
                  · refine C.cond_f rfl (dec_f hc64) ?_
                    refine C.exit ?_
                    refine QA.then_exit ?_
                    refine QA.then_exit ?_
                    obtain rfl := sp_ret1 hm
                    exact QA.left () (Sub.of ⟨rfl, rfl, rfl, rfl, rfl, rfl, trivial⟩) ⟨hg63, (Sat.pick [0, 0] h61)⟩
                · rintro _ w129 ⟨rfl, h130⟩
                  have hm := hm59
                  show QA _ _ [(2, (.bool false)), (3, (.slice a_2 out.length c_2)), (4, (.slice a39 ((came ++ [x]).length) c40)), (18, (.slice a l.length c)), (19, (vI (l.length : Int))), (20, (vI t20))] _ _
                  refine QA.block_here ?_
                  refine QA.block_normal ?_
                  refine QA.then_normal ?_
                  refine C.region ?_
                  obtain ⟨hc131, hm⟩ := sp_chk hm
                  refine G.yl (yl_addI rfl rfl hc131) rfl rfl rfl ?_
                  refine G.yl (yl_move rfl) rfl rfl rfl ?_
                  refine G.nil ?_
                  obtain rfl := sp_ret1 hm
                  exact QA.againO (a_2, c_2, out, a39, c40, came ++ [x], t20 + 1) hg13 (Sub.of ⟨rfl, rfl, rfl, rfl, rfl, rfl, trivial⟩) (Sat.pick [0, 0] h130)
            · refine C.cond_t rfl (not_t hc49) ?_
              refine C.seq ?_
              refine C.region ?_
              refine G.yl (yl_assign rfl) rfl rfl rfl ?_
              refine G.nil ?_
              refine QA.then_normal ?_
              refine C.ret ?_
              refine QA.then_ret ?_
              refine QA.block_ret ?_
              refine QA.then_ret ?_
              refine QA.then_ret ?_
              refine QA.past (by simp) ?_
              refine QA.block_ret ?_
              refine QA.then_ret ?_
              refine QA.ret1 rfl rfl ?_
              obtain rfl := sp_ret1 hm
              obtain rfl : .inr false = o := hg13
              have hm : some false = some r1 := hm9
              obtain rfl := sp_ret1 hm
              exact ⟨rfl, (Sat.pick [] h45)⟩
          · refine G.does (does_fn 0 rfl rfl rfl en9 h24 (fun U hU hp hr hs => M_roster_Put_v_w (l := out) (i := x) (Rest.view (Rest.front 1 hr)) (Sat.own_cap (Sat.pick [1] h24)).1 hp hy29)) rfl rfl rfl ?_
            rintro _ w134 ⟨U137, hb138, r1132, r2133, rfl, h136⟩
            have h135 : Sat W w134 [ow el_G_api_Instance r1132 r2133 31 r3_2, blk b16 (bytesV (List.ofFn (n := 20) x.Publisher) ++ ([(v64 x.Seq), (v64 x.Born), (v32 x.Life), (.bool x.Gone), (v16 x.Priority), (v16 x.Weight), (v16 x.Port), (.string (str x.Target))] : List Value)) 31, ow el_G_api_Instance a_2 c_2 31 out, ow el_G_api_Instance a_3 c_3 31 came] := hb138 h136
            refine G.yl (yl_move rfl) rfl rfl rfl ?_
            refine G.yl (yl_extract rfl rfl) rfl rfl rfl ?_
            refine G.yl (yl_extract rfl rfl) rfl rfl rfl ?_
            refine G.yl (yl_assign rfl) rfl rfl rfl ?_
            refine G.nil ?_
            refine QA.then_normal ?_
            refine C.seq ?_
            refine C.region ?_
            refine G.yl (yl_move rfl) rfl rfl rfl ?_
            refine G.yl (yl_loadN (vs := (bytesV (List.ofFn (n := 20) x.Publisher) ++ ([(v64 x.Seq), (v64 x.Born), (v32 x.Life), (.bool x.Gone), (v16 x.Priority), (v16 x.Weight), (v16 x.Port), (.string (str x.Target))] : List Value))) ag31 sz31 (by simp [bytesV_length]) rfl ((Sat.pick [1] h135).isBlk.view0)) rfl rfl rfl ?_
            refine G.does (does_lit (E := el_G_api_Instance) (l := [x]) (vs := [(.agg (bytesV (List.ofFn (n := 20) x.Publisher) ++ ([(v64 x.Seq), (v64 x.Born), (v32 x.Life), (.bool x.Gone), (v16 x.Priority), (v16 x.Weight), (v16 x.Port), (.string (str x.Target))] : List Value)).toArray)]) (cs := (bytesV (List.ofFn (n := 20) x.Publisher) ++ ([(v64 x.Seq), (v64 x.Born), (v32 x.Life), (.bool x.Gone), (v16 x.Priority), (v16 x.Weight), (v16 x.Port), (.string (str x.Target))] : List Value))) (e := 31) h135 rfl (by kernel_rfl) rfl rfl (by decide)) rfl rfl rfl ?_
            rintro _ w140 ⟨a139, rfl, h141⟩
            obtain ⟨hc142, hm⟩ := sp_chk hm
            refine G.does (does_app (E := el_G_api_Instance) (l := came) (l2 := [x]) Try.underlying22 el31 (Sat.pick [4, 0, 0, 0, 0] h141) rfl rfl rfl rfl (by decide) (Sat.own_view h141) hc142 (by decide)) rfl rfl rfl ?_
            rintro _ w145 ⟨a143, c144, rfl, h146⟩
            refine G.yl (yl_assign rfl) rfl rfl rfl ?_
            refine G.nil ?_
            refine QA.then_normal ?_
            refine C.seq ?_
            refine C.seq ?_
            refine C.region ?_
            refine G.yl (yl_move rfl) rfl rfl rfl ?_
            obtain ⟨r1_8, hy147, hm⟩ := sp_bind hm
            refine G.does (does_fn 0 rfl rfl rfl en10 h146 (fun U hU hp hr hs => M_roster_Good_v_w (l := r3_2) (Rest.view (Rest.front 2 hr)) (Sat.own_cap (Sat.pick [2] h146)).1 hp hy147)) rfl rfl rfl ?_
            rintro _ w148 ⟨U151, hb152, rfl, h150⟩
            have h149 : Sat W w148 [ow el_G_api_Instance a143 c144 31 (came ++ [x]), ow el_G_api_Instance a139 1 31 [x], ow el_G_api_Instance r1132 r2133 31 r3_2, blk b16 (bytesV (List.ofFn (n := 20) x.Publisher) ++ ([(v64 x.Seq), (v64 x.Born), (v32 x.Life), (.bool x.Gone), (v16 x.Priority), (v16 x.Weight), (v16 x.Port), (.string (str x.Target))] : List Value)) 31, ow el_G_api_Instance a_2 c_2 31 out] := hb152 h150
            refine G.yl (yl_not rfl) rfl rfl rfl ?_
            refine G.nil ?_
            refine QA.then_normal ?_
            rcases sp_b hm with ⟨hc153, hm⟩ | ⟨hc153, hm⟩
            · refine C.cond_f rfl (not_f hc153) ?_
              refine C.skip ?_
              refine QA.then_normal ?_
              refine C.seq ?_
              refine C.seq ?_
              refine C.region ?_
              refine G.yl (yl_move rfl) rfl rfl rfl ?_
              obtain ⟨r1_9, hy154, hm⟩ := sp_bind hm
              refine G.does (does_fn 0 rfl rfl rfl en11 h149 (fun U hU hp hr hs => M_signpostlaw12_publishers_v_w (l := came ++ [x]) (Rest.view hr) (Sat.own_cap h149).1 hp hy154)) rfl rfl rfl ?_
              rintro _ w155 ⟨U158, hb159, rfl, h157⟩
              have h156 : Sat W w155 [ow el_G_api_Instance a143 c144 31 (came ++ [x]), ow el_G_api_Instance a139 1 31 [x], ow el_G_api_Instance r1132 r2133 31 r3_2, blk b16 (bytesV (List.ofFn (n := 20) x.Publisher) ++ ([(v64 x.Seq), (v64 x.Born), (v32 x.Life), (.bool x.Gone), (v16 x.Priority), (v16 x.Weight), (v16 x.Port), (.string (str x.Target))] : List Value)) 31, ow el_G_api_Instance a_2 c_2 31 out] := hb159 h157
              refine G.yl (yl_gtI rfl rfl) rfl rfl rfl ?_
              refine G.nil ?_
              refine QA.then_normal ?_
              rcases sp_ite hm with ⟨hc160, hm⟩ | ⟨hc160, hm⟩
              · refine C.cond_t rfl (dec_t hc160) ?_
                refine C.exit ?_
                refine QA.then_exit ?_
                refine QA.block_here ?_
                refine QA.then_normal ?_
                refine C.region ?_
                obtain ⟨hc161, hm⟩ := sp_chk hm
                refine G.yl (yl_addI rfl rfl hc161) rfl rfl rfl ?_
                refine G.yl (yl_move rfl) rfl rfl rfl ?_
                refine G.nil ?_
                obtain rfl := sp_ret1 hm
                exact QA.againO (r1132, r2133, r3_2, a143, c144, came ++ [x], t20 + 1) hg13 (Sub.of ⟨rfl, rfl, rfl, rfl, rfl, rfl, trivial⟩) (Sat.pick [2, 0] h156)
              · refine C.cond_f rfl (dec_f hc160) ?_
                refine C.skip ?_
                refine QA.then_normal ?_
                refine C.seq ?_
                refine C.region ?_
                refine G.yl (yl_move rfl) rfl rfl rfl ?_
                refine G.yl (yl_lenE Try.underlying22 rfl) rfl rfl rfl ?_
                refine G.yl (yl_move rfl) rfl rfl rfl ?_
                refine G.nil ?_
                refine QA.then_normal ?_
                refine C.block ?_
                obtain ⟨o_4, ho162, hm163⟩ := sp_bind hm
                refine C.left (γ := Unit) (.exit 2) (fun g => match g with | () => [(2, (.bool false)), (3, (.slice r1132 r3_2.length r2133)), (4, (.slice a143 ((came ++ [x]).length) c144)), (18, (.slice a l.length c)), (19, (vI (l.length : Int))), (20, (vI t20))]) (fun g ww => match g with | () => .inl () = o_4 ∧ Sat W ww [ow el_G_api_Instance r1132 r2133 31 r3_2, ow el_G_api_Instance a143 c144 31 (came ++ [x])]) ?_ ?_
                · refine C.loopO (γ := Int) (fun g => match g with | t46_2 => [(2, (.bool false)), (3, (.slice r1132 r3_2.length r2133)), (4, (.slice a143 ((came ++ [x]).length) c144)), (18, (.slice a l.length c)), (19, (vI (l.length : Int))), (20, (vI t20)), (44, (.slice a143 ((came ++ [x]).length) c144)), (45, (vI ((came ++ [x]).length : Int))), (46, (vI t46_2))]) (fun g ww => match g with | t46_2 => Sat W ww [ow el_G_api_Instance r1132 r2133 31 r3_2, ow el_G_api_Instance a143 c144 31 (came ++ [x])]) (fun g => match g with | t46_2 => t46_2) 0 ho162 (Sub.of ⟨rfl, rfl, rfl, rfl, rfl, rfl, rfl, rfl, rfl, trivial⟩) (Sat.pick [2, 0] h156) ?_
                  rintro t46_2 k166 w164 y__5 h165 hm hg167
                  show C _ _ _ [(2, (.bool false)), (3, (.slice r1132 r3_2.length r2133)), (4, (.slice a143 ((came ++ [x]).length) c144)), (18, (.slice a l.length c)), (19, (vI (l.length : Int))), (20, (vI t20)), (44, (.slice a143 ((came ++ [x]).length) c144)), (45, (vI ((came ++ [x]).length : Int))), (46, (vI t46_2))] _ _
                  change M_signpostlaw12_RosterNewest_v_b7 came r3_2 x t46_2 = some y__5 at hm
                  unfold M_signpostlaw12_RosterNewest_v_b7 at hm
                  refine C.seq ?_
                  refine C.region ?_
                  refine G.yl (yl_ltI rfl rfl) rfl rfl rfl ?_
                  refine G.nil ?_
                  refine QA.then_normal ?_
                  refine C.seq ?_
                  rcases sp_ite hm with ⟨hc168, hm⟩ | ⟨hc168, hm⟩
                  · refine C.cond_t rfl (dec_t hc168) ?_
                    refine C.skip ?_
                    refine QA.then_normal ?_
                    refine C.seq ?_
                    refine C.block ?_
                    refine C.seq ?_
                    refine C.region ?_
                    obtain ⟨x_4, hy169, hm⟩ := sp_bind hm
                    refine G.yl (yl_ixP (l := came ++ [x]) sl22 rfl rfl (View.isA (E := el_G_api_Instance) (Sat.own_view (Sat.pick [1] h165)) (by decide) (at?_lt hy169)) rfl (at?_lt hy169)) rfl rfl rfl ?_
                    refine G.yl (yl_ldE (E := el_G_api_Instance) ag31 sz31 rfl (Sat.own_view (Sat.pick [1] h165)) (at?_some hy169).2) rfl rfl rfl ?_
                    refine G.does (does_alloc (cs := (bytesV (List.ofFn (n := 20) (fun _ => 0)) ++ ([(.int .u64 0), (.int .u64 0), (.int .u32 0), (.bool false), (.int .u16 0), (.int .u16 0), (.int .u16 0), (.string (str ([] : List UInt8)))] : List Value))) h165 z31 rfl) rfl rfl rfl ?_
                    rintro _ w171 ⟨b170, rfl, h172⟩
                    refine G.unit (does_store (vs := (bytesV (List.ofFn (n := 20) x_4.Publisher) ++ ([(v64 x_4.Seq), (v64 x_4.Born), (v32 x_4.Life), (.bool x_4.Gone), (v16 x_4.Priority), (v16 x_4.Weight), (v16 x_4.Port), (.string (str x_4.Target))] : List Value))) h172 sz31 rfl rfl rfl (by simp [bytesV_length]) (List.forall_mem_append.2 ⟨(bytesV_one _), (List.forall_mem_cons.2 ⟨rfl, (List.forall_mem_cons.2 ⟨rfl, (List.forall_mem_cons.2 ⟨rfl, (List.forall_mem_cons.2 ⟨rfl, (List.forall_mem_cons.2 ⟨rfl, (List.forall_mem_cons.2 ⟨rfl, (List.forall_mem_cons.2 ⟨rfl, (List.forall_mem_cons.2 ⟨rfl, (fun _ hh => by cases hh)⟩)⟩)⟩)⟩)⟩)⟩)⟩)⟩)⟩) (by simp [bytesV_length])) rfl rfl ?_
                    rintro _ w173 h175
                    have h174 : Sat W w173 [blk b170 (bytesV (List.ofFn (n := 20) x_4.Publisher) ++ ([(v64 x_4.Seq), (v64 x_4.Born), (v32 x_4.Life), (.bool x_4.Gone), (v16 x_4.Priority), (v16 x_4.Weight), (v16 x_4.Port), (.string (str x_4.Target))] : List Value)) 31, ow el_G_api_Instance r1132 r2133 31 r3_2, ow el_G_api_Instance a143 c144 31 (came ++ [x])] := sl_blk (setN_all _ _ (by simp [bytesV_length])) h175
                    refine G.nil ?_
                    refine QA.then_normal ?_
                    refine C.seq ?_
                    refine C.region ?_
                    refine G.yl (yl_loadN (vs := (bytesV (List.ofFn (n := 20) x_4.Publisher) ++ ([(v64 x_4.Seq), (v64 x_4.Born), (v32 x_4.Life), (.bool x_4.Gone), (v16 x_4.Priority), (v16 x_4.Weight), (v16 x_4.Port), (.string (str x_4.Target))] : List Value))) ag31 sz31 (by simp [bytesV_length]) rfl (h174.isBlk.view0)) rfl rfl rfl ?_
                    refine G.does (does_alloc (cs := (bytesV (List.ofFn (n := 20) (fun _ => 0)) ++ ([(.int .u64 0), (.int .u64 0), (.int .u32 0), (.bool false), (.int .u16 0), (.int .u16 0), (.int .u16 0), (.string (str ([] : List UInt8)))] : List Value))) h174 z31 rfl) rfl rfl rfl ?_
                    rintro _ w177 ⟨b176, rfl, h178⟩
                    refine G.unit (does_store (vs := (bytesV (List.ofFn (n := 20) x_4.Publisher) ++ ([(v64 x_4.Seq), (v64 x_4.Born), (v32 x_4.Life), (.bool x_4.Gone), (v16 x_4.Priority), (v16 x_4.Weight), (v16 x_4.Port), (.string (str x_4.Target))] : List Value))) h178 sz31 rfl rfl rfl (by simp [bytesV_length]) (List.forall_mem_append.2 ⟨(bytesV_one _), (List.forall_mem_cons.2 ⟨rfl, (List.forall_mem_cons.2 ⟨rfl, (List.forall_mem_cons.2 ⟨rfl, (List.forall_mem_cons.2 ⟨rfl, (List.forall_mem_cons.2 ⟨rfl, (List.forall_mem_cons.2 ⟨rfl, (List.forall_mem_cons.2 ⟨rfl, (List.forall_mem_cons.2 ⟨rfl, (fun _ hh => by cases hh)⟩)⟩)⟩)⟩)⟩)⟩)⟩)⟩)⟩) (by simp [bytesV_length])) rfl rfl ?_
                    rintro _ w179 h181
                    have h180 : Sat W w179 [blk b176 (bytesV (List.ofFn (n := 20) x_4.Publisher) ++ ([(v64 x_4.Seq), (v64 x_4.Born), (v32 x_4.Life), (.bool x_4.Gone), (v16 x_4.Priority), (v16 x_4.Weight), (v16 x_4.Port), (.string (str x_4.Target))] : List Value)) 31, blk b170 (bytesV (List.ofFn (n := 20) x_4.Publisher) ++ ([(v64 x_4.Seq), (v64 x_4.Born), (v32 x_4.Life), (.bool x_4.Gone), (v16 x_4.Priority), (v16 x_4.Weight), (v16 x_4.Port), (.string (str x_4.Target))] : List Value)) 31, ow el_G_api_Instance r1132 r2133 31 r3_2, ow el_G_api_Instance a143 c144 31 (came ++ [x])] := sl_blk (setN_all _ _ (by simp [bytesV_length])) h181
                    refine G.nil ?_
                    refine QA.then_normal ?_
                    refine C.seq ?_
                    refine C.seq ?_
                    refine C.region ?_
                    refine G.yl (yl_move rfl) rfl rfl rfl ?_
                    refine G.yl (yl_lenE Try.underlying22 rfl) rfl rfl rfl ?_
                    refine G.yl (yl_move rfl) rfl rfl rfl ?_
                    refine G.nil ?_
                    refine QA.then_normal ?_
                    refine C.block ?_
                    obtain ⟨o_5, ho182, hm183⟩ := sp_bind hm
                    refine C.left (γ := G_api_Instance) (.exit 4) (fun g => match g with | newest_5 => [(2, (.bool false)), (3, (.slice r1132 r3_2.length r2133)), (4, (.slice a143 ((came ++ [x]).length) c144)), (8, (.pointer (some ⟨b170, 0, none⟩))), (9, (.pointer (some ⟨b176, 0, none⟩))), (18, (.slice a l.length c)), (19, (vI (l.length : Int))), (20, (vI t20)), (44, (.slice a143 ((came ++ [x]).length) c144)), (45, (vI ((came ++ [x]).length : Int))), (46, (vI t46_2))]) (fun g ww => match g with | newest_5 => newest_5 = o_5 ∧ Sat W ww [ow el_G_api_Instance r1132 r2133 31 r3_2, ow el_G_api_Instance a143 c144 31 (came ++ [x]), blk b170 (bytesV (List.ofFn (n := 20) x_4.Publisher) ++ ([(v64 x_4.Seq), (v64 x_4.Born), (v32 x_4.Life), (.bool x_4.Gone), (v16 x_4.Priority), (v16 x_4.Weight), (v16 x_4.Port), (.string (str x_4.Target))] : List Value)) 31, blk b176 (bytesV (List.ofFn (n := 20) newest_5.Publisher) ++ ([(v64 newest_5.Seq), (v64 newest_5.Born), (v32 newest_5.Life), (.bool newest_5.Gone), (v16 newest_5.Priority), (v16 newest_5.Weight), (v16 newest_5.Port), (.string (str newest_5.Target))] : List Value)) 31]) ?_ ?_
                    · refine C.loopO (γ := G_api_Instance × Int) (fun g => match g with | (newest_4, t53_2) => [(2, (.bool false)), (3, (.slice r1132 r3_2.length r2133)), (4, (.slice a143 ((came ++ [x]).length) c144)), (8, (.pointer (some ⟨b170, 0, none⟩))), (9, (.pointer (some ⟨b176, 0, none⟩))), (18, (.slice a l.length c)), (19, (vI (l.length : Int))), (20, (vI t20)), (44, (.slice a143 ((came ++ [x]).length) c144)), (45, (vI ((came ++ [x]).length : Int))), (46, (vI t46_2)), (51, (.slice a143 ((came ++ [x]).length) c144)), (52, (vI ((came ++ [x]).length : Int))), (53, (vI t53_2))]) (fun g ww => match g with | (newest_4, t53_2) => Sat W ww [ow el_G_api_Instance r1132 r2133 31 r3_2, ow el_G_api_Instance a143 c144 31 (came ++ [x]), blk b170 (bytesV (List.ofFn (n := 20) x_4.Publisher) ++ ([(v64 x_4.Seq), (v64 x_4.Born), (v32 x_4.Life), (.bool x_4.Gone), (v16 x_4.Priority), (v16 x_4.Weight), (v16 x_4.Port), (.string (str x_4.Target))] : List Value)) 31, blk b176 (bytesV (List.ofFn (n := 20) newest_4.Publisher) ++ ([(v64 newest_4.Seq), (v64 newest_4.Born), (v32 newest_4.Life), (.bool newest_4.Gone), (v16 newest_4.Priority), (v16 newest_4.Weight), (v16 newest_4.Port), (.string (str newest_4.Target))] : List Value)) 31]) (fun g => match g with | (newest_4, t53_2) => (newest_4, t53_2)) (x_4, 0) ho182 (Sub.of ⟨rfl, rfl, rfl, rfl, rfl, rfl, rfl, rfl, rfl, rfl, rfl, rfl, rfl, rfl, trivial⟩) (Sat.pick [2, 2, 1, 0] h180) ?_
                      rintro ⟨newest_4, t53_2⟩ k186 w184 y__6 h185 hm hg187
                      show C _ _ _ [(2, (.bool false)), (3, (.slice r1132 r3_2.length r2133)), (4, (.slice a143 ((came ++ [x]).length) c144)), (8, (.pointer (some ⟨b170, 0, none⟩))), (9, (.pointer (some ⟨b176, 0, none⟩))), (18, (.slice a l.length c)), (19, (vI (l.length : Int))), (20, (vI t20)), (44, (.slice a143 ((came ++ [x]).length) c144)), (45, (vI ((came ++ [x]).length : Int))), (46, (vI t46_2)), (51, (.slice a143 ((came ++ [x]).length) c144)), (52, (vI ((came ++ [x]).length : Int))), (53, (vI t53_2))] _ _
                      change M_signpostlaw12_RosterNewest_v_b8 came x x_4 newest_4 t53_2 = some y__6 at hm
                      unfold M_signpostlaw12_RosterNewest_v_b8 at hm
                      refine C.seq ?_
                      refine C.region ?_
                      refine G.yl (yl_ltI rfl rfl) rfl rfl rfl ?_
                      refine G.nil ?_
                      refine QA.then_normal ?_
                      refine C.seq ?_
                      rcases sp_ite hm with ⟨hc188, hm⟩ | ⟨hc188, hm⟩
                      · refine C.cond_t rfl (dec_t hc188) ?_
                        refine C.skip ?_
                        refine QA.then_normal ?_
                        refine C.join (γ := G_api_Instance) (fun g => match g with | newest_6 => [(2, (.bool false)), (3, (.slice r1132 r3_2.length r2133)), (4, (.slice a143 ((came ++ [x]).length) c144)), (8, (.pointer (some ⟨b170, 0, none⟩))), (9, (.pointer (some ⟨b176, 0, none⟩))), (18, (.slice a l.length c)), (19, (vI (l.length : Int))), (20, (vI t20)), (44, (.slice a143 ((came ++ [x]).length) c144)), (45, (vI ((came ++ [x]).length : Int))), (46, (vI t46_2)), (51, (.slice a143 ((came ++ [x]).length) c144)), (52, (vI ((came ++ [x]).length : Int))), (53, (vI t53_2))]) (fun g ww => match g with | newest_6 => (M_signpostlaw12_RosterNewest_v_k9 t53_2 newest_6 = some y__6) ∧ Sat W ww [ow el_G_api_Instance r1132 r2133 31 r3_2, ow el_G_api_Instance a143 c144 31 (came ++ [x]), blk b170 (bytesV (List.ofFn (n := 20) x_4.Publisher) ++ ([(v64 x_4.Seq), (v64 x_4.Born), (v32 x_4.Life), (.bool x_4.Gone), (v16 x_4.Priority), (v16 x_4.Weight), (v16 x_4.Port), (.string (str x_4.Target))] : List Value)) 31, blk b176 (bytesV (List.ofFn (n := 20) newest_6.Publisher) ++ ([(v64 newest_6.Seq), (v64 newest_6.Born), (v32 newest_6.Life), (.bool newest_6.Gone), (v16 newest_6.Priority), (v16 newest_6.Weight), (v16 newest_6.Port), (.string (str newest_6.Target))] : List Value)) 31]) ?_ ?_
                        · refine C.block ?_
                          refine C.seq ?_
                          refine C.region ?_
                          obtain ⟨x_5, hy189, hm⟩ := sp_bind hm
                          refine G.yl (yl_ixP (l := came ++ [x]) sl22 rfl rfl (View.isA (E := el_G_api_Instance) (Sat.own_view (Sat.pick [1] h185)) (by decide) (at?_lt hy189)) rfl (at?_lt hy189)) rfl rfl rfl ?_
                          refine G.yl (yl_ldE (E := el_G_api_Instance) ag31 sz31 rfl (Sat.own_view (Sat.pick [1] h185)) (at?_some hy189).2) rfl rfl rfl ?_
                          refine G.does (does_alloc (cs := (bytesV (List.ofFn (n := 20) (fun _ => 0)) ++ ([(.int .u64 0), (.int .u64 0), (.int .u32 0), (.bool false), (.int .u16 0), (.int .u16 0), (.int .u16 0), (.string (str ([] : List UInt8)))] : List Value))) h185 z31 rfl) rfl rfl rfl ?_
                          rintro _ w191 ⟨b190, rfl, h192⟩
                          refine G.unit (does_store (vs := (bytesV (List.ofFn (n := 20) x_5.Publisher) ++ ([(v64 x_5.Seq), (v64 x_5.Born), (v32 x_5.Life), (.bool x_5.Gone), (v16 x_5.Priority), (v16 x_5.Weight), (v16 x_5.Port), (.string (str x_5.Target))] : List Value))) h192 sz31 rfl rfl rfl (by simp [bytesV_length]) (List.forall_mem_append.2 ⟨(bytesV_one _), (List.forall_mem_cons.2 ⟨rfl, (List.forall_mem_cons.2 ⟨rfl, (List.forall_mem_cons.2 ⟨rfl, (List.forall_mem_cons.2 ⟨rfl, (List.forall_mem_cons.2 ⟨rfl, (List.forall_mem_cons.2 ⟨rfl, (List.forall_mem_cons.2 ⟨rfl, (List.forall_mem_cons.2 ⟨rfl, (fun _ hh => by cases hh)⟩)⟩)⟩)⟩)⟩)⟩)⟩)⟩)⟩) (by simp [bytesV_length])) rfl rfl ?_
                          rintro _ w193 h195
                          have h194 : Sat W w193 [blk b190 (bytesV (List.ofFn (n := 20) x_5.Publisher) ++ ([(v64 x_5.Seq), (v64 x_5.Born), (v32 x_5.Life), (.bool x_5.Gone), (v16 x_5.Priority), (v16 x_5.Weight), (v16 x_5.Port), (.string (str x_5.Target))] : List Value)) 31, ow el_G_api_Instance r1132 r2133 31 r3_2, ow el_G_api_Instance a143 c144 31 (came ++ [x]), blk b170 (bytesV (List.ofFn (n := 20) x_4.Publisher) ++ ([(v64 x_4.Seq), (v64 x_4.Born), (v32 x_4.Life), (.bool x_4.Gone), (v16 x_4.Priority), (v16 x_4.Weight), (v16 x_4.Port), (.string (str x_4.Target))] : List Value)) 31, blk b176 (bytesV (List.ofFn (n := 20) newest_4.Publisher) ++ ([(v64 newest_4.Seq), (v64 newest_4.Born), (v32 newest_4.Life), (.bool newest_4.Gone), (v16 newest_4.Priority), (v16 newest_4.Weight), (v16 newest_4.Port), (.string (str newest_4.Target))] : List Value)) 31] := sl_blk (setN_all _ _ (by simp [bytesV_length])) h195
                          refine G.nil ?_
                          refine QA.then_normal ?_
                          refine C.join (γ := Bool) (fun g => match g with | t67_2 => [(2, (.bool false)), (3, (.slice r1132 r3_2.length r2133)), (4, (.slice a143 ((came ++ [x]).length) c144)), (8, (.pointer (some ⟨b170, 0, none⟩))), (9, (.pointer (some ⟨b176, 0, none⟩))), (11, (.pointer (some ⟨b190, 0, none⟩))), (18, (.slice a l.length c)), (19, (vI (l.length : Int))), (20, (vI t20)), (44, (.slice a143 ((came ++ [x]).length) c144)), (45, (vI ((came ++ [x]).length : Int))), (46, (vI t46_2)), (51, (.slice a143 ((came ++ [x]).length) c144)), (52, (vI ((came ++ [x]).length : Int))), (53, (vI t53_2)), (67, (.bool t67_2))]) (fun g ww => match g with | t67_2 => (M_signpostlaw12_RosterNewest_v_k10 newest_4 t53_2 x_5 t67_2 = some y__6) ∧ Sat W ww [ow el_G_api_Instance r1132 r2133 31 r3_2, ow el_G_api_Instance a143 c144 31 (came ++ [x]), blk b170 (bytesV (List.ofFn (n := 20) x_4.Publisher) ++ ([(v64 x_4.Seq), (v64 x_4.Born), (v32 x_4.Life), (.bool x_4.Gone), (v16 x_4.Priority), (v16 x_4.Weight), (v16 x_4.Port), (.string (str x_4.Target))] : List Value)) 31, blk b176 (bytesV (List.ofFn (n := 20) newest_4.Publisher) ++ ([(v64 newest_4.Seq), (v64 newest_4.Born), (v32 newest_4.Life), (.bool newest_4.Gone), (v16 newest_4.Priority), (v16 newest_4.Weight), (v16 newest_4.Port), (.string (str newest_4.Target))] : List Value)) 31, blk b190 (bytesV (List.ofFn (n := 20) x_5.Publisher) ++ ([(v64 x_5.Seq), (v64 x_5.Born), (v32 x_5.Life), (.bool x_5.Gone), (v16 x_5.Priority), (v16 x_5.Weight), (v16 x_5.Port), (.string (str x_5.Target))] : List Value)) 31]) ?_ ?_
                          · refine C.region ?_
                            refine G.yl (yl_fieldAddr fo31_0 rfl) rfl rfl rfl ?_
                            refine G.yl (yl_loadN (vs := (bytesV (List.ofFn (n := 20) x_5.Publisher))) ag26 sz26 (by simp [bytesV_length]) rfl (View.span_head h194.isBlk.view0)) rfl rfl rfl ?_
                            refine G.yl (yl_fieldAddr fo31_0 rfl) rfl rfl rfl ?_
                            refine G.yl (yl_loadN (vs := (bytesV (List.ofFn (n := 20) x_4.Publisher))) ag26 sz26 (by simp [bytesV_length]) rfl (View.span_head (Sat.pick [3] h194).isBlk.view0)) rfl rfl rfl ?_
                            refine G.yl (yl_eq_agg (r := decide (x_5.Publisher = x_4.Publisher)) (vs := (bytesV (List.ofFn x_5.Publisher))) (us := (bytesV (List.ofFn x_4.Publisher))) rfl rfl (by rw [decide_eq_true_eq]; exact arr_inj) eqT26.1 eqT26.2.1 eqT26.2.2.1 eqT26.2.2.2.1 eqT26.2.2.2.2 (fits_span _) (fits_span _)) rfl rfl rfl ?_
                            refine G.yl (yl_move rfl) rfl rfl rfl ?_
                            rcases sp_ite hm with ⟨hc196, hm⟩ | ⟨hc196, hm⟩
                            · refine G.on rfl rfl (dec_t hc196) ?_
                              refine G.yl (yl_loadN (vs := (bytesV (List.ofFn (n := 20) x_5.Publisher) ++ ([(v64 x_5.Seq), (v64 x_5.Born), (v32 x_5.Life), (.bool x_5.Gone), (v16 x_5.Priority), (v16 x_5.Weight), (v16 x_5.Port), (.string (str x_5.Target))] : List Value))) ag31 sz31 (by simp [bytesV_length]) rfl (h194.isBlk.view0)) rfl rfl rfl ?_
                              refine G.on rfl rfl (dec_t hc196) ?_
                              refine G.yl (yl_loadN (vs := (bytesV (List.ofFn (n := 20) newest_4.Publisher) ++ ([(v64 newest_4.Seq), (v64 newest_4.Born), (v32 newest_4.Life), (.bool newest_4.Gone), (v16 newest_4.Priority), (v16 newest_4.Weight), (v16 newest_4.Port), (.string (str newest_4.Target))] : List Value))) ag31 sz31 (by simp [bytesV_length]) rfl ((Sat.pick [4] h194).isBlk.view0)) rfl rfl rfl ?_
                              refine G.on rfl rfl (dec_t hc196) ?_
                              obtain ⟨r1_10, hy197, hm⟩ := sp_bind hm
                              refine G.does (does_fn 0 rfl rfl rfl en12 h194 (fun U hU hp hr hs => M_inst_Cmp_w (a := x_5) (b := newest_4) hp hy197)) rfl rfl rfl ?_
                              rintro _ w198 ⟨U201, hb202, rfl, h200⟩
                              have h199 : Sat W w198 [blk b190 (bytesV (List.ofFn (n := 20) x_5.Publisher) ++ ([(v64 x_5.Seq), (v64 x_5.Born), (v32 x_5.Life), (.bool x_5.Gone), (v16 x_5.Priority), (v16 x_5.Weight), (v16 x_5.Port), (.string (str x_5.Target))] : List Value)) 31, ow el_G_api_Instance r1132 r2133 31 r3_2, ow el_G_api_Instance a143 c144 31 (came ++ [x]), blk b170 (bytesV (List.ofFn (n := 20) x_4.Publisher) ++ ([(v64 x_4.Seq), (v64 x_4.Born), (v32 x_4.Life), (.bool x_4.Gone), (v16 x_4.Priority), (v16 x_4.Weight), (v16 x_4.Port), (.string (str x_4.Target))] : List Value)) 31, blk b176 (bytesV (List.ofFn (n := 20) newest_4.Publisher) ++ ([(v64 newest_4.Seq), (v64 newest_4.Born), (v32 newest_4.Life), (.bool newest_4.Gone), (v16 newest_4.Priority), (v16 newest_4.Weight), (v16 newest_4.Port), (.string (str newest_4.Target))] : List Value)) 31] := hb202 h200
                              refine G.on rfl rfl (dec_t hc196) ?_
                              refine G.yl (yl_gtI rfl rfl) rfl rfl rfl ?_
                              refine G.yl (yl_pick_t rfl (dec_t hc196) rfl) rfl rfl rfl ?_
                              refine G.nil ?_
                              exact QA.join (decide ((0 : Int) < r1_10)) (Sub.of ⟨rfl, rfl, rfl, rfl, rfl, rfl, rfl, rfl, rfl, rfl, rfl, rfl, rfl, rfl, rfl, rfl, trivial⟩) ⟨hm, (Sat.pick [1, 1, 1, 1, 0] h199)⟩
                            · refine G.offU rfl rfl (dec_f hc196) rfl ?_
                              refine G.offU rfl rfl (dec_f hc196) rfl ?_
                              refine G.offU rfl rfl (dec_f hc196) rfl ?_
                              refine G.offU rfl rfl (dec_f hc196) rfl ?_
                              refine G.yl (yl_pick_f rfl (dec_f hc196) rfl) rfl rfl rfl ?_
                              refine G.nil ?_
                              exact QA.join false (Sub.of ⟨rfl, rfl, rfl, rfl, rfl, rfl, rfl, rfl, rfl, rfl, rfl, rfl, rfl, rfl, rfl, rfl, trivial⟩) ⟨hm, (Sat.pick [1, 1, 1, 1, 0] h194)⟩
                          · rintro t67_2 w203 ⟨hm, h204⟩
                            show C _ _ _ [(2, (.bool false)), (3, (.slice r1132 r3_2.length r2133)), (4, (.slice a143 ((came ++ [x]).length) c144)), (8, (.pointer (some ⟨b170, 0, none⟩))), (9, (.pointer (some ⟨b176, 0, none⟩))), (11, (.pointer (some ⟨b190, 0, none⟩))), (18, (.slice a l.length c)), (19, (vI (l.length : Int))), (20, (vI t20)), (44, (.slice a143 ((came ++ [x]).length) c144)), (45, (vI ((came ++ [x]).length : Int))), (46, (vI t46_2)), (51, (.slice a143 ((came ++ [x]).length) c144)), (52, (vI ((came ++ [x]).length : Int))), (53, (vI t53_2)), (67, (.bool t67_2))] _ _
                            unfold M_signpostlaw12_RosterNewest_v_k10 at hm
                            rcases sp_b hm with ⟨hc205, hm⟩ | ⟨hc205, hm⟩
                            · refine C.cond_t rfl hc205 ?_
                              refine C.region ?_
                              refine G.yl (yl_loadN (vs := (bytesV (List.ofFn (n := 20) x_5.Publisher) ++ ([(v64 x_5.Seq), (v64 x_5.Born), (v32 x_5.Life), (.bool x_5.Gone), (v16 x_5.Priority), (v16 x_5.Weight), (v16 x_5.Port), (.string (str x_5.Target))] : List Value))) ag31 sz31 (by simp [bytesV_length]) rfl ((Sat.pick [4] h204).isBlk.view0)) rfl rfl rfl ?_
                              refine G.unit (does_store (vs := (bytesV (List.ofFn (n := 20) x_5.Publisher) ++ ([(v64 x_5.Seq), (v64 x_5.Born), (v32 x_5.Life), (.bool x_5.Gone), (v16 x_5.Priority), (v16 x_5.Weight), (v16 x_5.Port), (.string (str x_5.Target))] : List Value))) (Sat.pick [3, 0, 0, 0, 0] h204) sz31 rfl rfl rfl (by simp [bytesV_length]) (List.forall_mem_append.2 ⟨(bytesV_one _), (List.forall_mem_cons.2 ⟨rfl, (List.forall_mem_cons.2 ⟨rfl, (List.forall_mem_cons.2 ⟨rfl, (List.forall_mem_cons.2 ⟨rfl, (List.forall_mem_cons.2 ⟨rfl, (List.forall_mem_cons.2 ⟨rfl, (List.forall_mem_cons.2 ⟨rfl, (List.forall_mem_cons.2 ⟨rfl, (fun _ hh => by cases hh)⟩)⟩)⟩)⟩)⟩)⟩)⟩)⟩)⟩) (by simp [bytesV_length])) rfl rfl ?_
                              rintro _ w206 h208
                              have h207 : Sat W w206 [blk b176 (bytesV (List.ofFn (n := 20) x_5.Publisher) ++ ([(v64 x_5.Seq), (v64 x_5.Born), (v32 x_5.Life), (.bool x_5.Gone), (v16 x_5.Priority), (v16 x_5.Weight), (v16 x_5.Port), (.string (str x_5.Target))] : List Value)) 31, ow el_G_api_Instance r1132 r2133 31 r3_2, ow el_G_api_Instance a143 c144 31 (came ++ [x]), blk b170 (bytesV (List.ofFn (n := 20) x_4.Publisher) ++ ([(v64 x_4.Seq), (v64 x_4.Born), (v32 x_4.Life), (.bool x_4.Gone), (v16 x_4.Priority), (v16 x_4.Weight), (v16 x_4.Port), (.string (str x_4.Target))] : List Value)) 31, blk b190 (bytesV (List.ofFn (n := 20) x_5.Publisher) ++ ([(v64 x_5.Seq), (v64 x_5.Born), (v32 x_5.Life), (.bool x_5.Gone), (v16 x_5.Priority), (v16 x_5.Weight), (v16 x_5.Port), (.string (str x_5.Target))] : List Value)) 31] := sl_blk (setN_all _ _ (by simp [bytesV_length])) h208
                              refine G.nil ?_
                              refine QA.block_normal ?_
                              exact QA.join x_5 (Sub.of ⟨rfl, rfl, rfl, rfl, rfl, rfl, rfl, rfl, rfl, rfl, rfl, rfl, rfl, rfl, trivial⟩) ⟨hm, (Sat.pick [1, 1, 1, 0] h207)⟩
                            · refine C.cond_f rfl hc205 ?_
                              refine C.skip ?_
                              refine QA.block_normal ?_
                              exact QA.join newest_4 (Sub.of ⟨rfl, rfl, rfl, rfl, rfl, rfl, rfl, rfl, rfl, rfl, rfl, rfl, rfl, rfl, trivial⟩) ⟨hm, (Sat.pick [0, 0, 0, 0] h204)⟩
                        · rintro newest_6 w209 ⟨hm, h210⟩
                          show C _ _ _ [(2, (.bool false)), (3, (.slice r1132 r3_2.length r2133)), (4, (.slice a143 ((came ++ [x]).length) c144)), (8, (.pointer (some ⟨b170, 0, none⟩))), (9, (.pointer (some ⟨b176, 0, none⟩))), (18, (.slice a l.length c)), (19, (vI (l.length : Int))), (20, (vI t20)), (44, (.slice a143 ((came ++ [x]).length) c144)), (45, (vI ((came ++ [x]).length : Int))), (46, (vI t46_2)), (51, (.slice a143 ((came ++ [x]).length) c144)), (52, (vI ((came ++ [x]).length : Int))), (53, (vI t53_2))] _ _
                          unfold M_signpostlaw12_RosterNewest_v_k9 at hm
                          refine C.region ?_
                          obtain ⟨hc211, hm⟩ := sp_chk hm
                          refine G.yl (yl_addI rfl rfl hc211) rfl rfl rfl ?_
                          refine G.yl (yl_move rfl) rfl rfl rfl ?_
                          refine G.nil ?_
                          obtain rfl := sp_ret1 hm
                          exact QA.againO (newest_6, t53_2 + 1) hg187 (Sub.of ⟨rfl, rfl, rfl, rfl, rfl, rfl, rfl, rfl, rfl, rfl, rfl, rfl, rfl, rfl, trivial⟩) (Sat.pick [0, 0, 0, 0] h210)
                      · refine C.cond_f rfl (dec_f hc188) ?_
                        refine C.exit ?_
                        refine QA.then_exit ?_
                        refine QA.then_exit ?_
                        obtain rfl := sp_ret1 hm
                        exact QA.left newest_4 (Sub.of ⟨rfl, rfl, rfl, rfl, rfl, rfl, rfl, rfl, rfl, rfl, rfl, trivial⟩) ⟨hg187, (Sat.pick [0, 0, 0, 0] h185)⟩
                    · rintro newest_5 w212 ⟨rfl, h213⟩
                      have hm := hm183
                      show QA _ _ [(2, (.bool false)), (3, (.slice r1132 r3_2.length r2133)), (4, (.slice a143 ((came ++ [x]).length) c144)), (8, (.pointer (some ⟨b170, 0, none⟩))), (9, (.pointer (some ⟨b176, 0, none⟩))), (18, (.slice a l.length c)), (19, (vI (l.length : Int))), (20, (vI t20)), (44, (.slice a143 ((came ++ [x]).length) c144)), (45, (vI ((came ++ [x]).length : Int))), (46, (vI t46_2))] _ _
                      refine QA.block_here ?_
                      refine QA.then_normal ?_
                      refine C.seq ?_
                      refine C.region ?_
                      refine G.yl (yl_move rfl) rfl rfl rfl ?_
                      refine G.yl (yl_fieldAddr fo31_0 rfl) rfl rfl rfl ?_
                      refine G.yl (yl_loadN (vs := (bytesV (List.ofFn (n := 20) x_4.Publisher))) ag26 sz26 (by simp [bytesV_length]) rfl (View.span_head (Sat.pick [2] h213).isBlk.view0)) rfl rfl rfl ?_
                      obtain ⟨⟨r1_11, r2_3⟩, hy214, hm⟩ := sp_bind hm
                      refine G.does (does_fn 0 rfl rfl rfl en13 h213 (fun U hU hp hr hs => M_roster_Get_v_w (l := r3_2) (publisher := x_4.Publisher) (Rest.view hr) (Sat.own_cap h213).1 hp hy214)) rfl rfl rfl ?_
                      rintro _ w215 ⟨U218, hb219, rfl, h217⟩
                      have h216 : Sat W w215 [ow el_G_api_Instance r1132 r2133 31 r3_2, ow el_G_api_Instance a143 c144 31 (came ++ [x]), blk b170 (bytesV (List.ofFn (n := 20) x_4.Publisher) ++ ([(v64 x_4.Seq), (v64 x_4.Born), (v32 x_4.Life), (.bool x_4.Gone), (v16 x_4.Priority), (v16 x_4.Weight), (v16 x_4.Port), (.string (str x_4.Target))] : List Value)) 31, blk b176 (bytesV (List.ofFn (n := 20) newest_5.Publisher) ++ ([(v64 newest_5.Seq), (v64 newest_5.Born), (v32 newest_5.Life), (.bool newest_5.Gone), (v16 newest_5.Priority), (v16 newest_5.Weight), (v16 newest_5.Port), (.string (str newest_5.Target))] : List Value)) 31] := hb219 h217
                      refine G.yl (yl_move rfl) rfl rfl rfl ?_
                      refine G.yl (yl_extract rfl rfl) rfl rfl rfl ?_
                      refine G.yl (yl_extract rfl rfl) rfl rfl rfl ?_
                      refine G.does (does_alloc (cs := (bytesV (List.ofFn (n := 20) (fun _ => 0)) ++ ([(.int .u64 0), (.int .u64 0), (.int .u32 0), (.bool false), (.int .u16 0), (.int .u16 0), (.int .u16 0), (.string (str ([] : List UInt8)))] : List Value))) h216 z31 rfl) rfl rfl rfl ?_
                      rintro _ w221 ⟨b220, rfl, h222⟩
                      refine G.unit (does_store (vs := (bytesV (List.ofFn (n := 20) r1_11.Publisher) ++ ([(v64 r1_11.Seq), (v64 r1_11.Born), (v32 r1_11.Life), (.bool r1_11.Gone), (v16 r1_11.Priority), (v16 r1_11.Weight), (v16 r1_11.Port), (.string (str r1_11.Target))] : List Value))) h222 sz31 rfl rfl rfl (by simp [bytesV_length]) (List.forall_mem_append.2 ⟨(bytesV_one _), (List.forall_mem_cons.2 ⟨rfl, (List.forall_mem_cons.2 ⟨rfl, (List.forall_mem_cons.2 ⟨rfl, (List.forall_mem_cons.2 ⟨rfl, (List.forall_mem_cons.2 ⟨rfl, (List.forall_mem_cons.2 ⟨rfl, (List.forall_mem_cons.2 ⟨rfl, (List.forall_mem_cons.2 ⟨rfl, (fun _ hh => by cases hh)⟩)⟩)⟩)⟩)⟩)⟩)⟩)⟩)⟩) (by simp [bytesV_length])) rfl rfl ?_
                      rintro _ w223 h225
                      have h224 : Sat W w223 [blk b220 (bytesV (List.ofFn (n := 20) r1_11.Publisher) ++ ([(v64 r1_11.Seq), (v64 r1_11.Born), (v32 r1_11.Life), (.bool r1_11.Gone), (v16 r1_11.Priority), (v16 r1_11.Weight), (v16 r1_11.Port), (.string (str r1_11.Target))] : List Value)) 31, ow el_G_api_Instance r1132 r2133 31 r3_2, ow el_G_api_Instance a143 c144 31 (came ++ [x]), blk b170 (bytesV (List.ofFn (n := 20) x_4.Publisher) ++ ([(v64 x_4.Seq), (v64 x_4.Born), (v32 x_4.Life), (.bool x_4.Gone), (v16 x_4.Priority), (v16 x_4.Weight), (v16 x_4.Port), (.string (str x_4.Target))] : List Value)) 31, blk b176 (bytesV (List.ofFn (n := 20) newest_5.Publisher) ++ ([(v64 newest_5.Seq), (v64 newest_5.Born), (v32 newest_5.Life), (.bool newest_5.Gone), (v16 newest_5.Priority), (v16 newest_5.Weight), (v16 newest_5.Port), (.string (str newest_5.Target))] : List Value)) 31] := sl_blk (setN_all _ _ (by simp [bytesV_length])) h225
                      refine G.yl (yl_assign rfl) rfl rfl rfl ?_
                      refine G.nil ?_
                      refine QA.then_normal ?_
                      refine C.join (γ := Bool) (fun g => match g with | t83_2 => [(2, (.bool false)), (3, (.slice r1132 r3_2.length r2133)), (4, (.slice a143 ((came ++ [x]).length) c144)), (18, (.slice a l.length c)), (19, (vI (l.length : Int))), (20, (vI t20)), (44, (.slice a143 ((came ++ [x]).length) c144)), (45, (vI ((came ++ [x]).length : Int))), (46, (vI t46_2)), (83, (.bool t83_2))]) (fun g ww => match g with | t83_2 => (M_signpostlaw12_RosterNewest_v_k11 t46_2 t83_2 = some y__5) ∧ Sat W ww [ow el_G_api_Instance r1132 r2133 31 r3_2, ow el_G_api_Instance a143 c144 31 (came ++ [x])]) ?_ ?_
                      · refine C.region ?_
                        refine G.yl (yl_move rfl) rfl rfl rfl ?_
                        refine G.yl (yl_not rfl) rfl rfl rfl ?_
                        refine G.yl (yl_move rfl) rfl rfl rfl ?_
                        rcases sp_b hm with ⟨hc226, hm⟩ | ⟨hc226, hm⟩
                        · refine G.on rfl rfl (not_f hc226) ?_
                          refine G.yl (yl_loadN (vs := (bytesV (List.ofFn (n := 20) r1_11.Publisher) ++ ([(v64 r1_11.Seq), (v64 r1_11.Born), (v32 r1_11.Life), (.bool r1_11.Gone), (v16 r1_11.Priority), (v16 r1_11.Weight), (v16 r1_11.Port), (.string (str r1_11.Target))] : List Value))) ag31 sz31 (by simp [bytesV_length]) rfl (h224.isBlk.view0)) rfl rfl rfl ?_
                          refine G.on rfl rfl (not_f hc226) ?_
                          refine G.yl (yl_loadN (vs := (bytesV (List.ofFn (n := 20) newest_5.Publisher) ++ ([(v64 newest_5.Seq), (v64 newest_5.Born), (v32 newest_5.Life), (.bool newest_5.Gone), (v16 newest_5.Priority), (v16 newest_5.Weight), (v16 newest_5.Port), (.string (str newest_5.Target))] : List Value))) ag31 sz31 (by simp [bytesV_length]) rfl ((Sat.pick [4] h224).isBlk.view0)) rfl rfl rfl ?_
                          refine G.on rfl rfl (not_f hc226) ?_
                          obtain ⟨hc227, hm⟩ := sp_chk hm
                          obtain ⟨hc228, hm⟩ := sp_chk hm
                          refine G.yl (yl_ne_agg (r := decide (r1_11 = newest_5)) (vs := (el_G_api_Instance.f r1_11)) (us := (el_G_api_Instance.f newest_5)) rfl rfl (by rw [decide_eq_true_eq]; exact G_api_Instance_inj) eqT31.1 eqT31.2.1 eqT31.2.2.1 eqT31.2.2.2.1 eqT31.2.2.2.2 (G_api_Instance_fits r1_11 hc227) (G_api_Instance_fits newest_5 hc228)) rfl rfl rfl ?_
                          refine G.yl (yl_pick_f rfl (not_f hc226) rfl) rfl rfl rfl ?_
                          refine G.nil ?_
                          exact QA.join (!(decide (r1_11 = newest_5))) (Sub.of ⟨rfl, rfl, rfl, rfl, rfl, rfl, rfl, rfl, rfl, rfl, trivial⟩) ⟨hm, (Sat.pick [1, 1] h224)⟩
                        · refine G.offU rfl rfl (not_t hc226) rfl ?_
                          refine G.offU rfl rfl (not_t hc226) rfl ?_
                          refine G.offU rfl rfl (not_t hc226) rfl ?_
                          refine G.yl (yl_pick_t rfl (not_t hc226) rfl) rfl rfl rfl ?_
                          refine G.nil ?_
                          exact QA.join true (Sub.of ⟨rfl, rfl, rfl, rfl, rfl, rfl, rfl, rfl, rfl, rfl, trivial⟩) ⟨hm, (Sat.pick [1, 1] h224)⟩
                      · rintro t83_2 w229 ⟨hm, h230⟩
                        show C _ _ _ [(2, (.bool false)), (3, (.slice r1132 r3_2.length r2133)), (4, (.slice a143 ((came ++ [x]).length) c144)), (18, (.slice a l.length c)), (19, (vI (l.length : Int))), (20, (vI t20)), (44, (.slice a143 ((came ++ [x]).length) c144)), (45, (vI ((came ++ [x]).length : Int))), (46, (vI t46_2)), (83, (.bool t83_2))] _ _
                        unfold M_signpostlaw12_RosterNewest_v_k11 at hm
                        rcases sp_b hm with ⟨hc231, hm⟩ | ⟨hc231, hm⟩
                        · refine C.cond_t rfl hc231 ?_
                          refine C.seq ?_
                          refine C.region ?_
                          refine G.yl (yl_assign rfl) rfl rfl rfl ?_
                          refine G.nil ?_
                          refine QA.then_normal ?_
                          refine C.ret ?_
                          refine QA.block_ret ?_
                          refine QA.then_ret ?_
                          refine QA.then_ret ?_
                          refine QA.past (by simp) ?_
                          refine QA.block_ret ?_
                          refine QA.block_ret ?_
                          refine QA.then_ret ?_
                          refine QA.then_ret ?_
                          refine QA.past (by simp) ?_
                          refine QA.block_ret ?_
                          refine QA.then_ret ?_
                          refine QA.ret1 rfl rfl ?_
                          obtain rfl := sp_ret1 hm
                          obtain rfl : .inr false = o_4 := hg167
                          have hm := hm163
                          obtain rfl := sp_ret1 hm
                          obtain rfl : .inr false = o := hg13
                          have hm : some false = some r1 := hm9
                          obtain rfl := sp_ret1 hm
                          exact ⟨rfl, (Sat.pick [] h230)⟩
                        · refine C.cond_f rfl hc231 ?_
                          refine C.skip ?_
                          refine QA.block_normal ?_
                          refine QA.then_normal ?_
                          refine C.region ?_
                          obtain ⟨hc232, hm⟩ := sp_chk hm
                          refine G.yl (yl_addI rfl rfl hc232) rfl rfl rfl ?_
                          refine G.yl (yl_move rfl) rfl rfl rfl ?_
                          refine G.nil ?_
                          obtain rfl := sp_ret1 hm
                          exact QA.againO (t46_2 + 1) hg167 (Sub.of ⟨rfl, rfl, rfl, rfl, rfl, rfl, rfl, rfl, rfl, trivial⟩) (Sat.pick [0, 0] h230)
                  · refine C.cond_f rfl (dec_f hc168) ?_
                    refine C.exit ?_
                    refine QA.then_exit ?_
                    refine QA.then_exit ?_
                    obtain rfl := sp_ret1 hm
                    exact QA.left () (Sub.of ⟨rfl, rfl, rfl, rfl, rfl, rfl, trivial⟩) ⟨hg167, (Sat.pick [0, 0] h165)⟩
                · rintro _ w233 ⟨rfl, h234⟩
                  have hm := hm163
                  show QA _ _ [(2, (.bool false)), (3, (.slice r1132 r3_2.length r2133)), (4, (.slice a143 ((came ++ [x]).length) c144)), (18, (.slice a l.length c)), (19, (vI (l.length : Int))), (20, (vI t20))] _ _
                  refine QA.block_here ?_
                  refine QA.block_normal ?_
                  refine QA.then_normal ?_
                  refine C.region ?_
                  obtain ⟨hc235, hm⟩ := sp_chk hm
                  refine G.yl (yl_addI rfl rfl hc235) rfl rfl rfl ?_
                  refine G.yl (yl_move rfl) rfl rfl rfl ?_
                  refine G.nil ?_
                  obtain rfl := sp_ret1 hm
                  exact QA.againO (r1132, r2133, r3_2, a143, c144, came ++ [x], t20 + 1) hg13 (Sub.of ⟨rfl, rfl, rfl, rfl, rfl, rfl, trivial⟩) (Sat.pick [0, 0] h234)
            · refine C.cond_t rfl (not_t hc153) ?_
              refine C.seq ?_
              refine C.region ?_
              refine G.yl (yl_assign rfl) rfl rfl rfl ?_
              refine G.nil ?_
              refine QA.then_normal ?_
              refine C.ret ?_
              refine QA.then_ret ?_
              refine QA.block_ret ?_
              refine QA.then_ret ?_
              refine QA.then_ret ?_
              refine QA.past (by simp) ?_
              refine QA.block_ret ?_
              refine QA.then_ret ?_
              refine QA.ret1 rfl rfl ?_
              obtain rfl := sp_ret1 hm
              obtain rfl : .inr false = o := hg13
              have hm : some false = some r1 := hm9
              obtain rfl := sp_ret1 hm
              exact ⟨rfl, (Sat.pick [] h149)⟩
        · refine C.cond_t rfl (not_t hc28) ?_
          refine C.seq ?_
          refine C.region ?_
          obtain ⟨r1_12, hy236, hm⟩ := sp_bind hm
          refine G.does (does_fn 0 rfl rfl rfl en7 h24 (fun U hU hp hr hs => M_signpostlaw12_lives_w hp hy236)) rfl rfl rfl ?_
          rintro _ w237 ⟨U240, hb241, rfl, h239⟩
          have h238 : Sat W w237 [blk b16 (bytesV (List.ofFn (n := 20) x.Publisher) ++ ([(v64 x.Seq), (v64 x.Born), (v32 x.Life), (.bool x.Gone), (v16 x.Priority), (v16 x.Weight), (v16 x.Port), (.string (str x.Target))] : List Value)) 31, ow el_G_api_Instance a_2 c_2 31 out, ow el_G_api_Instance a_3 c_3 31 came] := hb241 h239
          refine G.yl (yl_assign rfl) rfl rfl rfl ?_
          refine G.nil ?_
          refine QA.then_normal ?_
          refine C.ret ?_
          refine QA.then_ret ?_
          refine QA.block_ret ?_
          refine QA.then_ret ?_
          refine QA.then_ret ?_
          refine QA.past (by simp) ?_
          refine QA.block_ret ?_
          refine QA.then_ret ?_
          refine QA.ret1 rfl rfl ?_
          obtain rfl := sp_ret1 hm
          obtain rfl : .inr r1_12 = o := hg13
          have hm : some r1_12 = some r1 := hm9
          obtain rfl := sp_ret1 hm
          exact ⟨rfl, (Sat.pick [] h238)⟩
      · refine C.cond_f rfl (dec_f hc14) ?_
        refine C.exit ?_
        refine QA.then_exit ?_
        refine QA.then_exit ?_
        obtain rfl := sp_ret1 hm
        exact QA.left () (Sub.of ⟨rfl, trivial⟩) ⟨hg13, (Sat.pick [] h11)⟩
    · rintro _ w242 ⟨rfl, h243⟩
      have hm := hm9
      show QA _ _ [(2, (.bool false))] _ _
      refine QA.block_here ?_
      refine QA.then_normal ?_
      refine C.seq ?_
      refine C.region ?_
      obtain ⟨r1_13, hy244, hm⟩ := sp_bind hm
      refine G.does (does_fn 0 rfl rfl rfl en7 h243 (fun U hU hp hr hs => M_signpostlaw12_lives_w hp hy244)) rfl rfl rfl ?_
      rintro _ w245 ⟨U248, hb249, rfl, h247⟩
      have h246 : Sat W w245 [] := hb249 h247
      refine G.yl (yl_assign rfl) rfl rfl rfl ?_
      refine G.nil ?_
      refine QA.then_normal ?_
      refine C.ret ?_
      refine QA.ret1 rfl rfl ?_
      obtain rfl := sp_ret1 hm
      exact ⟨rfl, (Sat.pick [] h246)⟩
  · refine C.cond_t rfl (not_t hc7) ?_
    refine C.seq ?_
    refine C.region ?_
    obtain ⟨r1_14, hy250, hm⟩ := sp_bind hm
    refine G.does (does_fn 0 rfl rfl rfl en7 h3 (fun U hU hp hr hs => M_signpostlaw12_lives_w hp hy250)) rfl rfl rfl ?_
    rintro _ w251 ⟨U254, hb255, rfl, h253⟩
    have h252 : Sat W w251 [] := hb255 h253
    refine G.yl (yl_assign rfl) rfl rfl rfl ?_
    refine G.nil ?_
    refine QA.then_normal ?_
    refine C.ret ?_
    refine QA.then_ret ?_
    refine QA.ret1 rfl rfl ?_
    obtain rfl := sp_ret1 hm
    exact ⟨rfl, (Sat.pick [] h252)⟩
end Go.Proofs.Ytmjcemhojhbijaa
