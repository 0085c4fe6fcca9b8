/-
  That the functions of the program compute what their Lean functions say, part 2. No condition.
-/
import Derived.Test.YtaaahjcldomnbaaContactReadsW1
namespace Go.Proofs.Ytaaahjcldomnbaa
open Go Go.RowKit
set_option linter.unusedVariables false
set_option linter.unusedSimpArgs false
set_option linter.unnecessarySimpa false
set_option maxRecDepth 20000 in
theorem M_signpostref08_ReadList_pv_w {W : Base} {w : World} {b : Nat} {a : Option Addr} {c : Nat} {B : List UInt8} {At : Int} {Bad : Bool} (hv74 : V W a (elU8.row B)) (hq75 : B.length ≤ c) (h : Sat W w [blk b [(.slice a B.length c), (vI At), (.bool Bad)] 73]) {r3 : List G_signpostref08_Contact} {r4 : Int} {r5 : Bool} (hm : M_signpostref08_ReadList_pv B At Bad = some (r3, r4, r5)) :
    Calls Try.prog 38 #[(.pointer (some ⟨b, 0, none⟩))] w (Ret fun v w' => ∃ r1 : Option Addr, ∃ r2 : Nat, v = (.slice r1 r3.length r2) ∧ Sat W w' [ow el_G_signpostref08_Contact r1 r2 66 r3, blk b [(.slice a B.length c), (vI r4), (.bool r5)] 73]) := by
  unfold M_signpostref08_ReadList_pv at hm
  refine C.enter (N := 36) Try.func38 rfl Try.ntmps38 rfl ?_
  show C _ _ _ [(0, (.pointer (some ⟨b, 0, none⟩)))] _ _
  refine C.seq ?_
  refine C.region ?_
  refine G.yl (yl_assign rfl) rfl rfl rfl ?_
  refine G.nil ?_
  refine QA.then_normal ?_
  refine C.seq ?_
  refine C.region ?_
  refine G.yl (yl_move rfl) rfl rfl rfl ?_
  obtain ⟨⟨r1_2, r2_2, r3_2⟩, hy3, hm⟩ := sp_bind hm
  refine G.does (does_fn 1 rfl rfl rfl en78 (Sat.pick [0] h) (fun U hU hp hr hs => M_signpostref01_Reader_Num_pv_w (hs.v hv74) hq75 hp hy3)) rfl rfl rfl ?_
  rintro _ w4 ⟨U7, hb8, rfl, h6⟩
  have h5 : Sat W w4 [blk b [(.slice a B.length c), (vI r2_2), (.bool r3_2)] 73] := hb8 h6
  obtain ⟨hc9, hm⟩ := sp_chk hm
  refine G.yl (yl_64I us112 Try.underlying3 rfl hc9) rfl rfl rfl ?_
  refine G.yl (yl_assign rfl) rfl rfl rfl ?_
  refine G.nil ?_
  refine QA.then_normal ?_
  refine C.seq ?_
  refine C.region ?_
  refine G.yl (yl_assign rfl) rfl rfl rfl ?_
  refine G.nil ?_
  refine QA.then_normal ?_
  refine C.seq ?_
  refine C.seq ?_
  refine C.region ?_
  refine G.yl (yl_assign rfl) rfl rfl rfl ?_
  refine G.nil ?_
  refine QA.then_normal ?_
  refine C.block ?_
  obtain ⟨o, ho10, hm11⟩ := sp_bind hm
  refine C.left (γ := Int × Bool × Option Addr × Nat × List G_signpostref08_Contact) (.exit 0) (fun g => match g with | (At_3, Bad_3, a_3, c_3, out_2) => [(0, (.pointer (some ⟨b, 0, none⟩))), (2, (.slice none 0 0)), (4, (.slice a_3 out_2.length c_3))]) (fun g ww => match g with | (At_3, Bad_3, a_3, c_3, out_2) => .inl (At_3, Bad_3, out_2) = o ∧ Sat W ww [blk b [(.slice a B.length c), (vI At_3), (.bool Bad_3)] 73, ow el_G_signpostref08_Contact a_3 c_3 66 out_2]) ?_ ?_
  · refine C.loopO (γ := Int × Bool × Option Addr × Nat × List G_signpostref08_Contact × Int) (fun g => match g with | (At_2, Bad_2, a_2, c_2, out, i) => [(0, (.pointer (some ⟨b, 0, none⟩))), (2, (.slice none 0 0)), (3, (vI (r1_2.toNat : Int))), (4, (.slice a_2 out.length c_2)), (5, (vI i))]) (fun g ww => match g with | (At_2, Bad_2, a_2, c_2, out, i) => Sat W ww [blk b [(.slice a B.length c), (vI At_2), (.bool Bad_2)] 73, ow el_G_signpostref08_Contact a_2 c_2 66 out]) (fun g => match g with | (At_2, Bad_2, a_2, c_2, out, i) => (At_2, Bad_2, out, i)) (r2_2, r3_2, none, 0, ([] : List G_signpostref08_Contact), 0) ho10 (Sub.of ⟨rfl, rfl, rfl, rfl, rfl, trivial⟩) (Sat.pick [1, 0] (Sat.own_zero h5 el_G_signpostref08_Contact none 66)) ?_
    rintro ⟨At_2, Bad_2, a_2, c_2, out, i⟩ k14 w12 y_ h13 hm hg15
    show C _ _ _ [(0, (.pointer (some ⟨b, 0, none⟩))), (2, (.slice none 0 0)), (3, (vI (r1_2.toNat : Int))), (4, (.slice a_2 out.length c_2)), (5, (vI i))] _ _
    change M_signpostref08_ReadList_pv_b1 B r1_2 At_2 Bad_2 out i = some y_ at hm
    unfold M_signpostref08_ReadList_pv_b1 at hm
    refine C.seq ?_
    refine C.seq ?_
    refine C.region ?_
    refine G.yl (yl_move rfl) rfl rfl rfl ?_
    refine G.yl (yl_move rfl) rfl rfl rfl ?_
    refine G.yl (yl_ltI rfl rfl) rfl rfl rfl ?_
    refine G.nil ?_
    refine QA.then_normal ?_
    rcases sp_ite hm with ⟨hc16, hm⟩ | ⟨hc16, hm⟩
    · refine C.cond_t rfl (dec_t hc16) ?_
      refine C.skip ?_
      refine QA.then_normal ?_
      refine C.seq ?_
      refine C.block ?_
      refine C.seq ?_
      refine C.region ?_
      refine G.yl (yl_move rfl) rfl rfl rfl ?_
      obtain ⟨⟨r3_3, r4_2, r5_2⟩, hy19, hm⟩ := sp_bind hm
      refine G.does (does_fn 1 rfl rfl rfl en36 (Sat.pick [0, 0] h13) (fun U hU hp hr hs => M_signpostref01_Reader_Take_pv_w (hs.v hv74) hq75 hp hy19)) rfl rfl rfl ?_
      rintro _ w22 ⟨U25, hb26, r120, r221, rfl, h24⟩
      have h23 : Sat W w22 [ow elU8 r120 r221 5 r3_3, blk b [(.slice a B.length c), (vI r4_2), (.bool r5_2)] 73, ow el_G_signpostref08_Contact a_2 c_2 66 out] := hb26 h24
      obtain ⟨⟨r1_3, r2_3⟩, hy27, hm⟩ := sp_bind hm
      refine G.does (does_fn 0 rfl rfl rfl en33 h23 (fun U hU hp hr hs => M_signpostref08_Read_v_w (Rest.view hr) (Sat.own_cap h23).1 hp hy27)) rfl rfl rfl ?_
      rintro _ w28 ⟨U31, hb32, rfl, h30⟩
      have h29 : Sat W w28 [ow elU8 r120 r221 5 r3_3, blk b [(.slice a B.length c), (vI r4_2), (.bool r5_2)] 73, ow el_G_signpostref08_Contact a_2 c_2 66 out] := hb32 h30
      refine G.yl (yl_move rfl) rfl rfl rfl ?_
      refine G.yl (yl_extract rfl rfl) rfl rfl rfl ?_
      refine G.yl (yl_extract rfl rfl) rfl rfl rfl ?_
      refine G.does (does_alloc (cs := (bytesV (List.ofFn (n := 20) (fun _ => 0)) ++ ([(.int .u32 0), (.int .u16 0)] : List Value))) h29 z66 rfl) rfl rfl rfl ?_
      rintro _ w34 ⟨b33, rfl, h35⟩
      refine G.unit (does_store (vs := (bytesV (List.ofFn (n := 20) r1_3.ID) ++ ([(v32 r1_3.Addr.Host), (v16 r1_3.Addr.Port)] : List Value))) h35 sz66 rfl rfl rfl (by simp [bytesV_length]) (List.forall_mem_append.2 ⟨(bytesV_one _), (List.forall_mem_cons.2 ⟨rfl, (List.forall_mem_cons.2 ⟨rfl, (fun _ hh => by cases hh)⟩)⟩)⟩) (by simp [bytesV_length])) rfl rfl ?_
      rintro _ w36 h38
      have h37 : Sat W w36 [blk b33 (bytesV (List.ofFn (n := 20) r1_3.ID) ++ ([(v32 r1_3.Addr.Host), (v16 r1_3.Addr.Port)] : List Value)) 66, ow elU8 r120 r221 5 r3_3, blk b [(.slice a B.length c), (vI r4_2), (.bool r5_2)] 73, ow el_G_signpostref08_Contact a_2 c_2 66 out] := sl_blk (setN_all _ _ (by simp [bytesV_length])) h38
      refine G.yl (yl_assign rfl) rfl rfl rfl ?_
      refine G.nil ?_
      refine QA.then_normal ?_
      refine C.seq ?_
      refine C.seq ?_
      refine C.region ?_
      refine G.yl (yl_move rfl) rfl rfl rfl ?_
      refine G.yl (yl_neI rfl rfl) rfl rfl rfl ?_
      refine G.nil ?_
      refine QA.then_normal ?_
      rcases sp_ite hm with ⟨hc39, hm⟩ | ⟨hc39, hm⟩
      · refine C.cond_f rfl (not_f (dec_t hc39)) ?_
        refine C.skip ?_
        refine QA.then_normal ?_
        refine C.region ?_
        refine G.yl (yl_move rfl) rfl rfl rfl ?_
        refine G.yl (yl_loadN (vs := (bytesV (List.ofFn (n := 20) r1_3.ID) ++ ([(v32 r1_3.Addr.Host), (v16 r1_3.Addr.Port)] : List Value))) ag66 sz66 (by simp [bytesV_length]) rfl (h37.isBlk.view0)) rfl rfl rfl ?_
        refine G.does (does_lit (E := el_G_signpostref08_Contact) (l := [r1_3]) (vs := [(.agg (bytesV (List.ofFn (n := 20) r1_3.ID) ++ ([(v32 r1_3.Addr.Host), (v16 r1_3.Addr.Port)] : List Value)).toArray)]) (cs := (bytesV (List.ofFn (n := 20) r1_3.ID) ++ ([(v32 r1_3.Addr.Host), (v16 r1_3.Addr.Port)] : List Value))) (e := 66) h37 rfl (by kernel_rfl) rfl rfl (by decide)) rfl rfl rfl ?_
        rintro _ w41 ⟨a40, rfl, h42⟩
        obtain ⟨hc43, hm⟩ := sp_chk hm
        refine G.does (does_app (E := el_G_signpostref08_Contact) (l := out) (l2 := [r1_3]) Try.underlying76 el66 (Sat.pick [4, 0, 0, 0, 0] h42) rfl rfl rfl rfl (by decide) (Sat.own_view h42) hc43 (by decide)) rfl rfl rfl ?_
        rintro _ w46 ⟨a44, c45, rfl, h47⟩
        refine G.yl (yl_assign rfl) rfl rfl rfl ?_
        refine G.nil ?_
        refine QA.block_normal ?_
        refine QA.then_normal ?_
        refine C.region ?_
        refine G.yl (yl_move rfl) rfl rfl rfl ?_
        obtain ⟨hc48, hm⟩ := sp_chk hm
        refine G.yl (yl_addI rfl rfl hc48) rfl rfl rfl ?_
        refine G.yl (yl_assign rfl) rfl rfl rfl ?_
        refine G.nil ?_
        obtain rfl := sp_ret1 hm
        exact QA.againO (r4_2, r5_2, a44, c45, out ++ [r1_3], i + 1) hg15 (Sub.of ⟨rfl, rfl, rfl, rfl, rfl, trivial⟩) (Sat.pick [4, 0] h47)
      · refine C.cond_t rfl (not_t (dec_f hc39)) ?_
        refine C.seq ?_
        refine C.region ?_
        refine G.yl (yl_move rfl) rfl rfl rfl ?_
        obtain ⟨⟨r3_4, r4_3, r5_3⟩, hy51, hm⟩ := sp_bind hm
        refine G.does (does_fn 1 rfl rfl rfl en36 (Sat.pick [2, 0, 0, 0] h37) (fun U hU hp hr hs => M_signpostref01_Reader_Take_pv_w (hs.v hv74) hq75 hp hy51)) rfl rfl rfl ?_
        rintro _ w54 ⟨U57, hb58, r152, r253, rfl, h56⟩
        have h55 : Sat W w54 [ow elU8 r152 r253 5 r3_4, blk b [(.slice a B.length c), (vI r4_3), (.bool r5_3)] 73, blk b33 (bytesV (List.ofFn (n := 20) r1_3.ID) ++ ([(v32 r1_3.Addr.Host), (v16 r1_3.Addr.Port)] : List Value)) 66, ow elU8 r120 r221 5 r3_3, ow el_G_signpostref08_Contact a_2 c_2 66 out] := hb58 h56
        refine G.nil ?_
        refine QA.then_normal ?_
        refine C.seq ?_
        refine C.region ?_
        refine G.yl (yl_assign rfl) rfl rfl rfl ?_
        refine G.nil ?_
        refine QA.then_normal ?_
        refine C.ret ?_
        refine QA.then_ret ?_
        refine QA.block_ret ?_
        refine QA.then_ret ?_
        refine QA.then_ret ?_
        refine QA.past (by simp) ?_
        refine QA.block_ret ?_
        refine QA.then_ret ?_
        refine QA.ret1 rfl rfl ?_
        obtain rfl := sp_ret1 hm
        obtain rfl : .inr (([] : List G_signpostref08_Contact), r4_3, r5_3) = o := hg15
        have hm : some (([] : List G_signpostref08_Contact), r4_3, r5_3) = some (r3, r4, r5) := hm11
        obtain ⟨rfl, rfl, rfl⟩ := sp_ret3 hm
        exact ⟨none, 0, rfl, (Sat.pick [0, 1] (Sat.own_zero h55 el_G_signpostref08_Contact none 66))⟩
    · refine C.cond_f rfl (dec_f hc16) ?_
      refine C.exit ?_
      refine QA.then_exit ?_
      refine QA.then_exit ?_
      obtain rfl := sp_ret1 hm
      exact QA.left (At_2, Bad_2, a_2, c_2, out) (Sub.of ⟨rfl, rfl, rfl, trivial⟩) ⟨hg15, (Sat.pick [0, 0] h13)⟩
  · rintro ⟨At_3, Bad_3, a_3, c_3, out_2⟩ w59 ⟨rfl, h60⟩
    have hm := hm11
    show QA _ _ [(0, (.pointer (some ⟨b, 0, none⟩))), (2, (.slice none 0 0)), (4, (.slice a_3 out_2.length c_3))] _ _
    refine QA.block_here ?_
    refine QA.then_normal ?_
    refine C.seq ?_
    refine C.seq ?_
    refine C.region ?_
    refine G.yl (yl_move rfl) rfl rfl rfl ?_
    obtain ⟨r1_4, hy61, hm⟩ := sp_bind hm
    refine G.does (does_fn 0 rfl rfl rfl en45 h60 (fun U hU hp hr hs => M_signpostref08_GoodList_v_w (Rest.view (Rest.front 1 hr)) (Sat.own_cap (Sat.pick [1] h60)).1 hp hy61)) rfl rfl rfl ?_
    rintro _ w62 ⟨U65, hb66, rfl, h64⟩
    have h63 : Sat W w62 [blk b [(.slice a B.length c), (vI At_3), (.bool Bad_3)] 73, ow el_G_signpostref08_Contact a_3 c_3 66 out_2] := hb66 h64
    refine G.yl (yl_not rfl) rfl rfl rfl ?_
    refine G.nil ?_
    refine QA.then_normal ?_
    rcases sp_b hm with ⟨hc67, hm⟩ | ⟨hc67, hm⟩
    · refine C.cond_f rfl (not_f hc67) ?_
      refine C.skip ?_
      refine QA.then_normal ?_
      refine C.seq ?_
      refine C.region ?_
      refine G.yl (yl_move rfl) rfl rfl rfl ?_
      refine G.yl (yl_assign rfl) rfl rfl rfl ?_
      refine G.nil ?_
      refine QA.then_normal ?_
      refine C.ret ?_
      refine QA.ret1 rfl rfl ?_
      obtain ⟨rfl, rfl, rfl⟩ := sp_ret3 hm
      exact ⟨a_3, c_3, rfl, (Sat.pick [1, 0] h63)⟩
    · refine C.cond_t rfl (not_t hc67) ?_
      refine C.seq ?_
      refine C.region ?_
      refine G.yl (yl_move rfl) rfl rfl rfl ?_
      obtain ⟨⟨r3_5, r4_4, r5_4⟩, hy70, hm⟩ := sp_bind hm
      refine G.does (does_fn 1 rfl rfl rfl en36 (Sat.pick [0, 0] h63) (fun U hU hp hr hs => M_signpostref01_Reader_Take_pv_w (hs.v hv74) hq75 hp hy70)) rfl rfl rfl ?_
      rintro _ w73 ⟨U76, hb77, r171, r272, rfl, h75⟩
      have h74 : Sat W w73 [ow elU8 r171 r272 5 r3_5, blk b [(.slice a B.length c), (vI r4_4), (.bool r5_4)] 73, ow el_G_signpostref08_Contact a_3 c_3 66 out_2] := hb77 h75
      refine G.nil ?_
      refine QA.then_normal ?_
      refine C.seq ?_
      refine C.region ?_
      refine G.yl (yl_assign rfl) rfl rfl rfl ?_
      refine G.nil ?_
      refine QA.then_normal ?_
      refine C.ret ?_
      refine QA.then_ret ?_
      refine QA.ret1 rfl rfl ?_
      obtain ⟨rfl, rfl, rfl⟩ := sp_ret3 hm
      exact ⟨none, 0, rfl, (Sat.pick [0, 1] (Sat.own_zero h74 el_G_signpostref08_Contact none 66))⟩
set_option maxRecDepth 20000 in
theorem M_signpostlaw08_One_w {W : Base} {w : World} {c : G_api_Contact}  (h : Sat W w [])  (hm : M_signpostlaw08_One c = some ()) :
    Calls Try.prog 39 #[(.agg (bytesV (List.ofFn (n := 20) c.ID) ++ ([(v32 c.Addr.Host), (v16 c.Addr.Port)] : List Value)).toArray)] w (Ret fun v w' => v = (.agg (bytesV (List.ofFn (n := 20) c.ID) ++ ([(v32 c.Addr.Host), (v16 c.Addr.Port)] : List Value)).toArray) ∧ Sat W w' []) := by
  unfold M_signpostlaw08_One at hm
  refine C.enter (N := 8) Try.func39 rfl Try.ntmps39 rfl ?_
  show C _ _ _ [(0, (.agg (bytesV (List.ofFn (n := 20) c.ID) ++ ([(v32 c.Addr.Host), (v16 c.Addr.Port)] : List Value)).toArray))] _ _
  refine C.seq ?_
  refine C.region ?_
  refine G.does (does_box (cs := (bytesV (List.ofFn (n := 20) c.ID) ++ ([(v32 c.Addr.Host), (v16 c.Addr.Port)] : List Value))) h rfl rfl) rfl rfl rfl ?_
  rintro _ w2 ⟨b1, rfl, h3⟩
  refine G.does (does_alloc (cs := (bytesV (List.ofFn (n := 20) (fun _ => 0)) ++ ([(.int .u32 0), (.int .u16 0)] : List Value))) h3 z66 rfl) rfl rfl rfl ?_
  rintro _ w5 ⟨b4, rfl, h6⟩
  refine G.nil ?_
  refine QA.then_normal ?_
  refine C.seq ?_
  refine C.region ?_
  refine G.yl (yl_fieldAddr fo60_0 rfl) rfl rfl rfl ?_
  refine G.yl (yl_loadN (vs := (bytesV (List.ofFn (n := 20) c.ID))) ag55 sz55 (by simp [bytesV_length]) rfl (View.span_head (Sat.pick [1] h6).isBlk.view0)) rfl rfl rfl ?_
  refine G.yl (yl_fieldAddr fo60_1 rfl) rfl rfl rfl ?_
  refine G.yl (yl_loadN (vs := [(v32 c.Addr.Host), (v16 c.Addr.Port)]) ag58 sz58 (by simp [bytesV_length]) rfl (View.span_tail (Sat.pick [1] h6).isBlk.view0)) rfl rfl rfl ?_
  refine G.yl (yl_build (vs := [(.agg (bytesV (List.ofFn (n := 20) c.ID)).toArray), (.agg #[(v32 c.Addr.Host), (v16 c.Addr.Port)])]) (cells := (bytesV (List.ofFn (n := 20) c.ID) ++ ([(v32 c.Addr.Host), (v16 c.Addr.Port)] : List Value)).toArray) rfl (by kernel_rfl)) rfl rfl rfl ?_
  refine G.unit (does_store (vs := (bytesV (List.ofFn (n := 20) c.ID) ++ ([(v32 c.Addr.Host), (v16 c.Addr.Port)] : List Value))) h6 sz66 rfl rfl rfl (by simp [bytesV_length]) (List.forall_mem_append.2 ⟨(bytesV_one _), (List.forall_mem_cons.2 ⟨rfl, (List.forall_mem_cons.2 ⟨rfl, (fun _ hh => by cases hh)⟩)⟩)⟩) (by simp [bytesV_length])) rfl rfl ?_
  rintro _ w7 h9
  have h8 : Sat W w7 [blk b4 (bytesV (List.ofFn (n := 20) c.ID) ++ ([(v32 c.Addr.Host), (v16 c.Addr.Port)] : List Value)) 66, blk b1 (bytesV (List.ofFn (n := 20) c.ID) ++ ([(v32 c.Addr.Host), (v16 c.Addr.Port)] : List Value)) 60] := sl_blk (setN_all _ _ (by simp [bytesV_length])) h9
  refine G.nil ?_
  refine QA.then_normal ?_
  refine C.ret ?_
  refine QA.ret_c rfl (InCell.many (vs := (bytesV (List.ofFn (n := 20) c.ID) ++ ([(v32 c.Addr.Host), (v16 c.Addr.Port)] : List Value))) rfl ag66 sz66 (by simp [bytesV_length]) (h8.isBlk.view0)) ?_
  exact ⟨rfl, (Sat.pick [] h8)⟩
set_option maxRecDepth 20000 in
theorem M_signpostlaw08_Same_vv_w {W : Base} {w : World} {a : Option Addr} {c : Nat} {a2 : List G_api_Contact} {a3 : Option Addr} {c2 : Nat} {b : List G_signpostref08_Contact} (hv_a2 : V W a (el_G_api_Contact.row a2)) (hq_a2 : a2.length ≤ c) (hv_b : V W a3 (el_G_signpostref08_Contact.row b)) (hq_b : b.length ≤ c2) (h : Sat W w []) {r1 : Bool} (hm : M_signpostlaw08_Same_vv a2 b = some r1) :
    Calls Try.prog 40 #[(.slice a a2.length c), (.slice a3 b.length c2)] w (Ret fun v w' => v = (.bool r1) ∧ Sat W w' []) := by
  unfold M_signpostlaw08_Same_vv at hm
  refine C.enter (N := 27) Try.func40 rfl Try.ntmps40 rfl ?_
  show C _ _ _ [(0, (.slice a a2.length c)), (1, (.slice a3 b.length c2))] _ _
  refine C.seq ?_
  refine C.region ?_
  refine G.yl (yl_assign rfl) rfl rfl rfl ?_
  refine G.nil ?_
  refine QA.then_normal ?_
  refine C.seq ?_
  refine C.seq ?_
  refine C.region ?_
  refine G.yl (yl_move rfl) rfl rfl rfl ?_
  refine G.yl (yl_lenE Try.underlying74 rfl) rfl rfl rfl ?_
  refine G.yl (yl_move rfl) rfl rfl rfl ?_
  refine G.yl (yl_lenE Try.underlying76 rfl) rfl rfl rfl ?_
  refine G.yl (yl_neI rfl rfl) rfl rfl rfl ?_
  refine G.nil ?_
  refine QA.then_normal ?_
  rcases sp_ite hm with ⟨hc1, hm⟩ | ⟨hc1, hm⟩
  · refine C.cond_f rfl (not_f (dec_t hc1)) ?_
    refine C.skip ?_
    refine QA.then_normal ?_
    refine C.seq ?_
    refine C.seq ?_
    refine C.region ?_
    refine G.yl (yl_move rfl) rfl rfl rfl ?_
    refine G.yl (yl_lenE Try.underlying74 rfl) rfl rfl rfl ?_
    refine G.yl (yl_move rfl) rfl rfl rfl ?_
    refine G.nil ?_
    refine QA.then_normal ?_
    refine C.block ?_
    obtain ⟨o, ho2, hm3⟩ := sp_bind hm
    refine C.left (γ := Unit) (.exit 0) (fun g => match g with | () => [(4, (.bool false))]) (fun g ww => match g with | () => .inl () = o ∧ Sat W ww []) ?_ ?_
    · refine C.loopO (γ := Int) (fun g => match g with | t14 => [(1, (.slice a3 b.length c2)), (4, (.bool false)), (12, (.slice a a2.length c)), (13, (vI (a2.length : Int))), (14, (vI t14))]) (fun g ww => match g with | t14 => Sat W ww []) (fun g => match g with | t14 => t14) 0 ho2 (Sub.of ⟨rfl, rfl, rfl, rfl, rfl, trivial⟩) (Sat.pick [] h) ?_
      rintro t14 k6 w4 y_ h5 hm hg7
      show C _ _ _ [(1, (.slice a3 b.length c2)), (4, (.bool false)), (12, (.slice a a2.length c)), (13, (vI (a2.length : Int))), (14, (vI t14))] _ _
      change M_signpostlaw08_Same_vv_b1 a2 b t14 = some y_ at hm
      unfold M_signpostlaw08_Same_vv_b1 at hm
      refine C.seq ?_
      refine C.region ?_
      refine G.yl (yl_ltI rfl rfl) rfl rfl rfl ?_
      refine G.nil ?_
      refine QA.then_normal ?_
      refine C.seq ?_
      rcases sp_ite hm with ⟨hc8, hm⟩ | ⟨hc8, hm⟩
      · refine C.cond_t rfl (dec_t hc8) ?_
        refine C.skip ?_
        refine QA.then_normal ?_
        refine C.seq ?_
        refine C.block ?_
        refine C.seq ?_
        refine C.region ?_
        refine G.yl (yl_move rfl) rfl rfl rfl ?_
        obtain ⟨x, hy9, hm⟩ := sp_bind hm
        refine G.yl (yl_ixP (l := a2) sl74 rfl rfl (View.isA (E := el_G_api_Contact) (hv_a2.at_ h5) (by decide) (at?_lt hy9)) rfl (at?_lt hy9)) rfl rfl rfl ?_
        refine G.yl (yl_ldE (E := el_G_api_Contact) ag60 sz60 rfl (hv_a2.at_ h5) (at?_some hy9).2) rfl rfl rfl ?_
        refine G.does (does_alloc (cs := (bytesV (List.ofFn (n := 20) (fun _ => 0)) ++ ([(.int .u32 0), (.int .u16 0)] : List Value))) h5 z60 rfl) rfl rfl rfl ?_
        rintro _ w11 ⟨b10, rfl, h12⟩
        refine G.yl (yl_assign rfl) rfl rfl rfl ?_
        refine G.unit (does_store (vs := (bytesV (List.ofFn (n := 20) x.ID) ++ ([(v32 x.Addr.Host), (v16 x.Addr.Port)] : List Value))) h12 sz60 rfl rfl rfl (by simp [bytesV_length]) (List.forall_mem_append.2 ⟨(bytesV_one _), (List.forall_mem_cons.2 ⟨rfl, (List.forall_mem_cons.2 ⟨rfl, (fun _ hh => by cases hh)⟩)⟩)⟩) (by simp [bytesV_length])) rfl rfl ?_
        rintro _ w13 h15
        have h14 : Sat W w13 [blk b10 (bytesV (List.ofFn (n := 20) x.ID) ++ ([(v32 x.Addr.Host), (v16 x.Addr.Port)] : List Value)) 60] := sl_blk (setN_all _ _ (by simp [bytesV_length])) h15
        refine G.nil ?_
        refine QA.then_normal ?_
        refine C.seq ?_
        refine C.draw (V := fun w' => View w' (some ⟨b10, 0, none⟩) (bytesV (List.ofFn (n := 20) x.ID) ++ ([(v32 x.Addr.Host), (v16 x.Addr.Port)] : List Value)) ∧ View w' a3 (el_G_signpostref08_Contact.row b)) (nd := [0, 5]) (sp := []) (n := 7) rfl h14 rfl rfl ?_
        intro w16 h17
        have hS18 : Cls (fun w' => View w' (some ⟨b10, 0, none⟩) (bytesV (List.ofFn (n := 20) x.ID) ++ ([(v32 x.Addr.Host), (v16 x.Addr.Port)] : List Value)) ∧ View w' a3 (el_G_signpostref08_Contact.row b)) [0, 5] [] #[false, false, false, false, false, false, false] w16 := Cls.keep (⟨h17.isBlk.view0, (hv_b.at_ h17)⟩) (by kernel_rfl)
        refine GH.yr (i := 0) (listed' := #[true, false, false, false, false, false, false]) rfl (by kernel_rfl) rfl rfl (NP.next (NP.block (NP.next (NP.next (NP.left (by simp) (NP.block (NP.next NP.body))))))) rfl rfl rfl (fun w' hw' => yl_loadN (vs := (bytesV (List.ofFn (n := 20) x.ID) ++ ([(v32 x.Addr.Host), (v16 x.Addr.Port)] : List Value))) ag60 sz60 (by simp [bytesV_length]) rfl (hw'.1)) hS18 (fun hS19 => ?_)
        refine GH.yl (i := 2) (listed' := #[true, false, true, false, false, false, false]) rfl (by kernel_rfl) rfl (NP.next (NP.block (NP.next (NP.next (NP.left (by simp) (NP.block (NP.next NP.body))))))) rfl rfl rfl (fun w' => yl_move rfl) hS19 (fun hS20 => ?_)
        refine GH.yl (i := 3) (listed' := #[true, false, true, true, false, false, false]) rfl (by kernel_rfl) rfl (NP.next (NP.block (NP.next (NP.next (NP.left (by simp) (NP.block (NP.next NP.body))))))) rfl rfl rfl (fun w' => yl_move rfl) hS20 (fun hS21 => ?_)
        obtain ⟨x_2, hy22, hm⟩ := sp_bind hm
        refine GH.yl (i := 4) (listed' := #[true, false, true, true, true, false, false]) rfl (by kernel_rfl) rfl (NP.next (NP.block (NP.next (NP.next (NP.left (by simp) (NP.block (NP.next NP.body))))))) rfl rfl rfl (fun w' => yl_ixP (l := b) sl76 rfl rfl (View.isA (E := el_G_signpostref08_Contact) (hv_b.at_ h17) (by decide) (at?_lt hy22)) rfl (at?_lt hy22)) hS21 (fun hS23 => ?_)
        refine GH.yr (i := 5) (listed' := #[true, false, true, true, true, true, false]) rfl (by kernel_rfl) rfl rfl (NP.next (NP.block (NP.next (NP.next (NP.left (by simp) (NP.block (NP.next NP.body))))))) rfl rfl rfl (fun w' hw' => yl_ldE (E := el_G_signpostref08_Contact) ag66 sz66 rfl (hw'.2) (at?_some hy22).2) hS23 (fun hS24 => ?_)
        obtain ⟨_, hy25, hm⟩ := sp_bind hm
        refine GH.does (i := 1) (listed' := #[true, true, true, true, true, true, false]) rfl (by kernel_rfl) rfl rfl rfl rfl (does_fn 0 rfl rfl rfl en39 h17 (fun U hU hp hr hs => M_signpostlaw08_One_w (c := x) hp hy25)) ?_
        rintro _ w26 ⟨U29, hb30, rfl, h28⟩
        have h27 : Sat W w26 [blk b10 (bytesV (List.ofFn (n := 20) x.ID) ++ ([(v32 x.Addr.Host), (v16 x.Addr.Port)] : List Value)) 60] := hb30 h28
        have hS31 : Cls (fun w' => View w' (some ⟨b10, 0, none⟩) (bytesV (List.ofFn (n := 20) x.ID) ++ ([(v32 x.Addr.Host), (v16 x.Addr.Port)] : List Value)) ∧ View w' a3 (el_G_signpostref08_Contact.row b)) [0, 5] [] #[true, true, true, true, true, true, false] w26 := Cls.keep (⟨h27.isBlk.view0, (hv_b.at_ h27)⟩) (by kernel_rfl)
        refine ⟨hS31, ?_⟩
        refine GH.yl (i := 6) (listed' := #[true, true, true, true, true, true, true]) rfl (by kernel_rfl) rfl (NP.next (NP.block (NP.next (NP.next (NP.left (by simp) (NP.block (NP.next NP.body))))))) rfl rfl rfl (fun w' => yl_ne_agg (r := decide ((G_signpostref08_Contact.mk x.ID (G_signpostref06_Addr.mk x.Addr.Host x.Addr.Port)) = x_2)) (vs := (el_G_signpostref08_Contact.f (G_signpostref08_Contact.mk x.ID (G_signpostref06_Addr.mk x.Addr.Host x.Addr.Port)))) (us := (el_G_signpostref08_Contact.f x_2)) rfl rfl (by rw [decide_eq_true_eq]; exact G_signpostref08_Contact_inj) eqT66.1 eqT66.2.1 eqT66.2.2.1 eqT66.2.2.2.1 eqT66.2.2.2.2 (G_signpostref08_Contact_fits (G_signpostref08_Contact.mk x.ID (G_signpostref06_Addr.mk x.Addr.Host x.Addr.Port))) (G_signpostref08_Contact_fits x_2)) hS31 (fun hS32 => ?_)
        refine GH.done (by kernel_rfl) ?_
        refine QA.then_normal ?_
        rcases sp_ite hm with ⟨hc33, hm⟩ | ⟨hc33, hm⟩
        · refine C.cond_f rfl (not_f (dec_t hc33)) ?_
          refine C.skip ?_
          refine QA.block_normal ?_
          refine QA.then_normal ?_
          refine C.region ?_
          obtain ⟨hc34, hm⟩ := sp_chk hm
          refine G.yl (yl_addI rfl rfl hc34) rfl rfl rfl ?_
          refine G.yl (yl_move rfl) rfl rfl rfl ?_
          refine G.nil ?_
          obtain rfl := sp_ret1 hm
          exact QA.againO (t14 + 1) hg7 (Sub.of ⟨rfl, rfl, rfl, rfl, rfl, trivial⟩) (Sat.pick [] h27)
        · refine C.cond_t rfl (not_t (dec_f hc33)) ?_
          refine C.seq ?_
          refine C.region ?_
          refine G.yl (yl_assign rfl) rfl rfl rfl ?_
          refine G.nil ?_
          refine QA.then_normal ?_
          refine C.ret ?_
          refine QA.block_ret ?_
          refine QA.then_ret ?_
          refine QA.then_ret ?_
          refine QA.past (by simp) ?_
          refine QA.block_ret ?_
          refine QA.then_ret ?_
          refine QA.ret1 rfl rfl ?_
          obtain rfl := sp_ret1 hm
          obtain rfl : .inr false = o := hg7
          have hm : some false = some r1 := hm3
          obtain rfl := sp_ret1 hm
          exact ⟨rfl, (Sat.pick [] h27)⟩
      · refine C.cond_f rfl (dec_f hc8) ?_
        refine C.exit ?_
        refine QA.then_exit ?_
        refine QA.then_exit ?_
        obtain rfl := sp_ret1 hm
        exact QA.left () (Sub.of ⟨rfl, trivial⟩) ⟨hg7, (Sat.pick [] h5)⟩
    · rintro _ w35 ⟨rfl, h36⟩
      have hm := hm3
      show QA _ _ [(4, (.bool false))] _ _
      refine QA.block_here ?_
      refine QA.then_normal ?_
      refine C.seq ?_
      refine C.region ?_
      refine G.yl (yl_assign rfl) rfl rfl rfl ?_
      refine G.nil ?_
      refine QA.then_normal ?_
      refine C.ret ?_
      refine QA.ret1 rfl rfl ?_
      obtain rfl := sp_ret1 hm
      exact ⟨rfl, (Sat.pick [] h36)⟩
  · refine C.cond_t rfl (not_t (dec_f hc1)) ?_
    refine C.seq ?_
    refine C.region ?_
    refine G.yl (yl_assign rfl) rfl rfl rfl ?_
    refine G.nil ?_
    refine QA.then_normal ?_
    refine C.ret ?_
    refine QA.then_ret ?_
    refine QA.ret1 rfl rfl ?_
    obtain rfl := sp_ret1 hm
    exact ⟨rfl, (Sat.pick [] h)⟩
set_option maxRecDepth 20000 in
theorem M_octet_rest_left_po_w {W : Base} {w : World} {b : Nat} {a : Option Addr} {c : Nat} {b2 : List UInt8} {open_ : Bool} {bad : Bool}  (h : Sat W w [blk b [(.slice a b2.length c), (.bool open_), (.bool bad)] 122, ow elU8 a c 5 b2])  (hm : M_octet_rest_left_po b2 open_ bad = some ()) :
    Calls Try.prog 79 #[(.pointer (some ⟨b, 0, none⟩))] w (Ret fun v w' => v = (vI (b2.length : Int)) ∧ Sat W w' [blk b [(.slice a b2.length c), (.bool open_), (.bool bad)] 122, ow elU8 a c 5 b2]) := by
  unfold M_octet_rest_left_po at hm
  refine C.enter (N := 8) Try.func79 rfl Try.ntmps79 rfl ?_
  show C _ _ _ [(0, (.pointer (some ⟨b, 0, none⟩)))] _ _
  refine C.seq ?_
  refine C.region ?_
  refine G.yl (yl_assign rfl) rfl rfl rfl ?_
  refine G.nil ?_
  refine QA.then_normal ?_
  refine C.seq ?_
  refine C.region ?_
  refine G.yl (yl_move rfl) rfl rfl rfl ?_
  refine G.yl (yl_nilCheck rfl) rfl rfl rfl ?_
  refine G.yl (yl_fieldAddr fo120_0 rfl) rfl rfl rfl ?_
  refine G.yl (yl_load (v := (.slice a b2.length c)) ag22 rfl (View.at0 (j := 0) h.isBlk.view0 rfl)) rfl rfl rfl ?_
  refine G.yl (yl_lenE Try.underlying22 rfl) rfl rfl rfl ?_
  refine G.yl (yl_assign rfl) rfl rfl rfl ?_
  refine G.nil ?_
  refine QA.then_normal ?_
  refine C.ret ?_
  refine QA.ret1 rfl rfl ?_
  exact ⟨rfl, (Sat.pick [0, 0] h)⟩
set_option maxRecDepth 20000 in
theorem M_octet_Reader_Left_po_w {W : Base} {w : World} {b : Nat} {a : Option Addr} {c : Nat} {b2 : List UInt8} {open_ : Bool} {bad : Bool}  (h : Sat W w [blk b [(.slice a b2.length c), (.bool open_), (.bool bad)] 122, ow elU8 a c 5 b2]) {r1 : Int} (hm : M_octet_Reader_Left_po b2 open_ bad = some r1) :
    Calls Try.prog 41 #[(.pointer (some ⟨b, 0, none⟩))] w (Ret fun v w' => v = (vI r1) ∧ Sat W w' [blk b [(.slice a b2.length c), (.bool open_), (.bool bad)] 122, ow elU8 a c 5 b2]) := by
  unfold M_octet_Reader_Left_po at hm
  refine C.enter (N := 9) Try.func41 rfl Try.ntmps41 rfl ?_
  show C _ _ _ [(0, (.pointer (some ⟨b, 0, none⟩)))] _ _
  refine C.seq ?_
  refine C.region ?_
  refine G.yl (yl_assign rfl) rfl rfl rfl ?_
  refine G.nil ?_
  refine QA.then_normal ?_
  refine C.seq ?_
  refine C.seq ?_
  refine C.region ?_
  refine G.yl (yl_move rfl) rfl rfl rfl ?_
  obtain ⟨_, hy1, hm⟩ := sp_bind hm
  refine G.does (does_fn 2 rfl rfl rfl en73 (Sat.pick [0, 0] h) (fun U hU hp hr hs => M_octet_Reader_none_po_w hp hy1)) rfl rfl rfl ?_
  rintro _ w2 ⟨U5, hb6, rfl, h4⟩
  have h3 : Sat W w2 [blk b [(.slice a b2.length c), (.bool open_), (.bool bad)] 122, ow elU8 a c 5 b2] := hb6 h4
  refine G.nil ?_
  refine QA.then_normal ?_
  rcases sp_b hm with ⟨hc7, hm⟩ | ⟨hc7, hm⟩
  · refine C.cond_f rfl (not_f hc7) ?_
    refine C.skip ?_
    refine QA.then_normal ?_
    refine C.seq ?_
    refine C.region ?_
    refine G.yl (yl_move rfl) rfl rfl rfl ?_
    refine G.yl (yl_nilCheck rfl) rfl rfl rfl ?_
    refine G.yl (yl_fieldAddr fo122_0 rfl) rfl rfl rfl ?_
    obtain ⟨_, hy8, hm⟩ := sp_bind hm
    refine G.does (does_fn 2 rfl rfl rfl en79 (Sat.pick [0, 0] h3) (fun U hU hp hr hs => M_octet_rest_left_po_w hp hy8)) rfl rfl rfl ?_
    rintro _ w9 ⟨U12, hb13, rfl, h11⟩
    have h10 : Sat W w9 [blk b [(.slice a b2.length c), (.bool open_), (.bool bad)] 122, ow elU8 a c 5 b2] := hb13 h11
    refine G.yl (yl_assign rfl) rfl rfl rfl ?_
    refine G.nil ?_
    refine QA.then_normal ?_
    refine C.ret ?_
    refine QA.ret1 rfl rfl ?_
    obtain rfl := sp_ret1 hm
    exact ⟨rfl, (Sat.pick [0, 0] h10)⟩
  · refine C.cond_t rfl (not_t hc7) ?_
    refine C.seq ?_
    refine C.region ?_
    refine G.yl (yl_assign rfl) rfl rfl rfl ?_
    refine G.nil ?_
    refine QA.then_normal ?_
    refine C.ret ?_
    refine QA.then_ret ?_
    refine QA.ret1 rfl rfl ?_
    obtain rfl := sp_ret1 hm
    exact ⟨rfl, (Sat.pick [0, 0] h3)⟩
set_option maxRecDepth 20000 in
theorem M_signpostref01_Reader_Left_pv_w {W : Base} {w : World} {b : Nat} {a : Option Addr} {c : Nat} {B : List UInt8} {At : Int} {Bad : Bool} (hv123 : V W a (elU8.row B)) (hq124 : B.length ≤ c) (h : Sat W w [blk b [(.slice a B.length c), (vI At), (.bool Bad)] 73])  (hm : M_signpostref01_Reader_Left_pv B At Bad = some ()) :
    Calls Try.prog 42 #[(.pointer (some ⟨b, 0, none⟩))] w (Ret fun v w' => v = (vI ((B.length : Int) - At)) ∧ Sat W w' [blk b [(.slice a B.length c), (vI At), (.bool Bad)] 73]) := by
  unfold M_signpostref01_Reader_Left_pv at hm
  refine C.enter (N := 13) Try.func42 rfl Try.ntmps42 rfl ?_
  show C _ _ _ [(0, (.pointer (some ⟨b, 0, none⟩)))] _ _
  refine C.seq ?_
  refine C.region ?_
  refine G.yl (yl_assign rfl) rfl rfl rfl ?_
  refine G.nil ?_
  refine QA.then_normal ?_
  refine C.seq ?_
  refine C.draw (V := fun w' => View w' (some ⟨b, 0, none⟩) [(.slice a B.length c), (vI At), (.bool Bad)]) (nd := [3, 8]) (sp := []) (n := 11) rfl h rfl rfl ?_
  intro w1 h2
  have hS3 : Cls (fun w' => View w' (some ⟨b, 0, none⟩) [(.slice a B.length c), (vI At), (.bool Bad)]) [3, 8] [] #[false, false, false, false, false, false, false, false, false, false, false] w1 := Cls.keep (h2.isBlk.view0) (by kernel_rfl)
  refine GH.yl (i := 0) (listed' := #[true, false, false, false, false, false, false, false, false, false, false]) rfl (by kernel_rfl) rfl (NP.next NP.body) rfl rfl rfl (fun w' => yl_move rfl) hS3 (fun hS4 => ?_)
  refine GH.yl (i := 1) (listed' := #[true, true, false, false, false, false, false, false, false, false, false]) rfl (by kernel_rfl) rfl (NP.next NP.body) rfl rfl rfl (fun w' => yl_nilCheck rfl) hS4 (fun hS5 => ?_)
  refine GH.yl (i := 2) (listed' := #[true, true, true, false, false, false, false, false, false, false, false]) rfl (by kernel_rfl) rfl (NP.next NP.body) rfl rfl rfl (fun w' => yl_fieldAddr fo73_0 rfl) hS5 (fun hS6 => ?_)
  refine GH.yr (i := 3) (listed' := #[true, true, true, true, false, false, false, false, false, false, false]) rfl (by kernel_rfl) rfl rfl (NP.next NP.body) rfl rfl rfl (fun w' hw' => yl_load (v := (.slice a B.length c)) ag22 rfl (View.at0 (j := 0) hw' rfl)) hS6 (fun hS7 => ?_)
  refine GH.yl (i := 4) (listed' := #[true, true, true, true, true, false, false, false, false, false, false]) rfl (by kernel_rfl) rfl (NP.next NP.body) rfl rfl rfl (fun w' => yl_lenE Try.underlying22 rfl) hS7 (fun hS8 => ?_)
  refine GH.yl (i := 5) (listed' := #[true, true, true, true, true, true, false, false, false, false, false]) rfl (by kernel_rfl) rfl (NP.next NP.body) rfl rfl rfl (fun w' => yl_move rfl) hS8 (fun hS9 => ?_)
  refine GH.yl (i := 6) (listed' := #[true, true, true, true, true, true, true, false, false, false, false]) rfl (by kernel_rfl) rfl (NP.next NP.body) rfl rfl rfl (fun w' => yl_nilCheck rfl) hS9 (fun hS10 => ?_)
  refine GH.yl (i := 7) (listed' := #[true, true, true, true, true, true, true, true, false, false, false]) rfl (by kernel_rfl) rfl (NP.next NP.body) rfl rfl rfl (fun w' => yl_fieldAddr fo73_1 rfl) hS10 (fun hS11 => ?_)
  refine GH.yr (i := 8) (listed' := #[true, true, true, true, true, true, true, true, true, false, false]) rfl (by kernel_rfl) rfl rfl (NP.next NP.body) rfl rfl rfl (fun w' hw' => yl_load (v := (vI At)) ag3 rfl (View.at0 (j := 1) hw' rfl)) hS11 (fun hS12 => ?_)
  obtain ⟨hc13, hm⟩ := sp_chk hm
  refine GH.yl (i := 9) (listed' := #[true, true, true, true, true, true, true, true, true, true, false]) rfl (by kernel_rfl) rfl (NP.next NP.body) rfl rfl rfl (fun w' => yl_subI rfl rfl hc13) hS12 (fun hS14 => ?_)
  refine GH.yl (i := 10) (listed' := #[true, true, true, true, true, true, true, true, true, true, true]) rfl (by kernel_rfl) rfl (NP.next NP.body) rfl rfl rfl (fun w' => yl_assign rfl) hS14 (fun hS15 => ?_)
  refine GH.done (by kernel_rfl) ?_
  refine QA.then_normal ?_
  refine C.ret ?_
  refine QA.ret1 rfl rfl ?_
  exact ⟨rfl, (Sat.pick [0] h2)⟩
set_option maxRecDepth 20000 in
theorem M_octet_Reader_Bad_po_w {W : Base} {w : World} {b : Nat} {a : Option Addr} {c : Nat} {b2 : List UInt8} {open_ : Bool} {bad : Bool}  (h : Sat W w [blk b [(.slice a b2.length c), (.bool open_), (.bool bad)] 122, ow elU8 a c 5 b2]) {r1 : Bool} (hm : M_octet_Reader_Bad_po b2 open_ bad = some r1) :
    Calls Try.prog 43 #[(.pointer (some ⟨b, 0, none⟩))] w (Ret fun v w' => v = (.bool r1) ∧ Sat W w' [blk b [(.slice a b2.length c), (.bool open_), (.bool bad)] 122, ow elU8 a c 5 b2]) := by
  unfold M_octet_Reader_Bad_po at hm
  refine C.enter (N := 12) Try.func43 rfl Try.ntmps43 rfl ?_
  show C _ _ _ [(0, (.pointer (some ⟨b, 0, none⟩)))] _ _
  refine C.seq ?_
  refine C.region ?_
  refine G.yl (yl_assign rfl) rfl rfl rfl ?_
  refine G.nil ?_
  refine QA.then_normal ?_
  refine C.seq ?_
  refine C.region ?_
  refine G.yl (yl_move rfl) rfl rfl rfl ?_
  obtain ⟨_, hy1, hm⟩ := sp_bind hm
  refine G.does (does_fn 2 rfl rfl rfl en73 (Sat.pick [0, 0] h) (fun U hU hp hr hs => M_octet_Reader_none_po_w hp hy1)) rfl rfl rfl ?_
  rintro _ w2 ⟨U5, hb6, rfl, h4⟩
  have h3 : Sat W w2 [blk b [(.slice a b2.length c), (.bool open_), (.bool bad)] 122, ow elU8 a c 5 b2] := hb6 h4
  refine G.yl (yl_move rfl) rfl rfl rfl ?_
  rcases sp_b hm with ⟨hc7, hm⟩ | ⟨hc7, hm⟩
  · refine G.on rfl rfl (not_f hc7) ?_
    refine G.yl (yl_move rfl) rfl rfl rfl ?_
    refine G.on rfl rfl (not_f hc7) ?_
    refine G.yl (yl_nilCheck rfl) rfl rfl rfl ?_
    refine G.on rfl rfl (not_f hc7) ?_
    refine G.yl (yl_fieldAddr fo122_0 rfl) rfl rfl rfl ?_
    refine G.on rfl rfl (not_f hc7) ?_
    refine G.yl (yl_fieldAddr fo120_2 rfl) rfl rfl rfl ?_
    refine G.on rfl rfl (not_f hc7) ?_
    refine G.yl (yl_load (v := (.bool bad)) ag4 rfl (View.at0 (j := 2) h3.isBlk.view0 rfl)) rfl rfl rfl ?_
    refine G.yl (yl_pick_f rfl (not_f hc7) rfl) rfl rfl rfl ?_
    refine G.yl (yl_assign rfl) rfl rfl rfl ?_
    refine G.nil ?_
    refine QA.then_normal ?_
    refine C.ret ?_
    refine QA.ret1 rfl rfl ?_
    obtain rfl := sp_ret1 hm
    exact ⟨rfl, (Sat.pick [0, 0] h3)⟩
  · refine G.offU rfl rfl (not_t hc7) rfl ?_
    refine G.offU rfl rfl (not_t hc7) rfl ?_
    refine G.offU rfl rfl (not_t hc7) rfl ?_
    refine G.offU rfl rfl (not_t hc7) rfl ?_
    refine G.offU rfl rfl (not_t hc7) rfl ?_
    refine G.yl (yl_pick_t rfl (not_t hc7) rfl) rfl rfl rfl ?_
    refine G.yl (yl_assign rfl) rfl rfl rfl ?_
    refine G.nil ?_
    refine QA.then_normal ?_
    refine C.ret ?_
    refine QA.ret1 rfl rfl ?_
    obtain rfl := sp_ret1 hm
    exact ⟨rfl, (Sat.pick [0, 0] h3)⟩
set_option maxRecDepth 20000 in
theorem M_octet_Reader_none_z_w {W : Base} {w : World}   (h : Sat W w [])  (hm : M_octet_Reader_none_z = some ()) :
    Calls Try.prog 73 #[(.pointer none)] w (Ret fun v w' => v = (.bool true) ∧ Sat W w' []) := by
  unfold M_octet_Reader_none_z at hm
  refine C.enter (N := 13) Try.func73 rfl Try.ntmps73 rfl ?_
  show C _ _ _ [(0, (.pointer none))] _ _
  refine C.seq ?_
  refine C.region ?_
  refine G.yl (yl_assign rfl) rfl rfl rfl ?_
  refine G.nil ?_
  refine QA.then_normal ?_
  refine C.seq ?_
  refine C.region ?_
  refine G.yl (yl_move rfl) rfl rfl rfl ?_
  refine G.yl (yl_eq_nil np69 rfl rfl) rfl rfl rfl ?_
  refine G.yl (yl_move rfl) rfl rfl rfl ?_
  refine G.offU rfl rfl rfl rfl ?_
  refine G.offU rfl rfl rfl rfl ?_
  refine G.offU rfl rfl rfl rfl ?_
  refine G.offU rfl rfl rfl rfl ?_
  refine G.offU rfl rfl rfl rfl ?_
  refine G.offU rfl rfl rfl rfl ?_
  refine G.yl (yl_pick_t rfl rfl rfl) rfl rfl rfl ?_
  refine G.yl (yl_assign rfl) rfl rfl rfl ?_
  refine G.nil ?_
  refine QA.then_normal ?_
  refine C.ret ?_
  refine QA.ret1 rfl rfl ?_
  exact ⟨rfl, (Sat.pick [] h)⟩
set_option maxRecDepth 20000 in
theorem M_octet_Reader_Num_z_w {W : Base} {w : World} {width : Int}  (h : Sat W w [])  (hm : M_octet_Reader_Num_z width = some ()) :
    Calls Try.prog 76 #[(.pointer none), (vI width)] w (Ret fun v w' => v = (.int .u64 0) ∧ Sat W w' []) := by
  unfold M_octet_Reader_Num_z at hm
  refine C.enter (N := 35) Try.func76 rfl Try.ntmps76 rfl ?_
  show C _ _ _ [(0, (.pointer none)), (1, (vI width))] _ _
  refine C.seq ?_
  refine C.region ?_
  refine G.yl (yl_assign rfl) rfl rfl rfl ?_
  refine G.nil ?_
  refine QA.then_normal ?_
  refine C.seq ?_
  refine C.seq ?_
  refine C.region ?_
  refine G.yl (yl_move rfl) rfl rfl rfl ?_
  obtain ⟨_, hy1, hm⟩ := sp_bind hm
  refine G.does (does_fn 0 rfl rfl rfl en73 h (fun U hU hp hr hs => M_octet_Reader_none_z_w hp hy1)) rfl rfl rfl ?_
  rintro _ w2 ⟨U5, hb6, rfl, h4⟩
  have h3 : Sat W w2 [] := hb6 h4
  refine G.nil ?_
  refine QA.then_normal ?_
  refine C.cond_t rfl rfl ?_
  refine C.seq ?_
  refine C.region ?_
  refine G.yl (yl_assign rfl) rfl rfl rfl ?_
  refine G.nil ?_
  refine QA.then_normal ?_
  refine C.ret ?_
  refine QA.then_ret ?_
  refine QA.ret1 rfl rfl ?_
  exact ⟨rfl, (Sat.pick [] h3)⟩
set_option maxRecDepth 20000 in
theorem M_octet_Reader_Take_z_w {W : Base} {w : World} {n : Int}  (h : Sat W w [])  (hm : M_octet_Reader_Take_z n = some ()) :
    Calls Try.prog 35 #[(.pointer none), (vI n)] w (Ret fun v w' => v = (.slice none 0 0) ∧ Sat W w' []) := by
  unfold M_octet_Reader_Take_z at hm
  refine C.enter (N := 22) Try.func35 rfl Try.ntmps35 rfl ?_
  show C _ _ _ [(0, (.pointer none)), (1, (vI n))] _ _
  refine C.seq ?_
  refine C.region ?_
  refine G.yl (yl_assign rfl) rfl rfl rfl ?_
  refine G.nil ?_
  refine QA.then_normal ?_
  refine C.seq ?_
  refine C.seq ?_
  refine C.region ?_
  refine G.yl (yl_move rfl) rfl rfl rfl ?_
  obtain ⟨_, hy1, hm⟩ := sp_bind hm
  refine G.does (does_fn 0 rfl rfl rfl en73 h (fun U hU hp hr hs => M_octet_Reader_none_z_w hp hy1)) rfl rfl rfl ?_
  rintro _ w2 ⟨U5, hb6, rfl, h4⟩
  have h3 : Sat W w2 [] := hb6 h4
  refine G.nil ?_
  refine QA.then_normal ?_
  refine C.cond_t rfl rfl ?_
  refine C.seq ?_
  refine C.region ?_
  refine G.yl (yl_assign rfl) rfl rfl rfl ?_
  refine G.nil ?_
  refine QA.then_normal ?_
  refine C.ret ?_
  refine QA.then_ret ?_
  refine QA.ret1 rfl rfl ?_
  exact ⟨rfl, (Sat.pick [] h3)⟩
set_option maxRecDepth 20000 in
theorem M_contact_ReadList_z_w {W : Base} {w : World}   (h : Sat W w [])  (hm : M_contact_ReadList_z = some ()) :
    Calls Try.prog 37 #[(.pointer none)] w (Ret fun v w' => v = (.slice none 0 0) ∧ Sat W w' []) := by
  unfold M_contact_ReadList_z at hm
  refine C.enter (N := 33) Try.func37 rfl Try.ntmps37 rfl ?_
  show C _ _ _ [(0, (.pointer none))] _ _
  refine C.seq ?_
  refine C.region ?_
  refine G.yl (yl_assign rfl) rfl rfl rfl ?_
  refine G.nil ?_
  refine QA.then_normal ?_
  refine C.seq ?_
  refine C.region ?_
  refine G.yl (yl_move rfl) rfl rfl rfl ?_
  refine G.yl (yl_func rfl rfl) rfl rfl rfl ?_
  refine G.yl (yl_assign rfl) rfl rfl rfl ?_
  refine G.nil ?_
  refine QA.then_normal ?_
  refine C.seq ?_
  refine C.seq ?_
  refine C.region ?_
  refine G.yl (yl_move rfl) rfl rfl rfl ?_
  obtain ⟨_, hy1, hm⟩ := sp_bind hm
  refine G.does (does_fn 0 rfl rfl rfl en76 h (fun U hU hp hr hs => M_octet_Reader_Num_z_w hp hy1)) rfl rfl rfl ?_
  rintro _ w2 ⟨U5, hb6, rfl, h4⟩
  have h3 : Sat W w2 [] := hb6 h4
  refine G.yl (yl_move rfl) rfl rfl rfl ?_
  refine G.nil ?_
  refine QA.then_normal ?_
  refine C.block ?_
  obtain ⟨o, ho7, hm8⟩ := sp_bind hm
  refine C.left (γ := Unit) (.exit 0) (fun g => match g with | () => [(2, (.slice none 0 0)), (3, (.func (.func 35) #[(.pointer none)] #[]))]) (fun g ww => match g with | () => () = o ∧ Sat W ww []) ?_ ?_
  · refine C.loopO (γ := Unit) (fun g => match g with | () => [(2, (.slice none 0 0)), (3, (.func (.func 35) #[(.pointer none)] #[])), (9, (.int .u64 0)), (10, (.int .u64 0))]) (fun g ww => match g with | () => Sat W ww []) (fun g => match g with | () => ()) () ho7 (Sub.of ⟨rfl, rfl, rfl, rfl, trivial⟩) (Sat.pick [] h3) ?_
    rintro _ k11 w9 y_ h10 hm hg12
    show C _ _ _ [(2, (.slice none 0 0)), (3, (.func (.func 35) #[(.pointer none)] #[])), (9, (.int .u64 0)), (10, (.int .u64 0))] _ _
    change M_contact_ReadList_z_b1 = some y_ at hm
    unfold M_contact_ReadList_z_b1 at hm
    refine C.seq ?_
    refine C.region ?_
    refine G.yl (yl_lt64 (a := 0) (b := 0) rfl rfl) rfl rfl rfl ?_
    refine G.nil ?_
    refine QA.then_normal ?_
    refine C.seq ?_
    refine C.cond_f rfl (by decide) ?_
    refine C.exit ?_
    refine QA.then_exit ?_
    refine QA.then_exit ?_
    obtain rfl := sp_ret1 hm
    exact QA.left () (Sub.of ⟨rfl, rfl, trivial⟩) ⟨hg12, (Sat.pick [] h10)⟩
  · rintro _ w13 ⟨rfl, h14⟩
    have hm := hm8
    show QA _ _ [(2, (.slice none 0 0)), (3, (.func (.func 35) #[(.pointer none)] #[]))] _ _
    refine QA.block_here ?_
    refine QA.then_normal ?_
    refine C.seq ?_
    refine C.seq ?_
    refine C.region ?_
    refine G.yl (yl_move rfl) rfl rfl rfl ?_
    obtain ⟨r1_2, hy15, hm⟩ := sp_bind hm
    refine G.does (does_fn 0 rfl rfl rfl en77 h14 (fun U hU hp hr hs => M_contact_good_v_w (l := ([] : List G_api_Contact)) (V.nil _ _) (Nat.zero_le _) hp hy15)) rfl rfl rfl ?_
    rintro _ w16 ⟨U19, hb20, rfl, h18⟩
    have h17 : Sat W w16 [] := hb20 h18
    refine G.yl (yl_not rfl) rfl rfl rfl ?_
    refine G.nil ?_
    refine QA.then_normal ?_
    rcases sp_b hm with ⟨hc21, hm⟩ | ⟨hc21, hm⟩
    · refine C.cond_f rfl (not_f hc21) ?_
      refine C.skip ?_
      refine QA.then_normal ?_
      refine C.seq ?_
      refine C.region ?_
      refine G.yl (yl_move rfl) rfl rfl rfl ?_
      refine G.yl (yl_assign rfl) rfl rfl rfl ?_
      refine G.nil ?_
      refine QA.then_normal ?_
      refine C.ret ?_
      refine QA.ret1 rfl rfl ?_
      exact ⟨rfl, (Sat.pick [] h17)⟩
    · refine C.cond_t rfl (not_t hc21) ?_
      refine C.seq ?_
      refine C.region ?_
      refine G.yl (yl_move rfl) rfl rfl rfl ?_
      obtain ⟨_, hy22, hm⟩ := sp_bind hm
      refine G.does (does_fn 0 rfl rfl rfl en35 h17 (fun U hU hp hr hs => M_octet_Reader_Take_z_w hp hy22)) rfl rfl rfl ?_
      rintro _ w23 ⟨U26, hb27, rfl, h25⟩
      have h24 : Sat W w23 [] := hb27 h25
      refine G.nil ?_
      refine QA.then_normal ?_
      refine C.seq ?_
      refine C.region ?_
      refine G.yl (yl_assign rfl) rfl rfl rfl ?_
      refine G.nil ?_
      refine QA.then_normal ?_
      refine C.ret ?_
      refine QA.then_ret ?_
      refine QA.ret1 rfl rfl ?_
      exact ⟨rfl, (Sat.pick [] h24)⟩
end Go.Proofs.Ytaaahjcldomnbaa
