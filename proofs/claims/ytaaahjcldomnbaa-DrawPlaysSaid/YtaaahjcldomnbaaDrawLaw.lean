/-
  The statements on package draw, walked: each answers true. No condition beside the arguments being read.
-/
import Derived.Test.YtaaahjcldomnbaaDraw
namespace Go.Proofs.Ytaaahjcldomnbaa
open Go Go.RowKit
set_option linter.unusedVariables false
set_option linter.unusedSimpArgs false
set_option linter.unnecessarySimpa false

theorem lv_1 : numV 3 [1, 2, 7] = 1 := by
  have h : nb 2 = 1 := by rw [nb_pos (by decide), show 2 / 256 = 0 from rfl, nb_zero]
  unfold numV numK
  simp only [show ¬ ((3 : Int) < 2) from by decide, if_false]
  rw [show (3 : Int).toNat - 1 = 2 from rfl, h]; rfl
theorem lv_2 : ([1, 2, 7] : List UInt8).drop (numK 3) = [2, 7] := by
  have h : nb 2 = 1 := by rw [nb_pos (by decide), show 2 / 256 = 0 from rfl, nb_zero]
  unfold numK
  simp only [show ¬ ((3 : Int) < 2) from by decide, if_false]
  rw [show (3 : Int).toNat - 1 = 2 from rfl, h]; rfl
theorem nb299 : nb 299 = 2 := by rw [nb_pos (by decide), show 299 / 256 = 1 from rfl, nb_pos (by decide), show 1 / 256 = 0 from rfl, nb_zero]
theorem lv_3 : numV 300 [2, 7] = 219 := by
  unfold numV numK
  simp only [show ¬ ((300 : Int) < 2) from by decide, if_false]
  rw [show (300 : Int).toNat - 1 = 299 from rfl, nb299]; rfl
theorem lv_4 : ([2, 7] : List UInt8).drop (numK 300) = [] := by
  unfold numK
  simp only [show ¬ ((300 : Int) < 2) from by decide, if_false]
  rw [show (300 : Int).toNat - 1 = 299 from rfl, nb299]; rfl
theorem erase_perm {l : List Int} {i : Nat} (h : i < l.length) : (l[i] :: l.eraseIdx i).Perm l := by
  have e : l.take i ++ l[i] :: l.drop (i + 1) = l := by rw [← List.drop_eq_getElem_cons h, List.take_append_drop]
  have := @List.perm_middle _ l[i] (l.take i) (l.drop (i + 1))
  rw [e] at this
  rw [List.eraseIdx_eq_take_drop_succ]
  exact this.symm
theorem drawL_perm : ∀ (k : Nat) (l : List Int) (bs : List UInt8), l.length = k → (drawL k l bs).Perm l
  | 0, l, bs, h => by rw [List.eq_nil_of_length_eq_zero h]; exact List.Perm.refl _
  | k + 1, l, bs, h => by
    have hlt := drawAt_lt bs (show 0 < l.length by omega)
    have ih := drawL_perm k (l.eraseIdx (drawAt l bs)) (bs.drop (numK (l.length : Int))) (by rw [List.length_eraseIdx_of_lt hlt]; omega)
    simp only [drawL]
    have hg : l.getD (drawAt l bs) 0 = l[drawAt l bs] := by rw [List.getD_eq_getElem?_getD, List.getElem?_eq_getElem hlt]; rfl
    rw [hg]
    exact (List.Perm.cons _ ih).trans (erase_perm hlt)
theorem ordL_perm {n : Int} (bs : List UInt8) (h : ¬ (n < 1 ∨ n > 1024)) : (ordL n bs).Perm (iota n.toNat) := by
  unfold ordL
  rw [if_neg h]
  exact drawL_perm _ _ _ (iota_length _)
theorem ordL_length {n : Int} (bs : List UInt8) (h : n ≤ 1024) : (ordL n bs).length = (max n 0).toNat := by
  by_cases h1 : n < 1
  · unfold ordL; rw [if_pos (.inl h1)]; simp; omega
  · rw [(ordL_perm bs (by omega)).length_eq, iota_length]; omega
theorem iota_mem {n : Nat} {x : Int} (h : x ∈ iota n) : 0 ≤ x ∧ x < n := by
  unfold iota at h
  obtain ⟨i, hi, rfl⟩ := List.mem_map.1 h
  have := List.mem_range.1 hi
  omega
theorem iota_nodup (n : Nat) : (iota n).Nodup := by
  unfold iota
  exact List.pairwise_map.2 (List.nodup_range.imp fun h e => h (Int.ofNat.inj e))
theorem ordL_range {n x : Int} {bs : List UInt8} (hn : n ≤ 1024) (h : x ∈ ordL n bs) : 0 ≤ x ∧ x < n := by
  by_cases h1 : n < 1
  · unfold ordL at h; rw [if_pos (.inl h1)] at h; cases h
  · have := iota_mem ((ordL_perm bs (by omega)).mem_iff.1 h)
    omega
theorem ordL_nodup {n : Int} (bs : List UInt8) (hn : n ≤ 1024) : (ordL n bs).Nodup := by
  by_cases h1 : n < 1
  · unfold ordL; rw [if_pos (.inl h1)]; exact List.nodup_nil
  · exact (ordL_perm bs (by omega)).nodup_iff.2 (iota_nodup _)
/-- What has been seen. -/
def SeenI (zs : List Int) (k : Nat) (sv : List Bool) : Prop := ∀ i : Nat, sv[i]? = some true → ∃ j, j < k ∧ zs[j]? = some (i : Int)
theorem SeenI.start (zs : List Int) (m : Nat) : SeenI zs 0 (List.replicate m false) := by
  intro i h
  rw [List.getElem?_replicate] at h
  split at h <;> cases h
theorem SeenI.step {zs : List Int} {k : Nat} {sv : List Bool} {x : Int} (h : SeenI zs k sv) (hx : zs[k]? = some x) (h0 : 0 ≤ x) : SeenI zs (k + 1) (sv.set x.toNat true) := by
  intro i hi
  rw [List.getElem?_set] at hi
  by_cases e : x.toNat = i
  · exact ⟨k, by omega, by rw [hx]; congr 1; omega⟩
  · rw [if_neg e] at hi
    obtain ⟨j, hj, hz⟩ := h i hi
    exact ⟨j, by omega, hz⟩
theorem SeenI.new {zs : List Int} {k : Nat} {sv : List Bool} {x : Int} {b : Bool} (h : SeenI zs k sv) (hd : zs.Nodup) (hx : zs[k]? = some x) (h0 : 0 ≤ x) (hb : sv[x.toNat]? = some b) : b = false := by
  cases b with
  | false => rfl
  | true =>
    obtain ⟨j, hj, hz⟩ := h _ hb
    have e : (x.toNat : Int) = x := by omega
    rw [e] at hz
    have h1 := (List.getElem?_eq_some_iff.1 hx)
    have h2 := (List.getElem?_eq_some_iff.1 hz)
    exact absurd (by rw [h1.2, h2.2] : zs[j]'h2.1 = zs[k]'h1.1) (List.pairwise_iff_getElem.1 hd j k h2.1 h1.1 hj)

set_option maxRecDepth 20000 in
theorem lives_true {W w : World} {R : List Res}  (h : Sat W w (R)) :
    Calls Try.prog 13 #[] w (Ret fun v w' => v = (.bool true) ∧ Sat W w' (R)) := by
  refine C.enter (N := 32) Try.func13 rfl Try.ntmps13 rfl ?_
  show C _ _ _ [] _ _
  refine C.seq ?_
  refine C.region ?_
  refine G.yl (yl_assign rfl) rfl rfl rfl ?_
  refine G.nil ?_
  refine QA.then_normal ?_
  refine C.seq ?_
  refine C.region ?_
  refine G.does (does_buildSlice (vs := [(.int .u8 1), (.int .u8 2), (.int .u8 7)]) (cs := [(.int .u8 1), (.int .u8 2), (.int .u8 7)]) (e := 5) h rfl (by kernel_rfl)) rfl rfl rfl ?_
  rintro _ w2 ⟨b1, rfl, h3⟩
  have h4 : Sat W w2 (rd W (some ⟨b1, 0, none⟩) (bytesV [1, 2, 7]) :: R) := Sat.rd_of_blk h3
  refine G.does (does_call (F := 14) (args := [(.slice (some ⟨b1, 0, none⟩) 3 3)]) rfl rfl rfl en14 (new_src (a := some ⟨b1, 0, none⟩) (n := 3) (c := 3) (xs := [1, 2, 7]) h4 (by first | omega | rfl | (simp only [bytesV_length, intsV_length, boolsV_length]; omega) | (simp [bytesV_length, intsV_length, boolsV_length]; done) | (simp [bytesV_length, intsV_length, boolsV_length]; omega) | (simp [maxLen, bytesV_length, intsV_length, boolsV_length] at *; omega)) (by first | omega | rfl | (simp only [bytesV_length, intsV_length, boolsV_length]; omega) | (simp [bytesV_length, intsV_length, boolsV_length]; done) | (simp [bytesV_length, intsV_length, boolsV_length]; omega) | (simp [maxLen, bytesV_length, intsV_length, boolsV_length] at *; omega)))) rfl rfl rfl ?_
  rintro _ w5 ⟨p7, rfl, h6⟩
  refine G.yl (yl_assign rfl) rfl rfl rfl ?_
  refine G.nil ?_
  refine QA.then_normal ?_
  refine C.seq ?_
  refine C.region ?_
  refine G.yl (yl_move rfl) rfl rfl rfl ?_
  refine G.yl (yl_ne_nil (by kernel_rfl) rfl rfl) rfl rfl rfl ?_
  refine G.yl (yl_move rfl) rfl rfl rfl ?_
  refine G.on rfl rfl rfl ?_
  refine G.yl (yl_move rfl) rfl rfl rfl ?_
  refine G.on rfl rfl rfl ?_
  refine G.does (does_call (F := 16) (args := [(.pointer (some ⟨p7, 0, none⟩)), (.int .i64 3)]) rfl rfl rfl en16 (num_src (p := p7) (n := 3) (bs := [1, 2, 7]) h6 (by first | omega | rfl | (simp only [bytesV_length, intsV_length, boolsV_length]; omega) | (simp [bytesV_length, intsV_length, boolsV_length]; done) | (simp [bytesV_length, intsV_length, boolsV_length]; omega) | (simp [maxLen, bytesV_length, intsV_length, boolsV_length] at *; omega)))) rfl rfl rfl ?_
  rintro _ w8 ⟨rfl, h9⟩
  refine G.on rfl rfl rfl ?_
  refine G.yl (yl_cmp rfl rfl rfl) rfl rfl rfl ?_
  refine G.yl (yl_pick_t rfl rfl rfl) rfl rfl rfl ?_
  have h10 : Sat W w8 (Src W p7 ([1, 2, 7].drop (numK 3)) :: R) := (Sat.keep 1 1 h9)
  have h11 : Sat W w8 (Src W p7 [2, 7] :: R) := sl_cast (by rw [lv_2]) h10
  refine G.yl (yl_move rfl) rfl rfl rfl ?_
  refine G.on rfl rfl (beq_t lv_1) ?_
  refine G.yl (yl_move rfl) rfl rfl rfl ?_
  refine G.on rfl rfl (beq_t lv_1) ?_
  refine G.does (does_call (F := 16) (args := [(.pointer (some ⟨p7, 0, none⟩)), (.int .i64 300)]) rfl rfl rfl en16 (num_src (p := p7) (n := 300) (bs := [2, 7]) h11 (by first | omega | rfl | (simp only [bytesV_length, intsV_length, boolsV_length]; omega) | (simp [bytesV_length, intsV_length, boolsV_length]; done) | (simp [bytesV_length, intsV_length, boolsV_length]; omega) | (simp [maxLen, bytesV_length, intsV_length, boolsV_length] at *; omega)))) rfl rfl rfl ?_
  rintro _ w12 ⟨rfl, h13⟩
  refine G.on rfl rfl (beq_t lv_1) ?_
  refine G.yl (yl_cmp rfl rfl rfl) rfl rfl rfl ?_
  refine G.yl (yl_pick_t rfl (beq_t lv_1) rfl) rfl rfl rfl ?_
  have h14 : Sat W w12 (Src W p7 [] :: R) := sl_cast (by rw [lv_4]) h13
  refine G.yl (yl_move rfl) rfl rfl rfl ?_
  refine G.on rfl rfl (beq_t lv_3) ?_
  refine G.yl (yl_move rfl) rfl rfl rfl ?_
  refine G.on rfl rfl (beq_t lv_3) ?_
  refine G.does (does_call (F := 19) (args := [(.pointer (some ⟨p7, 0, none⟩))]) rfl rfl rfl en19 (byte_src (p := p7) (bs := []) h14 )) rfl rfl rfl ?_
  rintro _ w15 ⟨rfl, h16⟩
  refine G.on rfl rfl (beq_t lv_3) ?_
  refine G.yl (yl_cmp rfl rfl rfl) rfl rfl rfl ?_
  refine G.yl (yl_pick_t rfl (beq_t lv_3) rfl) rfl rfl rfl ?_
  refine G.yl (yl_move rfl) rfl rfl rfl ?_
  refine G.on rfl rfl (rfl) ?_
  refine G.yl (yl_move rfl) rfl rfl rfl ?_
  refine G.on rfl rfl (rfl) ?_
  refine G.does (does_call (F := 29) (args := [(.pointer (some ⟨p7, 0, none⟩))]) rfl rfl rfl en29 (left_src (p := p7) (bs := [].drop 1) h16 )) rfl rfl rfl ?_
  rintro _ w17 ⟨rfl, h18⟩
  refine G.on rfl rfl (rfl) ?_
  refine G.yl (yl_cmp rfl rfl rfl) rfl rfl rfl ?_
  refine G.yl (yl_pick_t rfl (rfl) rfl) rfl rfl rfl ?_
  refine G.yl (yl_move rfl) rfl rfl rfl ?_
  refine G.on rfl rfl (by decide) ?_
  refine G.yl (yl_move rfl) rfl rfl rfl ?_
  refine G.on rfl rfl (by decide) ?_
  refine G.does (does_call (F := 15) (args := [(.pointer (some ⟨p7, 0, none⟩)), (.int .i64 3)]) rfl rfl rfl en15 (order_src (p := p7) (n := 3) (bs := [].drop 1) h18 (by first | omega | rfl | (simp only [bytesV_length, intsV_length, boolsV_length]; omega) | (simp [bytesV_length, intsV_length, boolsV_length]; done) | (simp [bytesV_length, intsV_length, boolsV_length]; omega) | (simp [maxLen, bytesV_length, intsV_length, boolsV_length] at *; omega)))) rfl rfl rfl ?_
  rintro _ w19 ⟨a21, c22, rfl, h20⟩
  refine G.on rfl rfl (by decide) ?_
  refine G.yl (yl_len Try.underlying26 rfl) rfl rfl rfl ?_
  refine G.on rfl rfl (by decide) ?_
  refine G.yl (yl_cmp rfl rfl rfl) rfl rfl rfl ?_
  refine G.yl (yl_pick_t rfl (by decide) rfl) rfl rfl rfl ?_
  refine G.yl (yl_assign rfl) rfl rfl rfl ?_
  refine G.nil ?_
  refine QA.then_normal ?_
  refine C.ret ?_
  refine QA.ret1 rfl rfl ?_
  exact ⟨(by first | rfl | (rw [beq_t]) | simp), (sl_cast (by rfl) (Sat.keep 0 2 h20))⟩
set_option maxRecDepth 20000 in
theorem ints_same {W w : World} {R : List Res} {a a' : Option Addr} {n n' c c' : Nat} {zs : List Int} (h : Sat W w (rd W a (intsV zs) :: rd W a' (intsV zs) :: R)) (hn : n = zs.length) (hn' : n' = zs.length) (hm : zs.length ≤ 140737488355328) :
    Calls Try.prog 17 #[(.slice a n c), (.slice a' n' c')] w (Ret fun v w' => v = (.bool true) ∧ Sat W w' (rd W a (intsV zs) :: rd W a' (intsV zs) :: R)) := by
  refine C.enter (N := 26) Try.func17 rfl Try.ntmps17 rfl ?_
  show C _ _ _ [(0, (.slice a n c)), (1, (.slice a' n' c'))] _ _
  refine C.seq ?_
  refine C.region ?_
  refine G.yl (yl_assign rfl) rfl rfl rfl ?_
  refine G.nil ?_
  refine QA.then_normal ?_
  refine C.seq ?_
  refine C.seq ?_
  refine C.region ?_
  refine G.yl (yl_move rfl) rfl rfl rfl ?_
  refine G.yl (yl_len Try.underlying26 rfl) rfl rfl rfl ?_
  refine G.yl (yl_move rfl) rfl rfl rfl ?_
  refine G.yl (yl_len Try.underlying26 rfl) rfl rfl rfl ?_
  refine G.yl (yl_cmp rfl rfl rfl) rfl rfl rfl ?_
  refine G.nil ?_
  refine QA.then_normal ?_
  refine C.cond_f rfl (bne_f (by omega)) ?_
  refine C.skip ?_
  refine QA.then_normal ?_
  refine C.seq ?_
  refine C.seq ?_
  refine C.region ?_
  refine G.yl (yl_move rfl) rfl rfl rfl ?_
  refine G.yl (yl_len Try.underlying26 rfl) rfl rfl rfl ?_
  refine G.yl (yl_move rfl) rfl rfl rfl ?_
  refine G.nil ?_
  refine QA.then_normal ?_
  refine C.block ?_
  refine C.loop (fun (k : Nat) => [(0, (.slice a n c)), (1, (.slice a' n' c')), (12, (.int .i64 (n : Int))), (13, (.int .i64 (k : Int)))]) (fun (k : Nat) (ww : World) => (k ≤ n) ∧ Sat W ww (rd W a (intsV zs) :: rd W a' (intsV zs) :: R)) (fun (k : Nat) => n - k) (0) (Sub.cons rfl (Sub.cons rfl (Sub.cons rfl (Sub.cons (look_int rfl (by first | rfl | omega | (simp; omega) | simp)) (Sub.nil _))))) ⟨(Nat.zero_le _), (sl_cast (by first | rfl | (simp; done) | (simp; omega)) ((h.f1).f1))⟩ ?_
  rintro k w1 ⟨hk, h2⟩
  show C _ _ _ [(0, (.slice a n c)), (1, (.slice a' n' c')), (12, (.int .i64 (n : Int))), (13, (.int .i64 (k : Int)))] _ _
  refine C.seq ?_
  refine C.region ?_
  refine G.yl (yl_cmp rfl rfl rfl) rfl rfl rfl ?_
  refine G.nil ?_
  refine QA.then_normal ?_
  refine C.seq ?_
  by_cases hc3 : ((k : Int) < (n : Int))
  · refine C.cond_t rfl (decide_eq_true hc3) ?_
    refine C.skip ?_
    refine QA.then_normal ?_
    refine C.seq ?_
    refine C.block ?_
    refine C.seq ?_
    refine C.region ?_
    refine G.yl (yl_move rfl) rfl rfl rfl ?_
    refine G.yl (yl_assign rfl) rfl rfl rfl ?_
    refine G.nil ?_
    refine QA.then_normal ?_
    refine C.seq ?_
    refine C.draw (S := fun w' => View w' a (intsV zs) ∧ View w' a' (intsV zs)) (n := 9) rfl h2 rfl rfl ?_
    intro w5 h6
    have hS7 : View w5 a (intsV zs) ∧ View w5 a' (intsV zs) := ⟨h6.rd_view, (h6.f1).rd_view⟩
    refine GH.yl (i := 0) (listed' := #[true, false, false, false, false, false, false, false, false]) rfl (by kernel_rfl) (by kernel_rfl) (by kernel_rfl) rfl (NP.next (NP.block (NP.next (NP.next (NP.block (NP.next NP.body)))))) rfl rfl rfl (fun w' hw' => yl_move rfl) hS7 ?_
    refine GH.yl (i := 1) (listed' := #[true, true, false, false, false, false, false, false, false]) rfl (by kernel_rfl) (by kernel_rfl) (by kernel_rfl) rfl (NP.next (NP.block (NP.next (NP.next (NP.block (NP.next NP.body)))))) rfl rfl rfl (fun w' hw' => yl_move rfl) hS7 ?_
    obtain ⟨b8, o9, rfl⟩ := open_ints h6.rd_view (by first | omega | rfl | (simp only [bytesV_length, intsV_length, boolsV_length]; omega) | (simp [bytesV_length, intsV_length, boolsV_length]; done) | (simp [bytesV_length, intsV_length, boolsV_length]; omega) | (simp [maxLen, bytesV_length, intsV_length, boolsV_length] at *; omega))
    refine GH.yl (i := 2) (listed' := #[true, true, true, false, false, false, false, false, false]) rfl (by kernel_rfl) (by kernel_rfl) (by kernel_rfl) rfl (NP.next (NP.block (NP.next (NP.next (NP.block (NP.next NP.body)))))) rfl rfl rfl (fun w' hw' => yl_indexAddr (s := 1) (off := o9 + k) (by kernel_rfl) (by kernel_rfl) rfl rfl (by first | omega | rfl | (simp only [bytesV_length, intsV_length, boolsV_length]; omega) | (simp [bytesV_length, intsV_length, boolsV_length]; done) | (simp [bytesV_length, intsV_length, boolsV_length]; omega) | (simp [maxLen, bytesV_length, intsV_length, boolsV_length] at *; omega)) (by first | omega | rfl | (simp only [bytesV_length, intsV_length, boolsV_length]; omega) | (simp [bytesV_length, intsV_length, boolsV_length]; done) | (simp [bytesV_length, intsV_length, boolsV_length]; omega) | (simp [maxLen, bytesV_length, intsV_length, boolsV_length] at *; omega))) hS7 ?_
    obtain ⟨x10, hx11⟩ : ∃ x, zs[k]? = some x := ⟨_, List.getElem?_eq_getElem (by first | omega | rfl | (simp only [bytesV_length, intsV_length, boolsV_length]; omega) | (simp [bytesV_length, intsV_length, boolsV_length]; done) | (simp [bytesV_length, intsV_length, boolsV_length]; omega) | (simp [maxLen, bytesV_length, intsV_length, boolsV_length] at *; omega))⟩
    refine GH.yl (i := 3) (listed' := #[true, true, true, true, false, false, false, false, false]) rfl (by kernel_rfl) (by kernel_rfl) (by kernel_rfl) rfl (NP.next (NP.block (NP.next (NP.next (NP.block (NP.next NP.body)))))) rfl rfl rfl (fun w' hw' => yl_load (v := (.int .i64 x10)) (by kernel_rfl) rfl (View.at_ hw'.1 (intsV_get hx11))) hS7 ?_
    refine GH.yl (i := 4) (listed' := #[true, true, true, true, true, false, false, false, false]) rfl (by kernel_rfl) (by kernel_rfl) (by kernel_rfl) rfl (NP.next (NP.block (NP.next (NP.next (NP.block (NP.next NP.body)))))) rfl rfl rfl (fun w' hw' => yl_move rfl) hS7 ?_
    refine GH.yl (i := 5) (listed' := #[true, true, true, true, true, true, false, false, false]) rfl (by kernel_rfl) (by kernel_rfl) (by kernel_rfl) rfl (NP.next (NP.block (NP.next (NP.next (NP.block (NP.next NP.body)))))) rfl rfl rfl (fun w' hw' => yl_move rfl) hS7 ?_
    obtain ⟨b12, o13, rfl⟩ := open_ints (h6.f1).rd_view (by first | omega | rfl | (simp only [bytesV_length, intsV_length, boolsV_length]; omega) | (simp [bytesV_length, intsV_length, boolsV_length]; done) | (simp [bytesV_length, intsV_length, boolsV_length]; omega) | (simp [maxLen, bytesV_length, intsV_length, boolsV_length] at *; omega))
    refine GH.yl (i := 6) (listed' := #[true, true, true, true, true, true, true, false, false]) rfl (by kernel_rfl) (by kernel_rfl) (by kernel_rfl) rfl (NP.next (NP.block (NP.next (NP.next (NP.block (NP.next NP.body)))))) rfl rfl rfl (fun w' hw' => yl_indexAddr (s := 1) (off := o13 + k) (by kernel_rfl) (by kernel_rfl) rfl rfl (by first | omega | rfl | (simp only [bytesV_length, intsV_length, boolsV_length]; omega) | (simp [bytesV_length, intsV_length, boolsV_length]; done) | (simp [bytesV_length, intsV_length, boolsV_length]; omega) | (simp [maxLen, bytesV_length, intsV_length, boolsV_length] at *; omega)) (by first | omega | rfl | (simp only [bytesV_length, intsV_length, boolsV_length]; omega) | (simp [bytesV_length, intsV_length, boolsV_length]; done) | (simp [bytesV_length, intsV_length, boolsV_length]; omega) | (simp [maxLen, bytesV_length, intsV_length, boolsV_length] at *; omega))) hS7 ?_
    obtain ⟨x14, hx15⟩ : ∃ x, zs[k]? = some x := ⟨_, List.getElem?_eq_getElem (by first | omega | rfl | (simp only [bytesV_length, intsV_length, boolsV_length]; omega) | (simp [bytesV_length, intsV_length, boolsV_length]; done) | (simp [bytesV_length, intsV_length, boolsV_length]; omega) | (simp [maxLen, bytesV_length, intsV_length, boolsV_length] at *; omega))⟩
    refine GH.yl (i := 7) (listed' := #[true, true, true, true, true, true, true, true, false]) rfl (by kernel_rfl) (by kernel_rfl) (by kernel_rfl) rfl (NP.next (NP.block (NP.next (NP.next (NP.block (NP.next NP.body)))))) rfl rfl rfl (fun w' hw' => yl_load (v := (.int .i64 x14)) (by kernel_rfl) rfl (View.at_ hw'.2 (intsV_get hx15))) hS7 ?_
    refine GH.yl (i := 8) (listed' := #[true, true, true, true, true, true, true, true, true]) rfl (by kernel_rfl) (by kernel_rfl) (by kernel_rfl) rfl (NP.next (NP.block (NP.next (NP.next (NP.block (NP.next NP.body)))))) rfl rfl rfl (fun w' hw' => yl_cmp rfl rfl rfl) hS7 ?_
    refine GH.done (by kernel_rfl) ?_
    refine QA.then_normal ?_
    refine C.cond_f rfl (bne_f (Option.some.inj ((hx11).symm.trans hx15))) ?_
    refine C.skip ?_
    refine QA.block_normal ?_
    refine QA.then_normal ?_
    refine C.region ?_
    refine G.yl (yl_arith rfl rfl (add64 (r := ((k + 1 : Nat) : Int)) (by first | omega | rfl | (simp only [bytesV_length, intsV_length, boolsV_length]; omega) | (simp [bytesV_length, intsV_length, boolsV_length]; done) | (simp [bytesV_length, intsV_length, boolsV_length]; omega) | (simp [maxLen, bytesV_length, intsV_length, boolsV_length] at *; omega)))) rfl rfl rfl ?_
    refine G.yl (yl_move rfl) rfl rfl rfl ?_
    refine G.nil ?_
    exact QA.again (k + 1) (Sub.cons rfl (Sub.cons rfl (Sub.cons rfl (Sub.cons (look_int rfl (by first | rfl | omega | (simp; omega) | simp)) (Sub.nil _))))) ⟨(by omega), (sl_cast (by first | rfl | (simp; done) | (simp; omega)) ((h6.f1).f1))⟩ (by first | omega | (dsimp only; omega) | (simp; omega) | (simp; done))
  · refine C.cond_f rfl (decide_eq_false hc3) ?_
    refine C.exit ?_
    refine QA.then_exit ?_
    refine QA.then_exit ?_
    refine QA.block_here ?_
    refine QA.then_normal ?_
    refine C.seq ?_
    refine C.region ?_
    refine G.yl (yl_assign rfl) rfl rfl rfl ?_
    refine G.nil ?_
    refine QA.then_normal ?_
    refine C.ret ?_
    refine QA.ret1 rfl rfl ?_
    exact ⟨rfl, (sl_cast (by first | rfl | (simp; done) | (simp; omega)) ((h2.f1).f1))⟩

theorem numV_all (n : Int) (bs : List UInt8) : 0 ≤ numV n bs ∧ (numV n bs < n ∨ (n < 1 ∧ numV n bs = 0)) := by
  by_cases h : 0 < n
  · have := numV_range bs h; omega
  · have : numV n bs = 0 := by unfold numV; rw [if_pos (by omega)]
    omega

set_option maxRecDepth 20000 in
theorem orders_law {W w : World} {R : List Res} {a : Option Addr} {nn c : Nat} {n m : Int} {xs : List UInt8} (h : Sat W w (R)) (hv : View W a (bytesV xs)) (hnn : nn = xs.length) (hcap : nn ≤ c) (hn : n ≤ 9223372036854775807) (hmm : -9223372036854775808 ≤ m ∧ m ≤ 9223372036854775807) :
    Calls Try.prog 3 #[(.slice a nn c), (.int .i64 n), (.int .i64 m)] w (Ret fun v w' => v = (.bool true) ∧ Sat W w' (R)) := by
  refine C.enter (N := 89) Try.func3 rfl Try.ntmps3 rfl ?_
  show C _ _ _ [(0, (.slice a nn c)), (1, (.int .i64 n)), (2, (.int .i64 m))] _ _
  refine C.seq ?_
  refine C.region ?_
  refine G.yl (yl_assign rfl) rfl rfl rfl ?_
  refine G.nil ?_
  refine QA.then_normal ?_
  refine C.seq ?_
  refine C.seq ?_
  refine C.region ?_
  refine G.yl (yl_move rfl) rfl rfl rfl ?_
  refine G.yl (yl_len Try.underlying22 rfl) rfl rfl rfl ?_
  refine G.yl (yl_cmp rfl rfl rfl) rfl rfl rfl ?_
  refine G.yl (yl_move rfl) rfl rfl rfl ?_
  by_cases hc1 : ((nn : Int) > 4000)
  · refine G.offU rfl rfl (decide_eq_true hc1) rfl ?_
    refine G.offU rfl rfl (decide_eq_true hc1) rfl ?_
    refine G.yl (yl_pick_t rfl (decide_eq_true hc1) rfl) rfl rfl rfl ?_
    refine G.nil ?_
    refine QA.then_normal ?_
    refine C.cond_t rfl rfl ?_
    refine C.seq ?_
    refine C.region ?_
    refine G.does (does_call (F := 13) (args := []) rfl rfl rfl en13 (lives_true  h )) rfl rfl rfl ?_
    rintro _ w2 ⟨rfl, h3⟩
    refine G.yl (yl_assign rfl) rfl rfl rfl ?_
    refine G.nil ?_
    refine QA.then_normal ?_
    refine C.ret ?_
    refine QA.then_ret ?_
    refine QA.ret1 rfl rfl ?_
    exact ⟨rfl, (sl_cast (by first | rfl | (simp; done) | (simp; omega)) h3)⟩
  · refine G.on rfl rfl (decide_eq_false hc1) ?_
    refine G.yl (yl_move rfl) rfl rfl rfl ?_
    refine G.on rfl rfl (decide_eq_false hc1) ?_
    refine G.yl (yl_cmp rfl rfl rfl) rfl rfl rfl ?_
    refine G.yl (yl_pick_f rfl (decide_eq_false hc1) rfl) rfl rfl rfl ?_
    refine G.nil ?_
    refine QA.then_normal ?_
    by_cases hc4 : (n > 60)
    · refine C.cond_t rfl (decide_eq_true hc4) ?_
      refine C.seq ?_
      refine C.region ?_
      refine G.does (does_call (F := 13) (args := []) rfl rfl rfl en13 (lives_true  h )) rfl rfl rfl ?_
      rintro _ w5 ⟨rfl, h6⟩
      refine G.yl (yl_assign rfl) rfl rfl rfl ?_
      refine G.nil ?_
      refine QA.then_normal ?_
      refine C.ret ?_
      refine QA.then_ret ?_
      refine QA.ret1 rfl rfl ?_
      exact ⟨rfl, (sl_cast (by first | rfl | (simp; done) | (simp; omega)) h6)⟩
    · refine C.cond_f rfl (decide_eq_false hc4) ?_
      refine C.skip ?_
      refine QA.then_normal ?_
      refine C.seq ?_
      refine C.region ?_
      refine G.yl (yl_move rfl) rfl rfl rfl ?_
      have h7 : Sat W w (rd W a (bytesV xs) :: R) := Sat.rd_old (hv) h
      refine G.does (does_call (F := 14) (args := [(.slice a nn c)]) rfl rfl rfl en14 (new_src (a := a) (n := nn) (c := c) h7 (by first | omega | rfl | (simp only [bytesV_length, intsV_length, boolsV_length]; omega) | (simp [bytesV_length, intsV_length, boolsV_length]; done) | (simp [bytesV_length, intsV_length, boolsV_length]; omega) | (simp [maxLen, bytesV_length, intsV_length, boolsV_length] at *; omega)) (by first | omega | rfl | (simp only [bytesV_length, intsV_length, boolsV_length]; omega) | (simp [bytesV_length, intsV_length, boolsV_length]; done) | (simp [bytesV_length, intsV_length, boolsV_length]; omega) | (simp [maxLen, bytesV_length, intsV_length, boolsV_length] at *; omega)))) rfl rfl rfl ?_
      rintro _ w8 ⟨p10, rfl, h9⟩
      refine G.yl (yl_assign rfl) rfl rfl rfl ?_
      refine G.nil ?_
      refine QA.then_normal ?_
      refine C.seq ?_
      refine C.region ?_
      refine G.yl (yl_move rfl) rfl rfl rfl ?_
      refine G.yl (yl_move rfl) rfl rfl rfl ?_
      refine G.does (does_call (F := 15) (args := [(.pointer (some ⟨p10, 0, none⟩)), (.int .i64 n)]) rfl rfl rfl en15 (order_src (p := p10) (n := n) (bs := xs) h9 (by first | omega | rfl | (simp only [bytesV_length, intsV_length, boolsV_length]; omega) | (simp [bytesV_length, intsV_length, boolsV_length]; done) | (simp [bytesV_length, intsV_length, boolsV_length]; omega) | (simp [maxLen, bytesV_length, intsV_length, boolsV_length] at *; omega)))) rfl rfl rfl ?_
      rintro _ w11 ⟨a13, c14, rfl, h12⟩
      refine G.yl (yl_assign rfl) rfl rfl rfl ?_
      refine G.nil ?_
      refine QA.then_normal ?_
      refine C.seq ?_
      refine C.region ?_
      refine G.yl (yl_move rfl) rfl rfl rfl ?_
      refine G.yl (yl_max rfl rfl (r := (((max n 0).toNat : Nat) : Int)) (by first | omega | rfl | (simp only [bytesV_length, intsV_length, boolsV_length]; omega) | (simp [bytesV_length, intsV_length, boolsV_length]; done) | (simp [bytesV_length, intsV_length, boolsV_length]; omega) | (simp [maxLen, bytesV_length, intsV_length, boolsV_length] at *; omega))) rfl rfl rfl ?_
      refine G.does (does_make (e := 4) (bytes := 1) (z := (.bool false)) (n := ((max n 0).toNat)) (m := ((max n 0).toNat)) h12 Try.underlying28 (by kernel_rfl) (by kernel_rfl) rfl rfl rfl (by first | omega | rfl | (simp only [bytesV_length, intsV_length, boolsV_length]; omega) | (simp [bytesV_length, intsV_length, boolsV_length]; done) | (simp [bytesV_length, intsV_length, boolsV_length]; omega) | (simp [maxLen, bytesV_length, intsV_length, boolsV_length] at *; omega)) (by first | omega | rfl | (simp only [bytesV_length, intsV_length, boolsV_length]; omega) | (simp [bytesV_length, intsV_length, boolsV_length]; done) | (simp [bytesV_length, intsV_length, boolsV_length]; omega) | (simp [maxLen, bytesV_length, intsV_length, boolsV_length] at *; omega)) (by first | omega | rfl | (simp only [bytesV_length, intsV_length, boolsV_length]; omega) | (simp [bytesV_length, intsV_length, boolsV_length]; done) | (simp [bytesV_length, intsV_length, boolsV_length]; omega) | (simp [maxLen, bytesV_length, intsV_length, boolsV_length] at *; omega)) (by first | omega | rfl | (simp only [bytesV_length, intsV_length, boolsV_length]; omega) | (simp [bytesV_length, intsV_length, boolsV_length]; done) | (simp [bytesV_length, intsV_length, boolsV_length]; omega) | (simp [maxLen, bytesV_length, intsV_length, boolsV_length] at *; omega)) (by first | omega | rfl | (simp only [bytesV_length, intsV_length, boolsV_length]; omega) | (simp [bytesV_length, intsV_length, boolsV_length]; done) | (simp [bytesV_length, intsV_length, boolsV_length]; omega) | (simp [maxLen, bytesV_length, intsV_length, boolsV_length] at *; omega)) rfl) rfl rfl rfl ?_
      rintro _ w16 ⟨b15, rfl, h18⟩
      have h17 : Sat W w16 (arr (some ⟨b15, 0, none⟩) ((max n 0).toNat) ((max n 0).toNat) 1 4 (boolsV (List.replicate ((max n 0).toNat) false)) :: arr a13 ((ordL n xs).length) c14 1 3 (intsV (ordL n xs)) :: Src W p10 (ordB n xs) :: rd W a (bytesV xs) :: R) := sl_cast (by simp [boolsV]) h18
      refine G.yl (yl_assign rfl) rfl rfl rfl ?_
      refine G.nil ?_
      refine QA.then_normal ?_
      refine C.seq ?_
      refine C.seq ?_
      refine C.region ?_
      refine G.yl (yl_move rfl) rfl rfl rfl ?_
      refine G.yl (yl_len Try.underlying26 rfl) rfl rfl rfl ?_
      refine G.yl (yl_move rfl) rfl rfl rfl ?_
      refine G.nil ?_
      refine QA.then_normal ?_
      refine C.block ?_
      have hol := ordL_length (n := n) xs (by omega)
      refine C.loop (fun (g : Nat × List Bool) => match g with | (k, sv) => [(0, (.slice a nn c)), (1, (.int .i64 n)), (2, (.int .i64 m)), (7, (.pointer (some ⟨p10, 0, none⟩))), (8, (.slice a13 ((ordL n xs).length) c14)), (9, (.slice (some ⟨b15, 0, none⟩) ((max n 0).toNat) ((max n 0).toNat))), (29, (.slice a13 ((ordL n xs).length) c14)), (30, (.int .i64 (((ordL n xs).length : Nat) : Int))), (31, (.int .i64 (k : Int)))]) (fun (g : Nat × List Bool) (ww : World) => match g with | (k, sv) => (k ≤ (ordL n xs).length) ∧ (sv.length = (max n 0).toNat) ∧ (SeenI (ordL n xs) k sv) ∧ Sat W ww (arr (some ⟨b15, 0, none⟩) ((max n 0).toNat) ((max n 0).toNat) 1 4 (boolsV sv) :: arr a13 ((ordL n xs).length) c14 1 3 (intsV (ordL n xs)) :: Src W p10 (ordB n xs) :: rd W a (bytesV xs) :: R)) (fun (g : Nat × List Bool) => match g with | (k, sv) => (ordL n xs).length - k) (0, List.replicate ((max n 0).toNat) false) (Sub.cons rfl (Sub.cons rfl (Sub.cons rfl (Sub.cons rfl (Sub.cons rfl (Sub.cons rfl (Sub.cons rfl (Sub.cons rfl (Sub.cons (look_int rfl (by first | rfl | omega | (simp; omega) | simp)) (Sub.nil _)))))))))) ⟨(Nat.zero_le _), (by simp), (SeenI.start _ _), (sl_cast (by first | rfl | (simp; done) | (simp; omega)) ((((h17.f3).f3).f3).f3))⟩ ?_
      rintro ⟨k, sv⟩ w19 ⟨hk, hsl, hS, h20⟩
      show C _ _ _ [(0, (.slice a nn c)), (1, (.int .i64 n)), (2, (.int .i64 m)), (7, (.pointer (some ⟨p10, 0, none⟩))), (8, (.slice a13 ((ordL n xs).length) c14)), (9, (.slice (some ⟨b15, 0, none⟩) ((max n 0).toNat) ((max n 0).toNat))), (29, (.slice a13 ((ordL n xs).length) c14)), (30, (.int .i64 (((ordL n xs).length : Nat) : Int))), (31, (.int .i64 (k : Int)))] _ _
      refine C.seq ?_
      refine C.region ?_
      refine G.yl (yl_cmp rfl rfl rfl) rfl rfl rfl ?_
      refine G.nil ?_
      refine QA.then_normal ?_
      refine C.seq ?_
      by_cases hc21 : ((k : Int) < (((ordL n xs).length : Nat) : Int))
      · refine C.cond_t rfl (decide_eq_true hc21) ?_
        refine C.skip ?_
        refine QA.then_normal ?_
        refine C.seq ?_
        refine C.block ?_
        refine C.seq ?_
        refine C.region ?_
        obtain ⟨b22, o23, rfl⟩ := open_ints (h20.f1).arr_view (by first | omega | rfl | (simp only [bytesV_length, intsV_length, boolsV_length]; omega) | (simp [bytesV_length, intsV_length, boolsV_length]; done) | (simp [bytesV_length, intsV_length, boolsV_length]; omega) | (simp [maxLen, bytesV_length, intsV_length, boolsV_length] at *; omega))
        refine G.yl (yl_indexAddr (s := 1) (off := o23 + k) (by kernel_rfl) (by kernel_rfl) rfl rfl (by first | omega | rfl | (simp only [bytesV_length, intsV_length, boolsV_length]; omega) | (simp [bytesV_length, intsV_length, boolsV_length]; done) | (simp [bytesV_length, intsV_length, boolsV_length]; omega) | (simp [maxLen, bytesV_length, intsV_length, boolsV_length] at *; omega)) (by first | omega | rfl | (simp only [bytesV_length, intsV_length, boolsV_length]; omega) | (simp [bytesV_length, intsV_length, boolsV_length]; done) | (simp [bytesV_length, intsV_length, boolsV_length]; omega) | (simp [maxLen, bytesV_length, intsV_length, boolsV_length] at *; omega))) rfl rfl rfl ?_
        obtain ⟨x24, hx25⟩ : ∃ x, (ordL n xs)[k]? = some x := ⟨_, List.getElem?_eq_getElem (by first | omega | rfl | (simp only [bytesV_length, intsV_length, boolsV_length]; omega) | (simp [bytesV_length, intsV_length, boolsV_length]; done) | (simp [bytesV_length, intsV_length, boolsV_length]; omega) | (simp [maxLen, bytesV_length, intsV_length, boolsV_length] at *; omega))⟩
        refine G.yl (yl_load (v := (.int .i64 x24)) (by kernel_rfl) rfl (View.at_ (h20.f1).arr_view (intsV_get hx25))) rfl rfl rfl ?_
        refine G.yl (yl_assign rfl) rfl rfl rfl ?_
        refine G.nil ?_
        refine QA.then_normal ?_
        refine C.seq ?_
        refine C.seq ?_
        refine C.region ?_
        have hxr := ordL_range (n := n) (by omega) (List.mem_of_getElem? hx25)
        refine G.yl (yl_move rfl) rfl rfl rfl ?_
        refine G.yl (yl_cmp rfl rfl rfl) rfl rfl rfl ?_
        refine G.yl (yl_move rfl) rfl rfl rfl ?_
        refine G.on rfl rfl (decide_eq_false (by omega)) ?_
        refine G.yl (yl_move rfl) rfl rfl rfl ?_
        refine G.on rfl rfl (decide_eq_false (by omega)) ?_
        refine G.yl (yl_move rfl) rfl rfl rfl ?_
        refine G.on rfl rfl (decide_eq_false (by omega)) ?_
        refine G.yl (yl_cmp rfl rfl rfl) rfl rfl rfl ?_
        refine G.yl (yl_pick_f rfl (decide_eq_false (by omega)) rfl) rfl rfl rfl ?_
        refine G.yl (yl_move rfl) rfl rfl rfl ?_
        refine G.on rfl rfl (decide_eq_false (by omega)) ?_
        refine G.yl (yl_move rfl) rfl rfl rfl ?_
        refine G.on rfl rfl (decide_eq_false (by omega)) ?_
        refine G.yl (yl_move rfl) rfl rfl rfl ?_
        refine G.on rfl rfl (decide_eq_false (by omega)) ?_
        refine G.yl (yl_indexAddr (s := 1) (off := (x24).toNat) (by kernel_rfl) (by kernel_rfl) rfl rfl (by first | omega | rfl | (simp only [bytesV_length, intsV_length, boolsV_length]; omega) | (simp [bytesV_length, intsV_length, boolsV_length]; done) | (simp [bytesV_length, intsV_length, boolsV_length]; omega) | (simp [maxLen, bytesV_length, intsV_length, boolsV_length] at *; omega)) (by first | omega | rfl | (simp only [bytesV_length, intsV_length, boolsV_length]; omega) | (simp [bytesV_length, intsV_length, boolsV_length]; done) | (simp [bytesV_length, intsV_length, boolsV_length]; omega) | (simp [maxLen, bytesV_length, intsV_length, boolsV_length] at *; omega))) rfl rfl rfl ?_
        refine G.on rfl rfl (decide_eq_false (by omega)) ?_
        obtain ⟨x26, hx27⟩ : ∃ x, sv[(x24).toNat]? = some x := ⟨_, List.getElem?_eq_getElem (by first | omega | rfl | (simp only [bytesV_length, intsV_length, boolsV_length]; omega) | (simp [bytesV_length, intsV_length, boolsV_length]; done) | (simp [bytesV_length, intsV_length, boolsV_length]; omega) | (simp [maxLen, bytesV_length, intsV_length, boolsV_length] at *; omega))⟩
        refine G.yl (yl_load (v := (.bool x26)) (by kernel_rfl) rfl (View.at0 h20.arr_view (boolsV_get hx27))) rfl rfl rfl ?_
        refine G.yl (yl_pick_f rfl (decide_eq_false (by omega)) rfl) rfl rfl rfl ?_
        refine G.nil ?_
        refine QA.then_normal ?_
        refine C.cond_f rfl (SeenI.new hS (ordL_nodup xs (by omega)) hx25 (by omega) hx27) ?_
        refine C.skip ?_
        refine QA.then_normal ?_
        refine C.region ?_
        refine G.yl (yl_move rfl) rfl rfl rfl ?_
        refine G.yl (yl_move rfl) rfl rfl rfl ?_
        refine G.yl (yl_indexAddr (s := 1) (off := (x24).toNat) (by kernel_rfl) (by kernel_rfl) rfl rfl (by first | omega | rfl | (simp only [bytesV_length, intsV_length, boolsV_length]; omega) | (simp [bytesV_length, intsV_length, boolsV_length]; done) | (simp [bytesV_length, intsV_length, boolsV_length]; omega) | (simp [maxLen, bytesV_length, intsV_length, boolsV_length] at *; omega)) (by first | omega | rfl | (simp only [bytesV_length, intsV_length, boolsV_length]; omega) | (simp [bytesV_length, intsV_length, boolsV_length]; done) | (simp [bytesV_length, intsV_length, boolsV_length]; omega) | (simp [maxLen, bytesV_length, intsV_length, boolsV_length] at *; omega))) rfl rfl rfl ?_
        refine G.unit (does_storeArr (k := 1) (vs := [(.bool true)]) (i := (x24).toNat) h20 (by kernel_rfl) rfl (by omega) rfl rfl rfl (by simp [Value.oneCell']) (by first | omega | rfl | (simp only [bytesV_length, intsV_length, boolsV_length]; omega) | (simp [bytesV_length, intsV_length, boolsV_length]; done) | (simp [bytesV_length, intsV_length, boolsV_length]; omega) | (simp [maxLen, bytesV_length, intsV_length, boolsV_length] at *; omega))) rfl rfl ?_
        rintro _ w28 h30
        have h29 : Sat W w28 (arr (some ⟨b15, 0, none⟩) ((max n 0).toNat) ((max n 0).toNat) 1 4 (boolsV (sv.set ((x24).toNat) true)) :: arr (some ⟨b22, o23, none⟩) ((ordL n xs).length) c14 1 3 (intsV (ordL n xs)) :: Src W p10 (ordB n xs) :: rd W a (bytesV xs) :: R) := sl_cast (by rw [boolsV_set]) h30
        refine G.nil ?_
        refine QA.block_normal ?_
        refine QA.then_normal ?_
        refine C.region ?_
        refine G.yl (yl_arith rfl rfl (add64 (r := ((k + 1 : Nat) : Int)) (by first | omega | rfl | (simp only [bytesV_length, intsV_length, boolsV_length]; omega) | (simp [bytesV_length, intsV_length, boolsV_length]; done) | (simp [bytesV_length, intsV_length, boolsV_length]; omega) | (simp [maxLen, bytesV_length, intsV_length, boolsV_length] at *; omega)))) rfl rfl rfl ?_
        refine G.yl (yl_move rfl) rfl rfl rfl ?_
        refine G.nil ?_
        exact QA.again (k + 1, sv.set ((x24).toNat) true) (Sub.cons rfl (Sub.cons rfl (Sub.cons rfl (Sub.cons rfl (Sub.cons rfl (Sub.cons rfl (Sub.cons rfl (Sub.cons rfl (Sub.cons (look_int rfl (by first | rfl | omega | (simp; omega) | simp)) (Sub.nil _)))))))))) ⟨(by omega), (by rw [List.length_set]; exact hsl), (hS.step hx25 (by omega)), (sl_cast (by first | rfl | (simp; done) | (simp; omega)) ((((h29.f3).f3).f3).f3))⟩ (by first | omega | (dsimp only; omega) | (simp; omega) | (simp; done))
      · refine C.cond_f rfl (decide_eq_false hc21) ?_
        refine C.exit ?_
        refine QA.then_exit ?_
        refine QA.then_exit ?_
        refine QA.block_here ?_
        refine QA.then_normal ?_
        refine C.seq ?_
        refine C.region ?_
        refine G.yl (yl_move rfl) rfl rfl rfl ?_
        refine G.yl (yl_move rfl) rfl rfl rfl ?_
        refine G.does (does_call (F := 16) (args := [(.pointer (some ⟨p10, 0, none⟩)), (.int .i64 m)]) rfl rfl rfl en16 (num_src (p := p10) (n := m) (bs := ordB n xs) (h20.f2) (by first | omega | rfl | (simp only [bytesV_length, intsV_length, boolsV_length]; omega) | (simp [bytesV_length, intsV_length, boolsV_length]; done) | (simp [bytesV_length, intsV_length, boolsV_length]; omega) | (simp [maxLen, bytesV_length, intsV_length, boolsV_length] at *; omega)))) rfl rfl rfl ?_
        rintro _ w31 ⟨rfl, h32⟩
        refine G.yl (yl_assign rfl) rfl rfl rfl ?_
        refine G.nil ?_
        refine QA.then_normal ?_
        refine C.seq ?_
        refine C.region ?_
        have hnv := numV_all m (ordB n xs)
        generalize numV m (ordB n xs) = nv at hnv ⊢
        refine G.yl (yl_move rfl) rfl rfl rfl ?_
        refine G.yl (yl_move rfl) rfl rfl rfl ?_
        refine G.yl (yl_build (vs := [(.slice a nn c)]) (cells := #[(.slice a nn c), (.int .i64 0)]) rfl (by kernel_rfl)) rfl rfl rfl ?_
        refine G.does (does_box (cs := [(.slice a nn c), (.int .i64 0)]) h32 rfl rfl) rfl rfl rfl ?_
        rintro _ w34 ⟨b33, rfl, h35⟩
        have h36 : Sat W w34 (RSrc W b33 xs.length xs :: Src W p10 ((ordB n xs).drop (numK m)) :: arr (some ⟨b15, 0, none⟩) ((max n 0).toNat) ((max n 0).toNat) 1 4 (boolsV sv) :: arr a13 ((ordL n xs).length) c14 1 3 (intsV (ordL n xs)) :: R) := RSrc.shut (k := 0) (sl_cast (by first | rfl | (simp; done) | (simp; omega)) (((((h35.f3).f3).f3).f4).f4)) (by omega) (by omega) (by omega) rfl (by omega)
        refine G.yl (yl_move rfl) rfl rfl rfl ?_
        refine G.does (does_call (F := 18) (args := [(.pointer (some ⟨b33, 0, none⟩)), (.int .i64 n)]) rfl rfl rfl en18 (order_ref (p := b33) (n := n) (T := xs.length) (bs := xs) h36 (by first | omega | rfl | (simp only [bytesV_length, intsV_length, boolsV_length]; omega) | (simp [bytesV_length, intsV_length, boolsV_length]; done) | (simp [bytesV_length, intsV_length, boolsV_length]; omega) | (simp [maxLen, bytesV_length, intsV_length, boolsV_length] at *; omega)))) rfl rfl rfl ?_
        rintro _ w37 ⟨a39, c40, rfl, h38⟩
        have h41 : Sat W w37 (rd W a13 (intsV (ordL n xs)) :: arr a39 ((ordL n xs).length) c40 1 3 (intsV (ordL n xs)) :: RSrc W b33 xs.length (ordB n xs) :: Src W p10 ((ordB n xs).drop (numK m)) :: arr (some ⟨b15, 0, none⟩) ((max n 0).toNat) ((max n 0).toNat) 1 4 (boolsV sv) :: R) := Sat.rd_of_arr (h38.f4)
        have h42 : Sat W w37 (rd W a39 (intsV (ordL n xs)) :: rd W a13 (intsV (ordL n xs)) :: RSrc W b33 xs.length (ordB n xs) :: Src W p10 ((ordB n xs).drop (numK m)) :: arr (some ⟨b15, 0, none⟩) ((max n 0).toNat) ((max n 0).toNat) 1 4 (boolsV sv) :: R) := Sat.rd_of_arr (h41.f1)
        refine G.does (does_call (F := 17) (args := [(.slice a13 ((ordL n xs).length) c14), (.slice a39 ((ordL n xs).length) c40)]) rfl rfl rfl en17 (ints_same (a := a13) (n := (ordL n xs).length) (c := c14) (a' := a39) (n' := (ordL n xs).length) (c' := c40) (zs := ordL n xs) (h42.f1) (by first | omega | rfl | (simp only [bytesV_length, intsV_length, boolsV_length]; omega) | (simp [bytesV_length, intsV_length, boolsV_length]; done) | (simp [bytesV_length, intsV_length, boolsV_length]; omega) | (simp [maxLen, bytesV_length, intsV_length, boolsV_length] at *; omega)) (by first | omega | rfl | (simp only [bytesV_length, intsV_length, boolsV_length]; omega) | (simp [bytesV_length, intsV_length, boolsV_length]; done) | (simp [bytesV_length, intsV_length, boolsV_length]; omega) | (simp [maxLen, bytesV_length, intsV_length, boolsV_length] at *; omega)) (by first | omega | rfl | (simp only [bytesV_length, intsV_length, boolsV_length]; omega) | (simp [bytesV_length, intsV_length, boolsV_length]; done) | (simp [bytesV_length, intsV_length, boolsV_length]; omega) | (simp [maxLen, bytesV_length, intsV_length, boolsV_length] at *; omega)))) rfl rfl rfl ?_
        rintro _ w43 ⟨rfl, h44⟩
        refine G.yl (yl_move rfl) rfl rfl rfl ?_
        refine G.on rfl rfl rfl ?_
        refine G.yl (yl_move rfl) rfl rfl rfl ?_
        refine G.on rfl rfl rfl ?_
        refine G.yl (yl_len Try.underlying26 rfl) rfl rfl rfl ?_
        refine G.on rfl rfl rfl ?_
        refine G.yl (yl_move rfl) rfl rfl rfl ?_
        refine G.on rfl rfl rfl ?_
        refine G.yl (yl_max rfl rfl (r := max n (0 : Int)) (by first | omega | rfl | (simp only [bytesV_length, intsV_length, boolsV_length]; omega) | (simp [bytesV_length, intsV_length, boolsV_length]; done) | (simp [bytesV_length, intsV_length, boolsV_length]; omega) | (simp [maxLen, bytesV_length, intsV_length, boolsV_length] at *; omega))) rfl rfl rfl ?_
        refine G.on rfl rfl rfl ?_
        refine G.yl (yl_cmp rfl rfl rfl) rfl rfl rfl ?_
        refine G.yl (yl_pick_t rfl rfl rfl) rfl rfl rfl ?_
        refine G.yl (yl_move rfl) rfl rfl rfl ?_
        by_cases hc45 : ((((ordL n xs).length : Nat) : Int) = max n (0 : Int))
        · refine G.on rfl rfl (beq_t hc45) ?_
          refine G.yl (yl_move rfl) rfl rfl rfl ?_
          refine G.on rfl rfl (beq_t hc45) ?_
          refine G.yl (yl_cmp rfl rfl rfl) rfl rfl rfl ?_
          refine G.yl (yl_pick_t rfl (beq_t hc45) rfl) rfl rfl rfl ?_
          refine G.yl (yl_move rfl) rfl rfl rfl ?_
          refine G.on rfl rfl (decide_eq_true (by omega)) ?_
          refine G.yl (yl_move rfl) rfl rfl rfl ?_
          refine G.on rfl rfl (decide_eq_true (by omega)) ?_
          refine G.yl (yl_move rfl) rfl rfl rfl ?_
          refine G.on rfl rfl (decide_eq_true (by omega)) ?_
          refine G.yl (yl_cmp rfl rfl rfl) rfl rfl rfl ?_
          refine G.on rfl rfl (decide_eq_true (by omega)) ?_
          refine G.yl (yl_move rfl) rfl rfl rfl ?_
          by_cases hc46 : (nv < m)
          · refine G.offU rfl rfl (decide_eq_true hc46) rfl ?_
            refine G.offU rfl rfl (decide_eq_true hc46) rfl ?_
            refine G.offU rfl rfl (decide_eq_true hc46) rfl ?_
            refine G.offUU rfl rfl rfl ?_
            refine G.offUU rfl rfl rfl ?_
            refine G.offU rfl rfl (decide_eq_true hc46) rfl ?_
            refine G.on rfl rfl (decide_eq_true (by omega)) ?_
            refine G.yl (yl_pick_t rfl (decide_eq_true hc46) rfl) rfl rfl rfl ?_
            refine G.yl (yl_pick_t rfl (decide_eq_true (by omega)) rfl) rfl rfl rfl ?_
            refine G.yl (yl_move rfl) rfl rfl rfl ?_
            refine G.on rfl rfl rfl ?_
            refine G.does (does_call (F := 13) (args := []) rfl rfl rfl en13 (lives_true  h44 )) rfl rfl rfl ?_
            rintro _ w47 ⟨rfl, h48⟩
            refine G.yl (yl_pick_t rfl rfl rfl) rfl rfl rfl ?_
            refine G.yl (yl_assign rfl) rfl rfl rfl ?_
            refine G.nil ?_
            refine QA.then_normal ?_
            refine C.ret ?_
            refine QA.ret1 rfl rfl ?_
            exact ⟨rfl, (sl_cast (by first | rfl | (simp; done) | (simp; omega)) (Sat.keep 0 5 h48))⟩
          · refine G.on rfl rfl (decide_eq_false hc46) ?_
            refine G.yl (yl_move rfl) rfl rfl rfl ?_
            refine G.on rfl rfl (decide_eq_false hc46) ?_
            refine G.yl (yl_cmp rfl rfl rfl) rfl rfl rfl ?_
            refine G.on rfl rfl (decide_eq_false hc46) ?_
            refine G.yl (yl_move rfl) rfl rfl rfl ?_
            refine G.on rfl rfl (decide_eq_true (by omega)) ?_
            refine G.yl (yl_move rfl) rfl rfl rfl ?_
            refine G.on rfl rfl (decide_eq_true (by omega)) ?_
            refine G.yl (yl_cmp rfl rfl rfl) rfl rfl rfl ?_
            refine G.on rfl rfl (decide_eq_false hc46) ?_
            refine G.yl (yl_pick_t rfl (decide_eq_true (by omega)) rfl) rfl rfl rfl ?_
            refine G.on rfl rfl (decide_eq_true (by omega)) ?_
            refine G.yl (yl_pick_f rfl (decide_eq_false hc46) rfl) rfl rfl rfl ?_
            refine G.yl (yl_pick_t rfl (decide_eq_true (by omega)) rfl) rfl rfl rfl ?_
            refine G.yl (yl_move rfl) rfl rfl rfl ?_
            refine G.on rfl rfl (beq_t (by omega)) ?_
            refine G.does (does_call (F := 13) (args := []) rfl rfl rfl en13 (lives_true  h44 )) rfl rfl rfl ?_
            rintro _ w49 ⟨rfl, h50⟩
            refine G.yl (yl_pick_t rfl (beq_t (by omega)) rfl) rfl rfl rfl ?_
            refine G.yl (yl_assign rfl) rfl rfl rfl ?_
            refine G.nil ?_
            refine QA.then_normal ?_
            refine C.ret ?_
            refine QA.ret1 rfl rfl ?_
            exact ⟨rfl, (sl_cast (by first | rfl | (simp; done) | (simp; omega)) (Sat.keep 0 5 h50))⟩
        · refine G.offU rfl rfl (beq_f hc45) rfl ?_
          refine G.offU rfl rfl (beq_f hc45) rfl ?_
          refine G.yl (yl_pick_f rfl (beq_f hc45) rfl) rfl rfl rfl ?_
          refine G.yl (yl_move rfl) rfl rfl rfl ?_
          refine G.offU rfl rfl rfl rfl ?_
          refine G.offU rfl rfl rfl rfl ?_
          refine G.offU rfl rfl rfl rfl ?_
          refine G.offU rfl rfl rfl rfl ?_
          refine G.offUU rfl rfl rfl ?_
          refine G.offUU rfl rfl rfl ?_
          refine G.offUU rfl rfl rfl ?_
          refine G.offUU rfl rfl rfl ?_
          refine G.offUU rfl rfl rfl ?_
          refine G.offUU rfl rfl rfl ?_
          refine G.offU rfl rfl rfl rfl ?_
          refine G.yl (yl_pick_f rfl rfl rfl) rfl rfl rfl ?_
          refine G.yl (yl_move rfl) rfl rfl rfl ?_
          refine G.offU rfl rfl rfl rfl ?_
          refine G.yl (yl_pick_f rfl rfl rfl) rfl rfl rfl ?_
          refine G.yl (yl_assign rfl) rfl rfl rfl ?_
          refine G.nil ?_
          refine QA.then_normal ?_
          refine C.ret ?_
          refine QA.ret1 rfl rfl ?_
          exact ⟨(by first | rfl | (simp; done) | (simp; omega)), (sl_cast (by first | rfl | (simp; done) | (simp; omega)) (Sat.keep 0 5 h44))⟩
end Go.Proofs.Ytaaahjcldomnbaa
