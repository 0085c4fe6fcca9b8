/-
  The statement DrawAll, walked: each order is drawn by some bytes. No condition beside the arguments being read.
-/
import Derived.Test.YtaaahjcldomnbaaDrawLaw
namespace Go.Proofs.Ytaaahjcldomnbaa
open Go Go.RowKit
set_option linter.unusedVariables false
set_option linter.unusedSimpArgs false
set_option linter.unnecessarySimpa false

/-- The bytes that draw an order. -/
def code : List Int → List UInt8
  | [] => []
  | x :: ys => (match ys with | [] => [] | _ :: _ => [UInt8.ofNat (ys.countP (fun y => decide (y < x)))]) ++ code ys
theorem code_one (x : Int) : code [x] = [] := rfl
theorem code_more {x : Int} {ys : List Int} (h : 0 < ys.length) : code (x :: ys) = UInt8.ofNat (ys.countP (fun y => decide (y < x))) :: code ys := by
  cases ys with
  | nil => simp at h
  | cons y ys => rfl
theorem sorted_get : ∀ {L : List Int} {x : Int}, L.Pairwise (· < ·) → x ∈ L → L[L.countP (fun y => decide (y < x))]? = some x
  | [], x, _, h => by cases h
  | a :: L, x, hp, h => by
    obtain ⟨h1, h2⟩ := List.pairwise_cons.1 hp
    rcases List.mem_cons.1 h with rfl | h
    · have : (x :: L).countP (fun y => decide (y < x)) = 0 := by
        rw [List.countP_eq_zero]
        intro y hy
        rcases List.mem_cons.1 hy with rfl | hy
        · simp
        · have := h1 y hy; simp; omega
      rw [this]; rfl
    · have := h1 x h
      rw [List.countP_cons_of_pos (by simpa using this)]
      simpa using sorted_get h2 h
theorem drawAt_code {L ys : List Int} {x : Int} (hL : L.length = ys.length + 1) (h : L.length ≤ 200) : drawAt L (code (x :: ys)) = ys.countP (fun y => decide (y < x)) ∧ (code (x :: ys)).drop (numK (L.length : Int)) = code ys := by
  have hc : ys.countP (fun y => decide (y < x)) ≤ ys.length := List.countP_le_length
  by_cases hy : ys.length = 0
  · have : ys = [] := List.eq_nil_of_length_eq_zero hy
    subst this
    have e : ((L.length : Nat) : Int) < 2 := by simp at hL; omega
    refine ⟨?_, ?_⟩
    · unfold drawAt numV; rw [if_pos e]; rfl
    · unfold numK; rw [if_pos e]; rfl
  · rw [code_more (by omega)]
    have e : ¬ ((L.length : Nat) : Int) < 2 := by omega
    have hk : numK (L.length : Int) = 1 := by
      unfold numK
      rw [if_neg e, nb_pos (by omega), show ((L.length : Int).toNat - 1) / 256 = 0 from by omega, nb_zero]
    refine ⟨?_, by rw [hk]; rfl⟩
    unfold drawAt numV
    rw [if_neg e, hk]
    have hb : be (pad 1 (UInt8.ofNat (ys.countP (fun y => decide (y < x))) :: code ys)) = ys.countP (fun y => decide (y < x)) := by
      show be [UInt8.ofNat _] = _
      simp only [be, List.foldl, Nat.zero_mul, Nat.zero_add]
      rw [UInt8.toNat_ofNat']; omega
    rw [hb]
    show ((_ % (L.length : Int).toNat : Nat) : Int).toNat = _
    rw [Nat.mod_eq_of_lt (by omega)]
    rfl
theorem drawL_code : ∀ (l L : List Int), L.Pairwise (· < ·) → l.Perm L → L.length ≤ 200 → drawL L.length L (code l) = l
  | [], L, _, hp, _ => by rw [hp.length_eq.symm]; rfl
  | x :: ys, L, hs, hp, hl => by
    have hlen : L.length = ys.length + 1 := hp.length_eq.symm
    obtain ⟨h1, h2⟩ := drawAt_code (L := L) (ys := ys) (x := x) hlen hl
    have hg := sorted_get hs (hp.mem_iff.1 (List.mem_cons_self))
    have hc : L.countP (fun y => decide (y < x)) = ys.countP (fun y => decide (y < x)) := by
      rw [← hp.countP_eq, List.countP_cons_of_neg (by simp)]
    rw [hc] at hg
    have hlt := (List.getElem?_eq_some_iff.1 hg).1
    have hx : L[ys.countP (fun y => decide (y < x))]'hlt = x := (List.getElem?_eq_some_iff.1 hg).2
    have hperm : (L.eraseIdx (ys.countP (fun y => decide (y < x)))).Perm ys := by
      have := erase_perm hlt
      rw [hx] at this
      exact (this.trans hp.symm).cons_inv
    have hlen2 : (L.eraseIdx (ys.countP (fun y => decide (y < x)))).length = ys.length := hperm.length_eq
    have ih := drawL_code ys (L.eraseIdx (ys.countP (fun y => decide (y < x)))) (hs.sublist (List.eraseIdx_sublist _ _)) hperm.symm (by omega)
    rw [hlen2] at ih
    rw [show drawL L.length L (code (x :: ys)) = drawL (ys.length + 1) L (code (x :: ys)) from by rw [hlen]]
    simp only [drawL]
    rw [h1, h2, ih, List.getD_eq_getElem?_getD, hg]
    rfl
theorem iota_sorted (n : Nat) : (iota n).Pairwise (· < ·) := by
  unfold iota
  exact List.pairwise_map.2 (List.pairwise_lt_range.imp fun h => Int.ofNat_lt.2 h)
theorem ordL_code {n : Int} {xs : List UInt8} (h0 : 0 ≤ n) (h : n ≤ 200) : ordL n (code (ordL n xs)) = ordL n xs := by
  by_cases h1 : n < 1
  · unfold ordL; rw [if_pos (.inl h1), if_pos (.inl h1)]
  · have hp := ordL_perm (n := n) xs (by omega)
    have := drawL_code (ordL n xs) (iota n.toNat) (iota_sorted _) hp (by rw [iota_length]; omega)
    rw [iota_length] at this
    rw [show ordL n (code (ordL n xs)) = drawL n.toNat (iota n.toNat) (code (ordL n xs)) from by rw [ordL, if_neg (by omega)]]
    exact this
theorem code_length (l : List Int) : (code l).length ≤ l.length := by
  induction l with
  | nil => exact Nat.le_refl _
  | cons x ys ih =>
    cases ys with
    | nil => simp [code_one]
    | cons y ys => rw [code_more (by simp)]; simp only [List.length_cons] at *; omega
theorem code_step {l : List Int} {bs : List UInt8} {k : Nat} {x : Int} (hb : bs ++ code (l.drop k) = code l) (hx : l[k]? = some x) (h : k + 1 < l.length) :
    (bs ++ [UInt8.ofNat ((l.drop (k + 1)).countP (fun y => decide (y < x)))]) ++ code (l.drop (k + 1)) = code l := by
  have hlt := (List.getElem?_eq_some_iff.1 hx).1
  rw [List.drop_eq_getElem_cons hlt, (List.getElem?_eq_some_iff.1 hx).2, code_more (by rw [List.length_drop]; omega)] at hb
  rw [← hb]; simp
theorem code_skip {l : List Int} {bs : List UInt8} {k : Nat} (hb : bs ++ code (l.drop k) = code l) (h : ¬ k + 1 < l.length) : bs ++ code (l.drop (k + 1)) = code l := by
  rw [@List.drop_eq_nil_of_le _ l (k + 1) (by omega)]
  by_cases hk : k < l.length
  · rw [List.drop_eq_getElem_cons hk, @List.drop_eq_nil_of_le _ l (k + 1) (by omega), code_one] at hb
    exact hb
  · rw [@List.drop_eq_nil_of_le _ l k (by omega)] at hb
    exact hb
theorem countP_take_succ {l : List Int} {j : Nat} {y x : Int} (h : l[j]? = some y) : (l.take (j + 1)).countP (fun y => decide (y < x)) = (l.take j).countP (fun y => decide (y < x)) + (if y < x then 1 else 0) := by
  rw [List.take_add_one, h, List.countP_append]
  simp [List.countP_cons]

set_option maxRecDepth 20000 in
theorem all_law {W w : World} {R : List Res} {a : Option Addr} {nn c : Nat} {n : Int} {xs : List UInt8} (h : Sat W w (R)) (hv : View W a (bytesV xs)) (hnn : nn = xs.length) (hcap : nn ≤ c) (hn : -9223372036854775808 ≤ n ∧ n ≤ 9223372036854775807) :
    Calls Try.prog 4 #[(.slice a nn c), (.int .i64 n)] w (Ret fun v w' => v = (.bool true) ∧ Sat W w' (R)) := by
  refine C.enter (N := 69) Try.func4 rfl Try.ntmps4 rfl ?_
  show C _ _ _ [(0, (.slice a nn c)), (1, (.int .i64 n))] _ _
  refine C.seq ?_
  refine C.region ?_
  refine G.yl (yl_assign rfl) rfl rfl rfl ?_
  refine G.nil ?_
  refine QA.then_normal ?_
  refine C.seq ?_
  refine C.seq ?_
  refine C.region ?_
  refine G.yl (yl_move rfl) rfl rfl rfl ?_
  refine G.yl (yl_len Try.underlying22 rfl) rfl rfl rfl ?_
  refine G.yl (yl_cmp rfl rfl rfl) rfl rfl rfl ?_
  refine G.yl (yl_move rfl) rfl rfl rfl ?_
  by_cases hc1 : ((nn : Int) > 1000)
  · refine G.offU rfl rfl (decide_eq_true hc1) rfl ?_
    refine G.offU rfl rfl (decide_eq_true hc1) rfl ?_
    refine G.yl (yl_pick_t rfl (decide_eq_true hc1) rfl) rfl rfl rfl ?_
    refine G.yl (yl_move rfl) rfl rfl rfl ?_
    refine G.offU rfl rfl rfl rfl ?_
    refine G.offU rfl rfl rfl rfl ?_
    refine G.yl (yl_pick_t rfl rfl rfl) rfl rfl rfl ?_
    refine G.nil ?_
    refine QA.then_normal ?_
    refine C.cond_t rfl rfl ?_
    refine C.seq ?_
    refine C.region ?_
    refine G.does (does_call (F := 13) (args := []) rfl rfl rfl en13 (lives_true  h )) rfl rfl rfl ?_
    rintro _ w2 ⟨rfl, h3⟩
    refine G.yl (yl_assign rfl) rfl rfl rfl ?_
    refine G.nil ?_
    refine QA.then_normal ?_
    refine C.ret ?_
    refine QA.then_ret ?_
    refine QA.ret1 rfl rfl ?_
    exact ⟨rfl, (sl_cast (by first | rfl | (simp; done) | (simp; omega)) h3)⟩
  · refine G.on rfl rfl (decide_eq_false hc1) ?_
    refine G.yl (yl_move rfl) rfl rfl rfl ?_
    refine G.on rfl rfl (decide_eq_false hc1) ?_
    refine G.yl (yl_cmp rfl rfl rfl) rfl rfl rfl ?_
    refine G.yl (yl_pick_f rfl (decide_eq_false hc1) rfl) rfl rfl rfl ?_
    refine G.yl (yl_move rfl) rfl rfl rfl ?_
    by_cases hc4 : (n < 0)
    · refine G.offU rfl rfl (decide_eq_true hc4) rfl ?_
      refine G.offU rfl rfl (decide_eq_true hc4) rfl ?_
      refine G.yl (yl_pick_t rfl (decide_eq_true hc4) rfl) rfl rfl rfl ?_
      refine G.nil ?_
      refine QA.then_normal ?_
      refine C.cond_t rfl rfl ?_
      refine C.seq ?_
      refine C.region ?_
      refine G.does (does_call (F := 13) (args := []) rfl rfl rfl en13 (lives_true  h )) rfl rfl rfl ?_
      rintro _ w5 ⟨rfl, h6⟩
      refine G.yl (yl_assign rfl) rfl rfl rfl ?_
      refine G.nil ?_
      refine QA.then_normal ?_
      refine C.ret ?_
      refine QA.then_ret ?_
      refine QA.ret1 rfl rfl ?_
      exact ⟨rfl, (sl_cast (by first | rfl | (simp; done) | (simp; omega)) h6)⟩
    · refine G.on rfl rfl (decide_eq_false hc4) ?_
      refine G.yl (yl_move rfl) rfl rfl rfl ?_
      refine G.on rfl rfl (decide_eq_false hc4) ?_
      refine G.yl (yl_cmp rfl rfl rfl) rfl rfl rfl ?_
      refine G.yl (yl_pick_f rfl (decide_eq_false hc4) rfl) rfl rfl rfl ?_
      refine G.nil ?_
      refine QA.then_normal ?_
      by_cases hc7 : (n > 200)
      · refine C.cond_t rfl (decide_eq_true hc7) ?_
        refine C.seq ?_
        refine C.region ?_
        refine G.does (does_call (F := 13) (args := []) rfl rfl rfl en13 (lives_true  h )) rfl rfl rfl ?_
        rintro _ w8 ⟨rfl, h9⟩
        refine G.yl (yl_assign rfl) rfl rfl rfl ?_
        refine G.nil ?_
        refine QA.then_normal ?_
        refine C.ret ?_
        refine QA.then_ret ?_
        refine QA.ret1 rfl rfl ?_
        exact ⟨rfl, (sl_cast (by first | rfl | (simp; done) | (simp; omega)) h9)⟩
      · refine C.cond_f rfl (decide_eq_false hc7) ?_
        refine C.skip ?_
        refine QA.then_normal ?_
        refine C.seq ?_
        refine C.region ?_
        refine G.yl (yl_move rfl) rfl rfl rfl ?_
        have h10 : Sat W w (rd W a (bytesV xs) :: R) := Sat.rd_old (hv) h
        refine G.does (does_call (F := 14) (args := [(.slice a nn c)]) rfl rfl rfl en14 (new_src (a := a) (n := nn) (c := c) h10 (by first | omega | rfl | (simp only [bytesV_length, intsV_length, boolsV_length]; omega) | (simp [bytesV_length, intsV_length, boolsV_length]; done) | (simp [bytesV_length, intsV_length, boolsV_length]; omega) | (simp [maxLen, bytesV_length, intsV_length, boolsV_length] at *; omega)) (by first | omega | rfl | (simp only [bytesV_length, intsV_length, boolsV_length]; omega) | (simp [bytesV_length, intsV_length, boolsV_length]; done) | (simp [bytesV_length, intsV_length, boolsV_length]; omega) | (simp [maxLen, bytesV_length, intsV_length, boolsV_length] at *; omega)))) rfl rfl rfl ?_
        rintro _ w11 ⟨p13, rfl, h12⟩
        refine G.yl (yl_move rfl) rfl rfl rfl ?_
        refine G.does (does_call (F := 15) (args := [(.pointer (some ⟨p13, 0, none⟩)), (.int .i64 n)]) rfl rfl rfl en15 (order_src (p := p13) (n := n) (bs := xs) h12 (by first | omega | rfl | (simp only [bytesV_length, intsV_length, boolsV_length]; omega) | (simp [bytesV_length, intsV_length, boolsV_length]; done) | (simp [bytesV_length, intsV_length, boolsV_length]; omega) | (simp [maxLen, bytesV_length, intsV_length, boolsV_length] at *; omega)))) rfl rfl rfl ?_
        rintro _ w14 ⟨a16, c17, rfl, h15⟩
        refine G.yl (yl_assign rfl) rfl rfl rfl ?_
        refine G.nil ?_
        refine QA.then_normal ?_
        refine C.seq ?_
        refine C.region ?_
        refine G.yl (yl_assign rfl) rfl rfl rfl ?_
        refine G.nil ?_
        refine QA.then_normal ?_
        refine C.seq ?_
        refine C.seq ?_
        refine C.region ?_
        refine G.yl (yl_move rfl) rfl rfl rfl ?_
        refine G.yl (yl_len Try.underlying26 rfl) rfl rfl rfl ?_
        refine G.yl (yl_move rfl) rfl rfl rfl ?_
        refine G.nil ?_
        refine QA.then_normal ?_
        refine C.block ?_
        have hol := ordL_length (n := n) xs (by omega)
        have h18 : Sat W w14 (arr none 0 0 1 5 (bytesV []) :: arr a16 ((ordL n xs).length) c17 1 3 (intsV (ordL n xs)) :: Src W p13 (ordB n xs) :: rd W a (bytesV xs) :: R) := h15.arr_nil 1 5
        refine C.loop (fun (g : Nat × List UInt8 × Option Addr × Nat) => match g with | (k, bs, a1, c1) => [(0, (.slice a nn c)), (1, (.int .i64 n)), (5, (.slice a16 ((ordL n xs).length) c17)), (6, (.slice a1 bs.length c1)), (28, (.slice a16 ((ordL n xs).length) c17)), (29, (.int .i64 (((ordL n xs).length : Nat) : Int))), (30, (.int .i64 (k : Int)))]) (fun (g : Nat × List UInt8 × Option Addr × Nat) (ww : World) => match g with | (k, bs, a1, c1) => (k ≤ (ordL n xs).length) ∧ (bs ++ code ((ordL n xs).drop k) = code (ordL n xs)) ∧ (bs.length ≤ k) ∧ Sat W ww (arr a1 bs.length c1 1 5 (bytesV bs) :: arr a16 ((ordL n xs).length) c17 1 3 (intsV (ordL n xs)) :: Src W p13 (ordB n xs) :: rd W a (bytesV xs) :: R)) (fun (g : Nat × List UInt8 × Option Addr × Nat) => match g with | (k, bs, a1, c1) => (ordL n xs).length - k) (0, [], none, 0) (Sub.cons rfl (Sub.cons rfl (Sub.cons rfl (Sub.cons (look_eq rfl (by first | rfl | (simp; done) | (simp; omega))) (Sub.cons rfl (Sub.cons rfl (Sub.cons (look_int rfl (by first | rfl | omega | (simp; omega) | simp)) (Sub.nil _)))))))) ⟨(Nat.zero_le _), rfl, (Nat.zero_le _), (sl_cast (by first | rfl | (simp; done) | (simp; omega)) ((((h18.f3).f3).f3).f3))⟩ ?_
        rintro ⟨k, bs, a1, c1⟩ w19 ⟨hk, hb, hbl, h20⟩
        show C _ _ _ [(0, (.slice a nn c)), (1, (.int .i64 n)), (5, (.slice a16 ((ordL n xs).length) c17)), (6, (.slice a1 bs.length c1)), (28, (.slice a16 ((ordL n xs).length) c17)), (29, (.int .i64 (((ordL n xs).length : Nat) : Int))), (30, (.int .i64 (k : Int)))] _ _
        refine C.seq ?_
        refine C.region ?_
        refine G.yl (yl_cmp rfl rfl rfl) rfl rfl rfl ?_
        refine G.nil ?_
        refine QA.then_normal ?_
        refine C.seq ?_
        by_cases hc21 : ((k : Int) < (((ordL n xs).length : Nat) : Int))
        · refine C.cond_t rfl (decide_eq_true hc21) ?_
          refine C.skip ?_
          refine QA.then_normal ?_
          refine C.seq ?_
          refine C.block ?_
          refine C.seq ?_
          refine C.region ?_
          refine G.yl (yl_move rfl) rfl rfl rfl ?_
          obtain ⟨b22, o23, rfl⟩ := open_ints (h20.f1).arr_view (by first | omega | rfl | (simp only [bytesV_length, intsV_length, boolsV_length]; omega) | (simp [bytesV_length, intsV_length, boolsV_length]; done) | (simp [bytesV_length, intsV_length, boolsV_length]; omega) | (simp [maxLen, bytesV_length, intsV_length, boolsV_length] at *; omega))
          refine G.yl (yl_indexAddr (s := 1) (off := o23 + k) (by kernel_rfl) (by kernel_rfl) rfl rfl (by first | omega | rfl | (simp only [bytesV_length, intsV_length, boolsV_length]; omega) | (simp [bytesV_length, intsV_length, boolsV_length]; done) | (simp [bytesV_length, intsV_length, boolsV_length]; omega) | (simp [maxLen, bytesV_length, intsV_length, boolsV_length] at *; omega)) (by first | omega | rfl | (simp only [bytesV_length, intsV_length, boolsV_length]; omega) | (simp [bytesV_length, intsV_length, boolsV_length]; done) | (simp [bytesV_length, intsV_length, boolsV_length]; omega) | (simp [maxLen, bytesV_length, intsV_length, boolsV_length] at *; omega))) rfl rfl rfl ?_
          obtain ⟨x24, hx25⟩ : ∃ x, (ordL n xs)[k]? = some x := ⟨_, List.getElem?_eq_getElem (by first | omega | rfl | (simp only [bytesV_length, intsV_length, boolsV_length]; omega) | (simp [bytesV_length, intsV_length, boolsV_length]; done) | (simp [bytesV_length, intsV_length, boolsV_length]; omega) | (simp [maxLen, bytesV_length, intsV_length, boolsV_length] at *; omega))⟩
          refine G.yl (yl_load (v := (.int .i64 x24)) (by kernel_rfl) rfl (View.at_ (h20.f1).arr_view (intsV_get hx25))) rfl rfl rfl ?_
          refine G.yl (yl_assign rfl) rfl rfl rfl ?_
          refine G.yl (yl_assign rfl) rfl rfl rfl ?_
          refine G.nil ?_
          refine QA.then_normal ?_
          refine C.seq ?_
          refine C.region ?_
          refine G.yl (yl_assign rfl) rfl rfl rfl ?_
          refine G.nil ?_
          refine QA.then_normal ?_
          refine C.seq ?_
          refine C.seq ?_
          refine C.region ?_
          refine G.yl (yl_move rfl) rfl rfl rfl ?_
          refine G.yl (yl_move rfl) rfl rfl rfl ?_
          refine G.yl (yl_arith rfl rfl (add64 (r := ((k + 1 : Nat) : Int)) (by first | omega | rfl | (simp only [bytesV_length, intsV_length, boolsV_length]; omega) | (simp [bytesV_length, intsV_length, boolsV_length]; done) | (simp [bytesV_length, intsV_length, boolsV_length]; omega) | (simp [maxLen, bytesV_length, intsV_length, boolsV_length] at *; omega)))) rfl rfl rfl ?_
          have hal26 := (h20.f1).arr_len
          rw [intsV_length] at hal26
          obtain ⟨a27, hcut28⟩ : ∃ p', Cut p' (some ⟨b22, o23, none⟩) c17 (k + 1) 1 := Cut.mk _ _ _ _
          refine G.yl (yl_slice_l (s := 1) (by kernel_rfl) (by kernel_rfl) rfl rfl (l := (k + 1)) (by first | omega | rfl | (simp only [bytesV_length, intsV_length, boolsV_length]; omega) | (simp [bytesV_length, intsV_length, boolsV_length]; done) | (simp [bytesV_length, intsV_length, boolsV_length]; omega) | (simp [maxLen, bytesV_length, intsV_length, boolsV_length] at *; omega)) (by first | omega | rfl | (simp only [bytesV_length, intsV_length, boolsV_length]; omega) | (simp [bytesV_length, intsV_length, boolsV_length]; done) | (simp [bytesV_length, intsV_length, boolsV_length]; omega) | (simp [maxLen, bytesV_length, intsV_length, boolsV_length] at *; omega)) hcut28) rfl rfl rfl ?_
          refine G.yl (yl_len Try.underlying26 rfl) rfl rfl rfl ?_
          refine G.yl (yl_move rfl) rfl rfl rfl ?_
          refine G.nil ?_
          refine QA.then_normal ?_
          refine C.block ?_
          have hdl : ((ordL n xs).drop (k + 1)).length = (ordL n xs).length - (k + 1) := List.length_drop
          refine C.loop (fun (j : Nat) => [(0, (.slice a nn c)), (1, (.int .i64 n)), (5, (.slice (some ⟨b22, o23, none⟩) ((ordL n xs).length) c17)), (6, (.slice a1 bs.length c1)), (7, (.int .i64 (k : Int))), (8, (.int .i64 x24)), (28, (.slice (some ⟨b22, o23, none⟩) ((ordL n xs).length) c17)), (29, (.int .i64 (((ordL n xs).length : Nat) : Int))), (30, (.int .i64 (k : Int))), (9, (.int .i64 (((((ordL n xs).drop (k + 1)).take j).countP (fun y => decide (y < x24)) : Nat) : Int))), (38, (.slice a27 (((ordL n xs).length) - (k + 1)) (c17 - (k + 1)))), (39, (.int .i64 (((ordL n xs).length - (k + 1) : Nat) : Int))), (40, (.int .i64 (j : Int)))]) (fun (j : Nat) (ww : World) => (j ≤ (ordL n xs).length - (k + 1)) ∧ Sat W ww (arr a1 bs.length c1 1 5 (bytesV bs) :: arr (some ⟨b22, o23, none⟩) ((ordL n xs).length) c17 1 3 (intsV (ordL n xs)) :: Src W p13 (ordB n xs) :: rd W a (bytesV xs) :: R)) (fun (j : Nat) => (ordL n xs).length - (k + 1) - j) (0) (Sub.cons rfl (Sub.cons rfl (Sub.cons rfl (Sub.cons rfl (Sub.cons rfl (Sub.cons rfl (Sub.cons rfl (Sub.cons rfl (Sub.cons rfl (Sub.cons (look_int rfl (by first | rfl | omega | (simp; omega) | simp)) (Sub.cons rfl (Sub.cons (look_int rfl (by first | rfl | omega | (simp; omega) | simp)) (Sub.cons (look_int rfl (by first | rfl | omega | (simp; omega) | simp)) (Sub.nil _)))))))))))))) ⟨(Nat.zero_le _), (sl_cast (by first | rfl | (simp; done) | (simp; omega)) ((((h20.f3).f3).f3).f3))⟩ ?_
          rintro j w29 ⟨hj, h30⟩
          show C _ _ _ [(0, (.slice a nn c)), (1, (.int .i64 n)), (5, (.slice (some ⟨b22, o23, none⟩) ((ordL n xs).length) c17)), (6, (.slice a1 bs.length c1)), (7, (.int .i64 (k : Int))), (8, (.int .i64 x24)), (28, (.slice (some ⟨b22, o23, none⟩) ((ordL n xs).length) c17)), (29, (.int .i64 (((ordL n xs).length : Nat) : Int))), (30, (.int .i64 (k : Int))), (9, (.int .i64 (((((ordL n xs).drop (k + 1)).take j).countP (fun y => decide (y < x24)) : Nat) : Int))), (38, (.slice a27 (((ordL n xs).length) - (k + 1)) (c17 - (k + 1)))), (39, (.int .i64 (((ordL n xs).length - (k + 1) : Nat) : Int))), (40, (.int .i64 (j : Int)))] _ _
          refine C.seq ?_
          refine C.region ?_
          refine G.yl (yl_cmp rfl rfl rfl) rfl rfl rfl ?_
          refine G.nil ?_
          refine QA.then_normal ?_
          refine C.seq ?_
          by_cases hc31 : ((j : Int) < (((ordL n xs).length - (k + 1) : Nat) : Int))
          · refine C.cond_t rfl (decide_eq_true hc31) ?_
            refine C.skip ?_
            refine QA.then_normal ?_
            refine C.seq ?_
            refine C.block ?_
            refine C.seq ?_
            refine C.region ?_
            obtain ⟨b32, o33, rfl⟩ := open_ints (cut_ints hcut28 (h30.f1).arr_view (by first | omega | rfl | (simp only [bytesV_length, intsV_length, boolsV_length]; omega) | (simp [bytesV_length, intsV_length, boolsV_length]; done) | (simp [bytesV_length, intsV_length, boolsV_length]; omega) | (simp [maxLen, bytesV_length, intsV_length, boolsV_length] at *; omega))) (by first | omega | rfl | (simp only [bytesV_length, intsV_length, boolsV_length]; omega) | (simp [bytesV_length, intsV_length, boolsV_length]; done) | (simp [bytesV_length, intsV_length, boolsV_length]; omega) | (simp [maxLen, bytesV_length, intsV_length, boolsV_length] at *; omega))
            refine G.yl (yl_indexAddr (s := 1) (off := o33 + j) (by kernel_rfl) (by kernel_rfl) rfl rfl (by first | omega | rfl | (simp only [bytesV_length, intsV_length, boolsV_length]; omega) | (simp [bytesV_length, intsV_length, boolsV_length]; done) | (simp [bytesV_length, intsV_length, boolsV_length]; omega) | (simp [maxLen, bytesV_length, intsV_length, boolsV_length] at *; omega)) (by first | omega | rfl | (simp only [bytesV_length, intsV_length, boolsV_length]; omega) | (simp [bytesV_length, intsV_length, boolsV_length]; done) | (simp [bytesV_length, intsV_length, boolsV_length]; omega) | (simp [maxLen, bytesV_length, intsV_length, boolsV_length] at *; omega))) rfl rfl rfl ?_
            obtain ⟨x34, hx35⟩ : ∃ x, ((ordL n xs).drop (k + 1))[j]? = some x := ⟨_, List.getElem?_eq_getElem (by first | omega | rfl | (simp only [bytesV_length, intsV_length, boolsV_length]; omega) | (simp [bytesV_length, intsV_length, boolsV_length]; done) | (simp [bytesV_length, intsV_length, boolsV_length]; omega) | (simp [maxLen, bytesV_length, intsV_length, boolsV_length] at *; omega))⟩
            refine G.yl (yl_load (v := (.int .i64 x34)) (by kernel_rfl) rfl (View.at_ (cut_ints hcut28 (h30.f1).arr_view (by first | omega | rfl | (simp only [bytesV_length, intsV_length, boolsV_length]; omega) | (simp [bytesV_length, intsV_length, boolsV_length]; done) | (simp [bytesV_length, intsV_length, boolsV_length]; omega) | (simp [maxLen, bytesV_length, intsV_length, boolsV_length] at *; omega))) (intsV_get hx35))) rfl rfl rfl ?_
            refine G.yl (yl_assign rfl) rfl rfl rfl ?_
            refine G.nil ?_
            refine QA.then_normal ?_
            refine C.seq ?_
            refine C.region ?_
            refine G.yl (yl_move rfl) rfl rfl rfl ?_
            refine G.yl (yl_move rfl) rfl rfl rfl ?_
            refine G.yl (yl_cmp rfl rfl rfl) rfl rfl rfl ?_
            refine G.nil ?_
            refine QA.then_normal ?_
            by_cases hc36 : (x34 < x24)
            · refine C.cond_t rfl (decide_eq_true hc36) ?_
              refine C.region ?_
              refine G.yl (yl_move rfl) rfl rfl rfl ?_
              have hcj := (List.countP_le_length (p := fun y => decide (y < x24)) (l := ((ordL n xs).drop (k + 1)).take j))
              rw [List.length_take] at hcj
              refine G.yl (yl_arith rfl rfl (add64 (r := (((((ordL n xs).drop (k + 1)).take j).countP (fun y => decide (y < x24)) + 1 : Nat) : Int)) (by first | omega | rfl | (simp only [bytesV_length, intsV_length, boolsV_length]; omega) | (simp [bytesV_length, intsV_length, boolsV_length]; done) | (simp [bytesV_length, intsV_length, boolsV_length]; omega) | (simp [maxLen, bytesV_length, intsV_length, boolsV_length] at *; omega)))) rfl rfl rfl ?_
              refine G.yl (yl_assign rfl) rfl rfl rfl ?_
              refine G.nil ?_
              refine QA.block_normal ?_
              refine QA.then_normal ?_
              refine C.region ?_
              refine G.yl (yl_arith rfl rfl (add64 (r := ((j + 1 : Nat) : Int)) (by first | omega | rfl | (simp only [bytesV_length, intsV_length, boolsV_length]; omega) | (simp [bytesV_length, intsV_length, boolsV_length]; done) | (simp [bytesV_length, intsV_length, boolsV_length]; omega) | (simp [maxLen, bytesV_length, intsV_length, boolsV_length] at *; omega)))) rfl rfl rfl ?_
              refine G.yl (yl_move rfl) rfl rfl rfl ?_
              refine G.nil ?_
              exact QA.again (j + 1) (Sub.cons rfl (Sub.cons rfl (Sub.cons rfl (Sub.cons rfl (Sub.cons rfl (Sub.cons rfl (Sub.cons rfl (Sub.cons rfl (Sub.cons rfl (Sub.cons (look_eq rfl (by rw [countP_take_succ hx35]; congr 1; split <;> omega)) (Sub.cons rfl (Sub.cons rfl (Sub.cons (look_int rfl (by first | rfl | omega | (simp; omega) | simp)) (Sub.nil _)))))))))))))) ⟨(by omega), (sl_cast (by first | rfl | (simp; done) | (simp; omega)) ((((h30.f3).f3).f3).f3))⟩ (by first | omega | (dsimp only; omega) | (simp; omega) | (simp; done))
            · refine C.cond_f rfl (decide_eq_false hc36) ?_
              refine C.skip ?_
              refine QA.block_normal ?_
              refine QA.then_normal ?_
              refine C.region ?_
              refine G.yl (yl_arith rfl rfl (add64 (r := ((j + 1 : Nat) : Int)) (by first | omega | rfl | (simp only [bytesV_length, intsV_length, boolsV_length]; omega) | (simp [bytesV_length, intsV_length, boolsV_length]; done) | (simp [bytesV_length, intsV_length, boolsV_length]; omega) | (simp [maxLen, bytesV_length, intsV_length, boolsV_length] at *; omega)))) rfl rfl rfl ?_
              refine G.yl (yl_move rfl) rfl rfl rfl ?_
              refine G.nil ?_
              exact QA.again (j + 1) (Sub.cons rfl (Sub.cons rfl (Sub.cons rfl (Sub.cons rfl (Sub.cons rfl (Sub.cons rfl (Sub.cons rfl (Sub.cons rfl (Sub.cons rfl (Sub.cons (look_eq rfl (by rw [countP_take_succ hx35]; congr 1; split <;> omega)) (Sub.cons rfl (Sub.cons rfl (Sub.cons (look_int rfl (by first | rfl | omega | (simp; omega) | simp)) (Sub.nil _)))))))))))))) ⟨(by omega), (sl_cast (by first | rfl | (simp; done) | (simp; omega)) ((((h30.f3).f3).f3).f3))⟩ (by first | omega | (dsimp only; omega) | (simp; omega) | (simp; done))
          · refine C.cond_f rfl (decide_eq_false hc31) ?_
            refine C.exit ?_
            refine QA.then_exit ?_
            refine QA.then_exit ?_
            refine QA.block_here ?_
            refine QA.then_normal ?_
            refine C.seq ?_
            refine C.region ?_
            refine G.yl (yl_move rfl) rfl rfl rfl ?_
            refine G.yl (yl_move rfl) rfl rfl rfl ?_
            refine G.yl (yl_arith rfl rfl (sub64 (r := n - (k : Int)) (by first | omega | rfl | (simp only [bytesV_length, intsV_length, boolsV_length]; omega) | (simp [bytesV_length, intsV_length, boolsV_length]; done) | (simp [bytesV_length, intsV_length, boolsV_length]; omega) | (simp [maxLen, bytesV_length, intsV_length, boolsV_length] at *; omega)))) rfl rfl rfl ?_
            refine G.yl (yl_cmp rfl rfl rfl) rfl rfl rfl ?_
            refine G.nil ?_
            refine QA.then_normal ?_
            by_cases hc37 : (n - (k : Int) > 1)
            · refine C.cond_t rfl (decide_eq_true hc37) ?_
              refine C.region ?_
              refine G.yl (yl_move rfl) rfl rfl rfl ?_
              refine G.yl (yl_move rfl) rfl rfl rfl ?_
              have htk : (((ordL n xs).drop (k + 1)).take j).countP (fun y => decide (y < x24)) = ((ordL n xs).drop (k + 1)).countP (fun y => decide (y < x24)) := by rw [List.take_of_length_le (by omega)]
              have hcl : ((ordL n xs).drop (k + 1)).countP (fun y => decide (y < x24)) ≤ ((ordL n xs).drop (k + 1)).length := List.countP_le_length
              have hcv : IntKind.u8.wrap (((((ordL n xs).drop (k + 1)).take j).countP (fun y => decide (y < x24)) : Nat) : Int) = ((UInt8.ofNat (((ordL n xs).drop (k + 1)).countP (fun y => decide (y < x24)))).toNat : Int) := by rw [htk, IntWalk.u8_in _ (by omega), UInt8.toNat_ofNat']; omega
              refine G.yl (yl_conv rfl Try.underlying5 rfl hcv) rfl rfl rfl ?_
              refine G.does (does_buildSlice (vs := [(.int .u8 ((UInt8.ofNat (((ordL n xs).drop (k + 1)).countP (fun y => decide (y < x24)))).toNat : Int))]) (cs := [(.int .u8 ((UInt8.ofNat (((ordL n xs).drop (k + 1)).countP (fun y => decide (y < x24)))).toNat : Int))]) (e := 5) h30 rfl (by kernel_rfl)) rfl rfl rfl ?_
              rintro _ w39 ⟨b38, rfl, h40⟩
              refine G.does (does_append (ys := [(.int .u8 ((UInt8.ofNat (((ordL n xs).drop (k + 1)).countP (fun y => decide (y < x24)))).toNat : Int))]) (e := 5) (s := 1) (bytes := 1) Try.underlying22 (by kernel_rfl) (h40.f1) rfl rfl (h40.isBlk.view 0) rfl (by simp [Value.oneCell']) (by first | omega | rfl | (simp only [bytesV_length, intsV_length, boolsV_length]; omega) | (simp [bytesV_length, intsV_length, boolsV_length]; done) | (simp [bytesV_length, intsV_length, boolsV_length]; omega) | (simp [maxLen, bytesV_length, intsV_length, boolsV_length] at *; omega)) (by first | omega | rfl | (simp only [bytesV_length, intsV_length, boolsV_length]; omega) | (simp [bytesV_length, intsV_length, boolsV_length]; done) | (simp [bytesV_length, intsV_length, boolsV_length]; omega) | (simp [maxLen, bytesV_length, intsV_length, boolsV_length] at *; omega)) (fun e => by cases e) (r := (bs.length + 1)) (by omega)) rfl rfl rfl ?_
              rintro _ w43 ⟨a41, c42, rfl, _, h45⟩
              have h44 : Sat W w43 (arr a41 (bs.length + 1) c42 1 5 (bytesV (bs ++ [UInt8.ofNat (((ordL n xs).drop (k + 1)).countP (fun y => decide (y < x24)))])) :: blk b38 [(.int .u8 ((UInt8.ofNat (((ordL n xs).drop (k + 1)).countP (fun y => decide (y < x24)))).toNat : Int))] 5 :: arr (some ⟨b22, o23, none⟩) ((ordL n xs).length) c17 1 3 (intsV (ordL n xs)) :: Src W p13 (ordB n xs) :: rd W a (bytesV xs) :: R) := sl_cast (by simp [bytesV, byteV]) h45
              refine G.yl (yl_assign rfl) rfl rfl rfl ?_
              refine G.nil ?_
              refine QA.block_normal ?_
              refine QA.then_normal ?_
              refine C.region ?_
              refine G.yl (yl_arith rfl rfl (add64 (r := ((k + 1 : Nat) : Int)) (by first | omega | rfl | (simp only [bytesV_length, intsV_length, boolsV_length]; omega) | (simp [bytesV_length, intsV_length, boolsV_length]; done) | (simp [bytesV_length, intsV_length, boolsV_length]; omega) | (simp [maxLen, bytesV_length, intsV_length, boolsV_length] at *; omega)))) rfl rfl rfl ?_
              refine G.yl (yl_move rfl) rfl rfl rfl ?_
              refine G.nil ?_
              exact QA.again (k + 1, bs ++ [UInt8.ofNat (((ordL n xs).drop (k + 1)).countP (fun y => decide (y < x24)))], a41, c42) (Sub.cons rfl (Sub.cons rfl (Sub.cons rfl (Sub.cons (look_eq rfl (by first | rfl | (simp; done) | (simp; omega))) (Sub.cons rfl (Sub.cons rfl (Sub.cons (look_int rfl (by first | rfl | omega | (simp; omega) | simp)) (Sub.nil _)))))))) ⟨(by omega), (code_step hb hx25 (by omega)), (by simp; omega), (sl_cast (by first | rfl | (simp; done) | (simp; omega)) (Sat.keep 4 1 ((((h44.f4).f4).f4).f3)))⟩ (by first | omega | (dsimp only; omega) | (simp; omega) | (simp; done))
            · refine C.cond_f rfl (decide_eq_false hc37) ?_
              refine C.skip ?_
              refine QA.block_normal ?_
              refine QA.then_normal ?_
              refine C.region ?_
              refine G.yl (yl_arith rfl rfl (add64 (r := ((k + 1 : Nat) : Int)) (by first | omega | rfl | (simp only [bytesV_length, intsV_length, boolsV_length]; omega) | (simp [bytesV_length, intsV_length, boolsV_length]; done) | (simp [bytesV_length, intsV_length, boolsV_length]; omega) | (simp [maxLen, bytesV_length, intsV_length, boolsV_length] at *; omega)))) rfl rfl rfl ?_
              refine G.yl (yl_move rfl) rfl rfl rfl ?_
              refine G.nil ?_
              exact QA.again (k + 1, bs, a1, c1) (Sub.cons rfl (Sub.cons rfl (Sub.cons rfl (Sub.cons rfl (Sub.cons rfl (Sub.cons rfl (Sub.cons (look_int rfl (by first | rfl | omega | (simp; omega) | simp)) (Sub.nil _)))))))) ⟨(by omega), (code_skip hb (by omega)), (by omega), (sl_cast (by first | rfl | (simp; done) | (simp; omega)) ((((h30.f3).f3).f3).f3))⟩ (by first | omega | (dsimp only; omega) | (simp; omega) | (simp; done))
        · refine C.cond_f rfl (decide_eq_false hc21) ?_
          refine C.exit ?_
          refine QA.then_exit ?_
          refine QA.then_exit ?_
          refine QA.block_here ?_
          refine QA.then_normal ?_
          refine C.seq ?_
          refine C.region ?_
          have hbe : bs = code (ordL n xs) := by rw [List.drop_eq_nil_of_le (by omega)] at hb; simpa [code] using hb
          have hcl := code_length (ordL n xs)
          refine G.yl (yl_move rfl) rfl rfl rfl ?_
          have h46 : Sat W w19 (rd W a1 (bytesV bs) :: arr a16 ((ordL n xs).length) c17 1 3 (intsV (ordL n xs)) :: Src W p13 (ordB n xs) :: rd W a (bytesV xs) :: R) := Sat.rd_of_arr h20
          refine G.does (does_call (F := 14) (args := [(.slice a1 bs.length c1)]) rfl rfl rfl en14 (new_src (a := a1) (n := bs.length) (c := c1) (xs := bs) h46 (by first | omega | rfl | (simp only [bytesV_length, intsV_length, boolsV_length]; omega) | (simp [bytesV_length, intsV_length, boolsV_length]; done) | (simp [bytesV_length, intsV_length, boolsV_length]; omega) | (simp [maxLen, bytesV_length, intsV_length, boolsV_length] at *; omega)) (by first | omega | rfl | (simp only [bytesV_length, intsV_length, boolsV_length]; omega) | (simp [bytesV_length, intsV_length, boolsV_length]; done) | (simp [bytesV_length, intsV_length, boolsV_length]; omega) | (simp [maxLen, bytesV_length, intsV_length, boolsV_length] at *; omega)))) rfl rfl rfl ?_
          rintro _ w47 ⟨p49, rfl, h48⟩
          refine G.yl (yl_move rfl) rfl rfl rfl ?_
          refine G.does (does_call (F := 15) (args := [(.pointer (some ⟨p49, 0, none⟩)), (.int .i64 n)]) rfl rfl rfl en15 (order_src (p := p49) (n := n) (bs := bs) h48 (by first | omega | rfl | (simp only [bytesV_length, intsV_length, boolsV_length]; omega) | (simp [bytesV_length, intsV_length, boolsV_length]; done) | (simp [bytesV_length, intsV_length, boolsV_length]; omega) | (simp [maxLen, bytesV_length, intsV_length, boolsV_length] at *; omega)))) rfl rfl rfl ?_
          rintro _ w50 ⟨a52, c53, rfl, h51⟩
          have hoc : ordL n bs = (ordL n xs) := by rw [hbe]; exact ordL_code (by omega) (by omega)
          rw [hoc] at h51 ⊢
          refine G.yl (yl_move rfl) rfl rfl rfl ?_
          have h54 : Sat W w50 (rd W a52 (intsV (ordL n xs)) :: Src W p49 (ordB n bs) :: rd W a1 (bytesV bs) :: arr a16 ((ordL n xs).length) c17 1 3 (intsV (ordL n xs)) :: Src W p13 (ordB n xs) :: rd W a (bytesV xs) :: R) := Sat.rd_of_arr h51
          have h55 : Sat W w50 (rd W a16 (intsV (ordL n xs)) :: rd W a52 (intsV (ordL n xs)) :: Src W p49 (ordB n bs) :: rd W a1 (bytesV bs) :: Src W p13 (ordB n xs) :: rd W a (bytesV xs) :: R) := Sat.rd_of_arr (h54.f3)
          refine G.does (does_call (F := 17) (args := [(.slice a52 ((ordL n xs).length) c53), (.slice a16 ((ordL n xs).length) c17)]) rfl rfl rfl en17 (ints_same (a := a52) (n := (ordL n xs).length) (c := c53) (a' := a16) (n' := (ordL n xs).length) (c' := c17) (zs := ordL n xs) (h55.f1) (by first | omega | rfl | (simp only [bytesV_length, intsV_length, boolsV_length]; omega) | (simp [bytesV_length, intsV_length, boolsV_length]; done) | (simp [bytesV_length, intsV_length, boolsV_length]; omega) | (simp [maxLen, bytesV_length, intsV_length, boolsV_length] at *; omega)) (by first | omega | rfl | (simp only [bytesV_length, intsV_length, boolsV_length]; omega) | (simp [bytesV_length, intsV_length, boolsV_length]; done) | (simp [bytesV_length, intsV_length, boolsV_length]; omega) | (simp [maxLen, bytesV_length, intsV_length, boolsV_length] at *; omega)) (by first | omega | rfl | (simp only [bytesV_length, intsV_length, boolsV_length]; omega) | (simp [bytesV_length, intsV_length, boolsV_length]; done) | (simp [bytesV_length, intsV_length, boolsV_length]; omega) | (simp [maxLen, bytesV_length, intsV_length, boolsV_length] at *; omega)))) rfl rfl rfl ?_
          rintro _ w56 ⟨rfl, h57⟩
          refine G.yl (yl_move rfl) rfl rfl rfl ?_
          refine G.on rfl rfl rfl ?_
          refine G.does (does_call (F := 13) (args := []) rfl rfl rfl en13 (lives_true  h57 )) rfl rfl rfl ?_
          rintro _ w58 ⟨rfl, h59⟩
          refine G.yl (yl_pick_t rfl rfl rfl) rfl rfl rfl ?_
          refine G.yl (yl_assign rfl) rfl rfl rfl ?_
          refine G.nil ?_
          refine QA.then_normal ?_
          refine C.ret ?_
          refine QA.ret1 rfl rfl ?_
          exact ⟨rfl, (sl_cast (by first | rfl | (simp; done) | (simp; omega)) (Sat.keep 0 6 h59))⟩
end Go.Proofs.Ytaaahjcldomnbaa
