/-
  The statement DrawNobody, walked: sources that no call made draw zeros. No condition.
-/
import Derived.Test.YtaaahjcldomnbaaDrawLaw
namespace Go.Proofs.Ytaaahjcldomnbaa
open Go Go.RowKit
set_option linter.unusedVariables false
set_option linter.unusedSimpArgs false
set_option linter.unnecessarySimpa false

theorem rep_get {n i : Nat} {x y : UInt8} (h : (List.replicate n x)[i]? = some y) : y = x := by
  rw [List.getElem?_replicate] at h
  split at h
  · exact (Option.some.inj h).symm
  · cases h
theorem byte_ne {x : UInt8} (h : x = 0) : ((x.toNat : Int) != 0) = false := by subst h; rfl
theorem zero_rem (n : Int) : (0 : Int) % n = 0 := Int.zero_emod n

set_option maxRecDepth 20000 in
theorem none_nil {W w : World} {R : List Res}  (h : Sat W w (R)) :
    Calls Try.prog 69 #[(.pointer none)] w (Ret fun v w' => v = (.bool true) ∧ Sat W w' (R)) := by
  refine C.enter (N := 12) Try.func69 rfl Try.ntmps69 rfl ?_
  show C _ _ _ [(0, (.pointer none))] _ _
  refine C.seq ?_
  refine C.region ?_
  refine G.yl (yl_assign rfl) rfl rfl rfl ?_
  refine G.nil ?_
  refine QA.then_normal ?_
  refine C.seq ?_
  refine C.region ?_
  refine G.yl (yl_move rfl) rfl rfl rfl ?_
  refine G.yl (yl_eq_nil (by kernel_rfl) rfl rfl) rfl rfl rfl ?_
  refine G.yl (yl_move rfl) rfl rfl rfl ?_
  refine G.offU rfl rfl rfl rfl ?_
  refine G.offU rfl rfl rfl rfl ?_
  refine G.offU rfl rfl rfl rfl ?_
  refine G.offU rfl rfl rfl rfl ?_
  refine G.offU rfl rfl rfl rfl ?_
  refine G.yl (yl_pick_t rfl rfl rfl) rfl rfl rfl ?_
  refine G.yl (yl_assign rfl) rfl rfl rfl ?_
  refine G.nil ?_
  refine QA.then_normal ?_
  refine C.ret ?_
  refine QA.ret1 rfl rfl ?_
  exact ⟨rfl, (sl_cast (by first | rfl | (simp; done) | (simp; omega)) h)⟩
set_option maxRecDepth 20000 in
theorem byte_nil {W w : World} {R : List Res}  (h : Sat W w (R)) :
    Calls Try.prog 19 #[(.pointer none)] w (Ret fun v w' => v = (.int .u8 0) ∧ Sat W w' (R)) := by
  refine C.enter (N := 29) Try.func19 rfl Try.ntmps19 rfl ?_
  show C _ _ _ [(0, (.pointer none))] _ _
  refine C.seq ?_
  refine C.region ?_
  refine G.yl (yl_assign rfl) rfl rfl rfl ?_
  refine G.nil ?_
  refine QA.then_normal ?_
  refine C.seq ?_
  refine C.seq ?_
  refine C.region ?_
  refine G.yl (yl_move rfl) rfl rfl rfl ?_
  refine G.does (does_call (F := 69) (args := [(.pointer none)]) rfl rfl rfl en69 (none_nil  h )) rfl rfl rfl ?_
  rintro _ w1 ⟨rfl, h2⟩
  refine G.yl (yl_move rfl) rfl rfl rfl ?_
  refine G.offU rfl rfl rfl rfl ?_
  refine G.offU rfl rfl rfl rfl ?_
  refine G.offU rfl rfl rfl rfl ?_
  refine G.offU rfl rfl rfl rfl ?_
  refine G.offU rfl rfl rfl rfl ?_
  refine G.offU rfl rfl rfl rfl ?_
  refine G.yl (yl_pick_t rfl rfl rfl) rfl rfl rfl ?_
  refine G.nil ?_
  refine QA.then_normal ?_
  refine C.cond_t rfl rfl ?_
  refine C.seq ?_
  refine C.region ?_
  refine G.yl (yl_assign rfl) rfl rfl rfl ?_
  refine G.nil ?_
  refine QA.then_normal ?_
  refine C.ret ?_
  refine QA.then_ret ?_
  refine QA.ret1 rfl rfl ?_
  exact ⟨rfl, (sl_cast (by first | rfl | (simp; done) | (simp; omega)) h2)⟩
set_option maxRecDepth 20000 in
theorem number_nil {W w : World} {R : List Res} {m : Nat} (h : Sat W w (R)) (hm : m ≤ 8) :
    Calls Try.prog 68 #[(.int .i64 (m : Int)), (.func (.func 19) #[(.pointer none)] #[])] w (Ret fun v w' => v = (.int .u64 0) ∧ Sat W w' (R)) := by
  refine C.enter (N := 16) Try.func68 rfl Try.ntmps68 rfl ?_
  show C _ _ _ [(0, (.int .i64 (m : Int))), (1, (.func (.func 19) #[(.pointer none)] #[]))] _ _
  refine C.seq ?_
  refine C.region ?_
  refine G.yl (yl_assign rfl) rfl rfl rfl ?_
  refine G.nil ?_
  refine QA.then_normal ?_
  refine C.seq ?_
  refine C.seq ?_
  refine C.region ?_
  refine G.yl (yl_move rfl) rfl rfl rfl ?_
  refine G.yl (yl_move rfl) rfl rfl rfl ?_
  refine G.nil ?_
  refine QA.then_normal ?_
  refine C.block ?_
  refine C.loop (fun (k : Nat) => [(1, (.func (.func 19) #[(.pointer none)] #[])), (4, (.int .u64 0)), (5, (.int .i64 (m : Int))), (6, (.int .i64 (k : Int)))]) (fun (k : Nat) (ww : World) => (k ≤ m) ∧ Sat W ww (R)) (fun (k : Nat) => m - k) (0) (Sub.cons rfl (Sub.cons rfl (Sub.cons rfl (Sub.cons (look_int rfl (by first | rfl | omega | (simp; omega) | simp)) (Sub.nil _))))) ⟨Nat.zero_le _, (sl_cast (by first | rfl | (simp; done) | (simp; omega)) h)⟩ ?_
  rintro k w1 ⟨hk, h2⟩
  show C _ _ _ [(1, (.func (.func 19) #[(.pointer none)] #[])), (4, (.int .u64 0)), (5, (.int .i64 (m : Int))), (6, (.int .i64 (k : Int)))] _ _
  refine C.seq ?_
  refine C.region ?_
  refine G.yl (yl_cmp rfl rfl rfl) rfl rfl rfl ?_
  refine G.nil ?_
  refine QA.then_normal ?_
  refine C.seq ?_
  by_cases hc3 : ((k : Int) < (m : Int))
  · refine C.cond_t rfl (decide_eq_true hc3) ?_
    refine C.skip ?_
    refine QA.then_normal ?_
    refine C.seq ?_
    refine C.block ?_
    refine C.region ?_
    refine G.yl (yl_move rfl) rfl rfl rfl ?_
    refine G.yl (yl_shift rfl rfl (by decide) rfl) rfl rfl rfl ?_
    refine G.yl (yl_move rfl) rfl rfl rfl ?_
    refine G.does (does_call (F := 19) (args := [(.pointer none)]) rfl rfl rfl en19 (byte_nil  h2 )) rfl rfl rfl ?_
    rintro _ w4 ⟨rfl, h5⟩
    refine G.yl (yl_conv rfl Try.underlying112 rfl (IntWalk.u64_in _ (by first | omega | rfl | (simp only [bytesV_length, intsV_length, boolsV_length]; omega) | (simp [bytesV_length, intsV_length, boolsV_length]; done) | (simp [bytesV_length, intsV_length, boolsV_length]; omega) | (simp [maxLen, bytesV_length, intsV_length, boolsV_length] at *; omega)))) rfl rfl rfl ?_
    refine G.yl (yl_bits rfl rfl rfl) rfl rfl rfl ?_
    refine G.yl (yl_assign rfl) rfl rfl rfl ?_
    refine G.nil ?_
    refine QA.block_normal ?_
    refine QA.then_normal ?_
    refine C.region ?_
    refine G.yl (yl_arith rfl rfl (add64 (r := ((k + 1 : Nat) : Int)) (by first | omega | rfl | (simp only [bytesV_length, intsV_length, boolsV_length]; omega) | (simp [bytesV_length, intsV_length, boolsV_length]; done) | (simp [bytesV_length, intsV_length, boolsV_length]; omega) | (simp [maxLen, bytesV_length, intsV_length, boolsV_length] at *; omega)))) rfl rfl rfl ?_
    refine G.yl (yl_move rfl) rfl rfl rfl ?_
    refine G.nil ?_
    exact QA.again (k + 1) (Sub.cons rfl (Sub.cons rfl (Sub.cons rfl (Sub.cons (look_int rfl (by first | rfl | omega | (simp; omega) | simp)) (Sub.nil _))))) ⟨(by omega), (sl_cast (by first | rfl | (simp; done) | (simp; omega)) h5)⟩ (by first | omega | (dsimp only; omega) | (simp; omega) | (simp; done))
  · refine C.cond_f rfl (decide_eq_false hc3) ?_
    refine C.exit ?_
    refine QA.then_exit ?_
    refine QA.then_exit ?_
    refine QA.block_here ?_
    refine QA.then_normal ?_
    refine C.seq ?_
    refine C.region ?_
    refine G.yl (yl_move rfl) rfl rfl rfl ?_
    refine G.yl (yl_assign rfl) rfl rfl rfl ?_
    refine G.nil ?_
    refine QA.then_normal ?_
    refine C.ret ?_
    refine QA.ret1 rfl rfl ?_
    exact ⟨rfl, (sl_cast (by first | rfl | (simp; done) | (simp; omega)) h2)⟩
set_option maxRecDepth 20000 in
theorem num_nil {W w : World} {R : List Res} {n : Int} (h : Sat W w (R)) (hn : n ≤ 9223372036854775807) :
    Calls Try.prog 16 #[(.pointer none), (.int .i64 n)] w (Ret fun v w' => v = (.int .i64 0) ∧ Sat W w' (R)) := by
  refine C.enter (N := 27) Try.func16 rfl Try.ntmps16 rfl ?_
  show C _ _ _ [(0, (.pointer none)), (1, (.int .i64 n))] _ _
  refine C.seq ?_
  refine C.region ?_
  refine G.yl (yl_assign rfl) rfl rfl rfl ?_
  refine G.nil ?_
  refine QA.then_normal ?_
  refine C.seq ?_
  refine C.seq ?_
  refine C.region ?_
  refine G.yl (yl_move rfl) rfl rfl rfl ?_
  refine G.yl (yl_cmp rfl rfl rfl) rfl rfl rfl ?_
  refine G.nil ?_
  refine QA.then_normal ?_
  by_cases hc1 : (n < 2)
  · refine C.cond_t rfl (decide_eq_true hc1) ?_
    refine C.seq ?_
    refine C.region ?_
    refine G.yl (yl_assign rfl) rfl rfl rfl ?_
    refine G.nil ?_
    refine QA.then_normal ?_
    refine C.ret ?_
    refine QA.then_ret ?_
    refine QA.ret1 rfl rfl ?_
    exact ⟨rfl, (sl_cast (by first | rfl | (simp; done) | (simp; omega)) h)⟩
  · refine C.cond_f rfl (decide_eq_false hc1) ?_
    refine C.skip ?_
    refine QA.then_normal ?_
    refine C.seq ?_
    refine C.region ?_
    refine G.yl (yl_assign rfl) rfl rfl rfl ?_
    refine G.nil ?_
    refine QA.then_normal ?_
    refine C.seq ?_
    refine C.seq ?_
    refine C.region ?_
    refine G.yl (yl_move rfl) rfl rfl rfl ?_
    refine G.yl (yl_arith rfl rfl (sub64 (r := n - 1) (by first | omega | rfl | (simp only [bytesV_length, intsV_length, boolsV_length]; omega) | (simp [bytesV_length, intsV_length, boolsV_length]; done) | (simp [bytesV_length, intsV_length, boolsV_length]; omega) | (simp [maxLen, bytesV_length, intsV_length, boolsV_length] at *; omega)))) rfl rfl rfl ?_
    refine G.yl (yl_assign rfl) rfl rfl rfl ?_
    refine G.nil ?_
    refine QA.then_normal ?_
    refine C.block ?_
    refine C.loop (fun (g : Nat × Nat) => match g with | (k, mm) => [(0, (.pointer none)), (1, (.int .i64 n)), (5, (.int .i64 (k : Int))), (6, (.int .i64 (mm : Int)))]) (fun (g : Nat × Nat) (ww : World) => match g with | (k, mm) => (nb mm + k = nb (n.toNat - 1)) ∧ (mm ≤ 9223372036854775807) ∧ (nb (n.toNat - 1) ≤ 8) ∧ Sat W ww (R)) (fun (g : Nat × Nat) => match g with | (k, mm) => mm) (0, n.toNat - 1) (Sub.cons rfl (Sub.cons rfl (Sub.cons (look_int rfl (by first | rfl | omega | (simp; omega) | simp)) (Sub.cons (look_int rfl (by first | rfl | omega | (simp; omega) | simp)) (Sub.nil _))))) ⟨(by omega), (by omega), (nb_num hn), (sl_cast (by first | rfl | (simp; done) | (simp; omega)) h)⟩ ?_
    rintro ⟨k, mm⟩ w2 ⟨hk, hmm, hk8, h3⟩
    show C _ _ _ [(0, (.pointer none)), (1, (.int .i64 n)), (5, (.int .i64 (k : Int))), (6, (.int .i64 (mm : Int)))] _ _
    refine C.seq ?_
    refine C.seq ?_
    refine C.region ?_
    refine G.yl (yl_move rfl) rfl rfl rfl ?_
    refine G.yl (yl_cmp rfl rfl rfl) rfl rfl rfl ?_
    refine G.nil ?_
    refine QA.then_normal ?_
    by_cases hc4 : ((mm : Int) > 0)
    · refine C.cond_t rfl (decide_eq_true hc4) ?_
      refine C.skip ?_
      refine QA.then_normal ?_
      refine C.seq ?_
      refine C.block ?_
      refine C.region ?_
      refine G.yl (yl_move rfl) rfl rfl rfl ?_
      refine G.yl (yl_arith rfl rfl (add64 (r := ((k + 1 : Nat) : Int)) (by first | omega | rfl | (simp only [bytesV_length, intsV_length, boolsV_length]; omega) | (simp [bytesV_length, intsV_length, boolsV_length]; done) | (simp [bytesV_length, intsV_length, boolsV_length]; omega) | (simp [maxLen, bytesV_length, intsV_length, boolsV_length] at *; omega)))) rfl rfl rfl ?_
      refine G.yl (yl_assign rfl) rfl rfl rfl ?_
      refine G.nil ?_
      refine QA.block_normal ?_
      refine QA.then_normal ?_
      refine C.region ?_
      refine G.yl (yl_move rfl) rfl rfl rfl ?_
      refine G.yl (yl_shift rfl rfl (by decide) shr8) rfl rfl rfl ?_
      refine G.yl (yl_assign rfl) rfl rfl rfl ?_
      refine G.nil ?_
      exact QA.again (k + 1, mm / 256) (Sub.cons rfl (Sub.cons rfl (Sub.cons (look_int rfl (by first | rfl | omega | (simp; omega) | simp)) (Sub.cons (look_int rfl (by first | rfl | omega | (simp; omega) | simp)) (Sub.nil _))))) ⟨(by have := nb_pos (m := mm) (by omega); omega), (by omega), hk8, (sl_cast (by first | rfl | (simp; done) | (simp; omega)) h3)⟩ (by first | omega | (dsimp only; omega) | (simp; omega) | (simp; done))
    · refine C.cond_f rfl (decide_eq_false hc4) ?_
      refine C.exit ?_
      refine QA.then_exit ?_
      refine QA.then_exit ?_
      refine QA.block_here ?_
      refine QA.then_normal ?_
      refine C.seq ?_
      refine C.region ?_
      refine G.yl (yl_move rfl) rfl rfl rfl ?_
      refine G.yl (yl_func rfl rfl) rfl rfl rfl ?_
      refine G.yl (yl_assign rfl) rfl rfl rfl ?_
      refine G.nil ?_
      refine QA.then_normal ?_
      refine C.seq ?_
      refine C.region ?_
      refine G.yl (yl_move rfl) rfl rfl rfl ?_
      refine G.yl (yl_move rfl) rfl rfl rfl ?_
      refine G.does (does_call (F := 68) (args := [(.int .i64 (k : Int)), (.func (.func 19) #[(.pointer none)] #[])]) rfl rfl rfl en68 (number_nil (m := k) h3 (by first | omega | rfl | (simp only [bytesV_length, intsV_length, boolsV_length]; omega) | (simp [bytesV_length, intsV_length, boolsV_length]; done) | (simp [bytesV_length, intsV_length, boolsV_length]; omega) | (simp [maxLen, bytesV_length, intsV_length, boolsV_length] at *; omega)))) rfl rfl rfl ?_
      rintro _ w5 ⟨rfl, h6⟩
      refine G.yl (yl_move rfl) rfl rfl rfl ?_
      refine G.yl (yl_conv rfl Try.underlying112 rfl (IntWalk.u64_in _ (by first | omega | rfl | (simp only [bytesV_length, intsV_length, boolsV_length]; omega) | (simp [bytesV_length, intsV_length, boolsV_length]; done) | (simp [bytesV_length, intsV_length, boolsV_length]; omega) | (simp [maxLen, bytesV_length, intsV_length, boolsV_length] at *; omega)))) rfl rfl rfl ?_
      refine G.yl (yl_div rfl rfl (by first | omega | rfl | (simp only [bytesV_length, intsV_length, boolsV_length]; omega) | (simp [bytesV_length, intsV_length, boolsV_length]; done) | (simp [bytesV_length, intsV_length, boolsV_length]; omega) | (simp [maxLen, bytesV_length, intsV_length, boolsV_length] at *; omega)) (rem_nat (by first | omega | rfl | (simp only [bytesV_length, intsV_length, boolsV_length]; omega) | (simp [bytesV_length, intsV_length, boolsV_length]; done) | (simp [bytesV_length, intsV_length, boolsV_length]; omega) | (simp [maxLen, bytesV_length, intsV_length, boolsV_length] at *; omega)))) rfl rfl rfl ?_
      refine G.yl (yl_conv rfl Try.underlying3 rfl (IntWalk.i64_in _ (rem_range (by omega) (by omega)))) rfl rfl rfl ?_
      refine G.yl (yl_assign rfl) rfl rfl rfl ?_
      refine G.nil ?_
      refine QA.then_normal ?_
      refine C.ret ?_
      refine QA.ret1 rfl rfl ?_
      exact ⟨(by rw [zero_rem]), (sl_cast (by first | rfl | (simp; done) | (simp; omega)) h6)⟩
set_option maxRecDepth 20000 in
theorem word_nil {W w : World} {R : List Res}  (h : Sat W w (R)) :
    Calls Try.prog 22 #[(.pointer none)] w (Ret fun v w' => v = (.int .u32 0) ∧ Sat W w' (R)) := by
  refine C.enter (N := 7) Try.func22 rfl Try.ntmps22 rfl ?_
  show C _ _ _ [(0, (.pointer none))] _ _
  refine C.seq ?_
  refine C.region ?_
  refine G.yl (yl_assign rfl) rfl rfl rfl ?_
  refine G.nil ?_
  refine QA.then_normal ?_
  refine C.seq ?_
  refine C.region ?_
  refine G.yl (yl_move rfl) rfl rfl rfl ?_
  refine G.yl (yl_func rfl rfl) rfl rfl rfl ?_
  refine G.does (does_call (F := 68) (args := [(.int .i64 4), (.func (.func 19) #[(.pointer none)] #[])]) rfl rfl rfl en68 (number_nil (m := 4) h (by first | omega | rfl | (simp only [bytesV_length, intsV_length, boolsV_length]; omega) | (simp [bytesV_length, intsV_length, boolsV_length]; done) | (simp [bytesV_length, intsV_length, boolsV_length]; omega) | (simp [maxLen, bytesV_length, intsV_length, boolsV_length] at *; omega)))) rfl rfl rfl ?_
  rintro _ w1 ⟨rfl, h2⟩
  refine G.yl (yl_conv rfl Try.underlying41 rfl rfl) rfl rfl rfl ?_
  refine G.yl (yl_assign rfl) rfl rfl rfl ?_
  refine G.nil ?_
  refine QA.then_normal ?_
  refine C.ret ?_
  refine QA.ret1 rfl rfl ?_
  exact ⟨rfl, (sl_cast (by first | rfl | (simp; done) | (simp; omega)) h2)⟩
set_option maxRecDepth 20000 in
theorem take_nil {W w : World} {R : List Res} {n : Int} (h : Sat W w (R)) :
    Calls Try.prog 24 #[(.pointer none), (.int .i64 n)] w (Ret fun v w' => ∃ a : Option Addr, ∃ c : Nat, v = (.slice a ((min n 1024).toNat) c) ∧ Sat W w' (arr a ((min n 1024).toNat) c 1 5 (bytesV (List.replicate (min n 1024).toNat (0 : UInt8))) :: R)) := by
  refine C.enter (N := 16) Try.func24 rfl Try.ntmps24 rfl ?_
  show C _ _ _ [(0, (.pointer none)), (1, (.int .i64 n))] _ _
  refine C.seq ?_
  refine C.region ?_
  refine G.yl (yl_assign rfl) rfl rfl rfl ?_
  refine G.nil ?_
  refine QA.then_normal ?_
  refine C.seq ?_
  refine C.seq ?_
  refine C.region ?_
  refine G.yl (yl_move rfl) rfl rfl rfl ?_
  refine G.yl (yl_min rfl rfl (r := min n 1024) (by first | omega | rfl | (simp only [bytesV_length, intsV_length, boolsV_length]; omega) | (simp [bytesV_length, intsV_length, boolsV_length]; done) | (simp [bytesV_length, intsV_length, boolsV_length]; omega) | (simp [maxLen, bytesV_length, intsV_length, boolsV_length] at *; omega))) rfl rfl rfl ?_
  refine G.yl (yl_move rfl) rfl rfl rfl ?_
  refine G.nil ?_
  refine QA.then_normal ?_
  refine C.block ?_
  have h1 : Sat W w (arr none 0 0 1 5 (bytesV (List.replicate 0 (0 : UInt8))) :: R) := h.arr_nil 1 5
  refine C.loop (fun (g : Nat × Option Addr × Nat) => match g with | (k, a, c) => [(0, (.pointer none)), (4, (.slice a k c)), (7, (.int .i64 (k : Int))), (6, (.int .i64 (min n 1024)))]) (fun (g : Nat × Option Addr × Nat) (ww : World) => match g with | (k, a, c) => ((k : Int) ≤ max 0 (min n 1024)) ∧ Sat W ww (arr a k c 1 5 (bytesV (List.replicate k (0 : UInt8))) :: R)) (fun (g : Nat × Option Addr × Nat) => match g with | (k, a, c) => (max 0 (min n 1024)).toNat - k) (0, none, 0) (Sub.cons rfl (Sub.cons rfl (Sub.cons (look_int rfl (by first | rfl | omega | (simp; omega) | simp)) (Sub.cons rfl (Sub.nil _))))) ⟨(by omega), (sl_cast (by first | rfl | (simp; done) | (simp; omega)) h1)⟩ ?_
  rintro ⟨k, a, c⟩ w2 ⟨hk, h3⟩
  show C _ _ _ [(0, (.pointer none)), (4, (.slice a k c)), (7, (.int .i64 (k : Int))), (6, (.int .i64 (min n 1024)))] _ _
  refine C.seq ?_
  refine C.region ?_
  refine G.yl (yl_cmp rfl rfl rfl) rfl rfl rfl ?_
  refine G.nil ?_
  refine QA.then_normal ?_
  refine C.seq ?_
  by_cases hc4 : ((k : Int) < min n 1024)
  · refine C.cond_t rfl (decide_eq_true hc4) ?_
    refine C.skip ?_
    refine QA.then_normal ?_
    refine C.seq ?_
    refine C.block ?_
    refine C.region ?_
    refine G.yl (yl_move rfl) rfl rfl rfl ?_
    refine G.yl (yl_move rfl) rfl rfl rfl ?_
    refine G.does (does_call (F := 19) (args := [(.pointer none)]) rfl rfl rfl en19 (byte_nil  h3 )) rfl rfl rfl ?_
    rintro _ w5 ⟨rfl, h6⟩
    refine G.does (does_buildSlice (vs := [(.int .u8 0)]) (cs := [(.int .u8 0)]) (e := 5) h6 rfl (by kernel_rfl)) rfl rfl rfl ?_
    rintro _ w8 ⟨b7, rfl, h9⟩
    refine G.does (does_append (ys := [(.int .u8 0)]) (e := 5) (s := 1) (bytes := 1) Try.underlying22 (by kernel_rfl) (h9.f1) rfl rfl (h9.isBlk.view 0) rfl (by simp [Value.oneCell']) (by first | omega | rfl | (simp only [bytesV_length, intsV_length, boolsV_length]; omega) | (simp [bytesV_length, intsV_length, boolsV_length]; done) | (simp [bytesV_length, intsV_length, boolsV_length]; omega) | (simp [maxLen, bytesV_length, intsV_length, boolsV_length] at *; omega)) (by first | omega | rfl | (simp only [bytesV_length, intsV_length, boolsV_length]; omega) | (simp [bytesV_length, intsV_length, boolsV_length]; done) | (simp [bytesV_length, intsV_length, boolsV_length]; omega) | (simp [maxLen, bytesV_length, intsV_length, boolsV_length] at *; omega)) (fun e => by cases e) (r := (k + 1)) (by omega)) rfl rfl rfl ?_
    rintro _ w12 ⟨a10, c11, rfl, _, h14⟩
    have h13 : Sat W w12 (arr a10 (k + 1) c11 1 5 (bytesV (List.replicate k (0 : UInt8) ++ [0])) :: blk b7 [(.int .u8 0)] 5 :: R) := sl_cast (by simp [bytesV, byteV]) h14
    refine G.yl (yl_assign rfl) rfl rfl rfl ?_
    refine G.nil ?_
    refine QA.block_normal ?_
    refine QA.then_normal ?_
    refine C.region ?_
    refine G.yl (yl_arith rfl rfl (add64 (r := ((k + 1 : Nat) : Int)) (by first | omega | rfl | (simp only [bytesV_length, intsV_length, boolsV_length]; omega) | (simp [bytesV_length, intsV_length, boolsV_length]; done) | (simp [bytesV_length, intsV_length, boolsV_length]; omega) | (simp [maxLen, bytesV_length, intsV_length, boolsV_length] at *; omega)))) rfl rfl rfl ?_
    refine G.yl (yl_move rfl) rfl rfl rfl ?_
    refine G.nil ?_
    exact QA.again (k + 1, a10, c11) (Sub.cons rfl (Sub.cons rfl (Sub.cons (look_int rfl (by first | rfl | omega | (simp; omega) | simp)) (Sub.cons rfl (Sub.nil _))))) ⟨(by omega), (sl_cast (by rw [List.replicate_succ'] <;> rfl) (Sat.keep 1 1 h13))⟩ (by first | omega | (dsimp only; omega) | (simp; omega) | (simp; done))
  · refine C.cond_f rfl (decide_eq_false hc4) ?_
    refine C.exit ?_
    refine QA.then_exit ?_
    refine QA.then_exit ?_
    refine QA.block_here ?_
    refine QA.then_normal ?_
    refine C.seq ?_
    refine C.region ?_
    refine G.yl (yl_move rfl) rfl rfl rfl ?_
    refine G.yl (yl_assign rfl) rfl rfl rfl ?_
    refine G.nil ?_
    refine QA.then_normal ?_
    refine C.ret ?_
    refine QA.ret1 rfl rfl ?_
    obtain rfl : k = (min n 1024).toNat := by omega
    exact ⟨a, c, rfl, (sl_cast (by first | rfl | (simp; done) | (simp; omega)) h3)⟩
set_option maxRecDepth 20000 in
theorem left_nil {W w : World} {R : List Res}  (h : Sat W w (R)) :
    Calls Try.prog 29 #[(.pointer none)] w (Ret fun v w' => v = (.int .i64 0) ∧ Sat W w' (R)) := by
  refine C.enter (N := 10) Try.func29 rfl Try.ntmps29 rfl ?_
  show C _ _ _ [(0, (.pointer none))] _ _
  refine C.seq ?_
  refine C.region ?_
  refine G.yl (yl_assign rfl) rfl rfl rfl ?_
  refine G.nil ?_
  refine QA.then_normal ?_
  refine C.seq ?_
  refine C.seq ?_
  refine C.region ?_
  refine G.yl (yl_move rfl) rfl rfl rfl ?_
  refine G.does (does_call (F := 69) (args := [(.pointer none)]) rfl rfl rfl en69 (none_nil  h )) rfl rfl rfl ?_
  rintro _ w1 ⟨rfl, h2⟩
  refine G.nil ?_
  refine QA.then_normal ?_
  refine C.cond_t rfl rfl ?_
  refine C.seq ?_
  refine C.region ?_
  refine G.yl (yl_assign rfl) rfl rfl rfl ?_
  refine G.nil ?_
  refine QA.then_normal ?_
  refine C.ret ?_
  refine QA.then_ret ?_
  refine QA.ret1 rfl rfl ?_
  exact ⟨rfl, (sl_cast (by first | rfl | (simp; done) | (simp; omega)) h2)⟩
set_option maxRecDepth 20000 in
theorem add_nil {W w : World} {R : List Res} {a : Option Addr} {n c : Nat} (h : Sat W w (R)) :
    Calls Try.prog 26 #[(.pointer none), (.slice a n c)] w (Ret fun v w' => v = (.int .i64 1) ∧ Sat W w' (R)) := by
  refine C.enter (N := 28) Try.func26 rfl Try.ntmps26 rfl ?_
  show C _ _ _ [(0, (.pointer none)), (1, (.slice a n c))] _ _
  refine C.seq ?_
  refine C.region ?_
  refine G.yl (yl_assign rfl) rfl rfl rfl ?_
  refine G.nil ?_
  refine QA.then_normal ?_
  refine C.seq ?_
  refine C.block ?_
  refine C.seq ?_
  refine C.region ?_
  refine G.yl (yl_move rfl) rfl rfl rfl ?_
  refine G.does (does_call (F := 69) (args := [(.pointer none)]) rfl rfl rfl en69 (none_nil  h )) rfl rfl rfl ?_
  rintro _ w1 ⟨rfl, h2⟩
  refine G.yl (yl_assign rfl) rfl rfl rfl ?_
  refine G.nil ?_
  refine QA.then_normal ?_
  refine C.cond_t rfl rfl ?_
  refine C.seq ?_
  refine C.region ?_
  refine G.yl (yl_assign rfl) rfl rfl rfl ?_
  refine G.nil ?_
  refine QA.then_normal ?_
  refine C.ret ?_
  refine QA.block_ret ?_
  refine QA.then_ret ?_
  refine QA.ret1 rfl rfl ?_
  exact ⟨rfl, (sl_cast (by first | rfl | (simp; done) | (simp; omega)) h2)⟩
set_option maxRecDepth 20000 in
theorem none_zero {W w : World} {R : List Res} {p : Nat} (h : Sat W w (blk p [(.bool false), (.slice none 0 0)] 51 :: R)) :
    Calls Try.prog 69 #[(.pointer (some ⟨p, 0, none⟩))] w (Ret fun v w' => v = (.bool true) ∧ Sat W w' (blk p [(.bool false), (.slice none 0 0)] 51 :: R)) := by
  refine C.enter (N := 12) Try.func69 rfl Try.ntmps69 rfl ?_
  show C _ _ _ [(0, (.pointer (some ⟨p, 0, none⟩)))] _ _
  refine C.seq ?_
  refine C.region ?_
  refine G.yl (yl_assign rfl) rfl rfl rfl ?_
  refine G.nil ?_
  refine QA.then_normal ?_
  refine C.seq ?_
  refine C.region ?_
  refine G.yl (yl_move rfl) rfl rfl rfl ?_
  refine G.yl (yl_eq_nil (by kernel_rfl) rfl rfl) rfl rfl rfl ?_
  refine G.yl (yl_move rfl) rfl rfl rfl ?_
  refine G.on rfl rfl rfl ?_
  refine G.yl (yl_move rfl) rfl rfl rfl ?_
  refine G.on rfl rfl rfl ?_
  refine G.yl (yl_nilCheck rfl) rfl rfl rfl ?_
  refine G.on rfl rfl rfl ?_
  refine G.yl (yl_fieldAddr (off := 0) (by kernel_rfl) rfl) rfl rfl rfl ?_
  refine G.on rfl rfl rfl ?_
  refine G.yl (yl_load (by kernel_rfl) rfl (h.isBlk.cell rfl)) rfl rfl rfl ?_
  refine G.on rfl rfl rfl ?_
  refine G.yl (yl_not rfl) rfl rfl rfl ?_
  refine G.yl (yl_pick_f rfl rfl rfl) rfl rfl rfl ?_
  refine G.yl (yl_assign rfl) rfl rfl rfl ?_
  refine G.nil ?_
  refine QA.then_normal ?_
  refine C.ret ?_
  refine QA.ret1 rfl rfl ?_
  exact ⟨rfl, (sl_cast (by first | rfl | (simp; done) | (simp; omega)) h)⟩
set_option maxRecDepth 20000 in
theorem byte_zero {W w : World} {R : List Res} {p : Nat} (h : Sat W w (blk p [(.bool false), (.slice none 0 0)] 51 :: R)) :
    Calls Try.prog 19 #[(.pointer (some ⟨p, 0, none⟩))] w (Ret fun v w' => v = (.int .u8 0) ∧ Sat W w' (blk p [(.bool false), (.slice none 0 0)] 51 :: R)) := by
  refine C.enter (N := 29) Try.func19 rfl Try.ntmps19 rfl ?_
  show C _ _ _ [(0, (.pointer (some ⟨p, 0, none⟩)))] _ _
  refine C.seq ?_
  refine C.region ?_
  refine G.yl (yl_assign rfl) rfl rfl rfl ?_
  refine G.nil ?_
  refine QA.then_normal ?_
  refine C.seq ?_
  refine C.seq ?_
  refine C.region ?_
  refine G.yl (yl_move rfl) rfl rfl rfl ?_
  refine G.does (does_call (F := 69) (args := [(.pointer (some ⟨p, 0, none⟩))]) rfl rfl rfl en69 (none_zero (p := p) h )) rfl rfl rfl ?_
  rintro _ w1 ⟨rfl, h2⟩
  refine G.yl (yl_move rfl) rfl rfl rfl ?_
  refine G.offU rfl rfl rfl rfl ?_
  refine G.offU rfl rfl rfl rfl ?_
  refine G.offU rfl rfl rfl rfl ?_
  refine G.offU rfl rfl rfl rfl ?_
  refine G.offU rfl rfl rfl rfl ?_
  refine G.offU rfl rfl rfl rfl ?_
  refine G.yl (yl_pick_t rfl rfl rfl) rfl rfl rfl ?_
  refine G.nil ?_
  refine QA.then_normal ?_
  refine C.cond_t rfl rfl ?_
  refine C.seq ?_
  refine C.region ?_
  refine G.yl (yl_assign rfl) rfl rfl rfl ?_
  refine G.nil ?_
  refine QA.then_normal ?_
  refine C.ret ?_
  refine QA.then_ret ?_
  refine QA.ret1 rfl rfl ?_
  exact ⟨rfl, (sl_cast (by first | rfl | (simp; done) | (simp; omega)) h2)⟩
set_option maxRecDepth 20000 in
theorem number_zero {W w : World} {R : List Res} {p : Nat}{m : Nat} (h : Sat W w (blk p [(.bool false), (.slice none 0 0)] 51 :: R)) (hm : m ≤ 8) :
    Calls Try.prog 68 #[(.int .i64 (m : Int)), (.func (.func 19) #[(.pointer (some ⟨p, 0, none⟩))] #[])] w (Ret fun v w' => v = (.int .u64 0) ∧ Sat W w' (blk p [(.bool false), (.slice none 0 0)] 51 :: R)) := by
  refine C.enter (N := 16) Try.func68 rfl Try.ntmps68 rfl ?_
  show C _ _ _ [(0, (.int .i64 (m : Int))), (1, (.func (.func 19) #[(.pointer (some ⟨p, 0, none⟩))] #[]))] _ _
  refine C.seq ?_
  refine C.region ?_
  refine G.yl (yl_assign rfl) rfl rfl rfl ?_
  refine G.nil ?_
  refine QA.then_normal ?_
  refine C.seq ?_
  refine C.seq ?_
  refine C.region ?_
  refine G.yl (yl_move rfl) rfl rfl rfl ?_
  refine G.yl (yl_move rfl) rfl rfl rfl ?_
  refine G.nil ?_
  refine QA.then_normal ?_
  refine C.block ?_
  refine C.loop (fun (k : Nat) => [(1, (.func (.func 19) #[(.pointer (some ⟨p, 0, none⟩))] #[])), (4, (.int .u64 0)), (5, (.int .i64 (m : Int))), (6, (.int .i64 (k : Int)))]) (fun (k : Nat) (ww : World) => (k ≤ m) ∧ Sat W ww (blk p [(.bool false), (.slice none 0 0)] 51 :: R)) (fun (k : Nat) => m - k) (0) (Sub.cons rfl (Sub.cons rfl (Sub.cons rfl (Sub.cons (look_int rfl (by first | rfl | omega | (simp; omega) | simp)) (Sub.nil _))))) ⟨Nat.zero_le _, (sl_cast (by first | rfl | (simp; done) | (simp; omega)) h)⟩ ?_
  rintro k w1 ⟨hk, h2⟩
  show C _ _ _ [(1, (.func (.func 19) #[(.pointer (some ⟨p, 0, none⟩))] #[])), (4, (.int .u64 0)), (5, (.int .i64 (m : Int))), (6, (.int .i64 (k : Int)))] _ _
  refine C.seq ?_
  refine C.region ?_
  refine G.yl (yl_cmp rfl rfl rfl) rfl rfl rfl ?_
  refine G.nil ?_
  refine QA.then_normal ?_
  refine C.seq ?_
  by_cases hc3 : ((k : Int) < (m : Int))
  · refine C.cond_t rfl (decide_eq_true hc3) ?_
    refine C.skip ?_
    refine QA.then_normal ?_
    refine C.seq ?_
    refine C.block ?_
    refine C.region ?_
    refine G.yl (yl_move rfl) rfl rfl rfl ?_
    refine G.yl (yl_shift rfl rfl (by decide) rfl) rfl rfl rfl ?_
    refine G.yl (yl_move rfl) rfl rfl rfl ?_
    refine G.does (does_call (F := 19) (args := [(.pointer (some ⟨p, 0, none⟩))]) rfl rfl rfl en19 (byte_zero (p := p) h2 )) rfl rfl rfl ?_
    rintro _ w4 ⟨rfl, h5⟩
    refine G.yl (yl_conv rfl Try.underlying112 rfl (IntWalk.u64_in _ (by first | omega | rfl | (simp only [bytesV_length, intsV_length, boolsV_length]; omega) | (simp [bytesV_length, intsV_length, boolsV_length]; done) | (simp [bytesV_length, intsV_length, boolsV_length]; omega) | (simp [maxLen, bytesV_length, intsV_length, boolsV_length] at *; omega)))) rfl rfl rfl ?_
    refine G.yl (yl_bits rfl rfl rfl) rfl rfl rfl ?_
    refine G.yl (yl_assign rfl) rfl rfl rfl ?_
    refine G.nil ?_
    refine QA.block_normal ?_
    refine QA.then_normal ?_
    refine C.region ?_
    refine G.yl (yl_arith rfl rfl (add64 (r := ((k + 1 : Nat) : Int)) (by first | omega | rfl | (simp only [bytesV_length, intsV_length, boolsV_length]; omega) | (simp [bytesV_length, intsV_length, boolsV_length]; done) | (simp [bytesV_length, intsV_length, boolsV_length]; omega) | (simp [maxLen, bytesV_length, intsV_length, boolsV_length] at *; omega)))) rfl rfl rfl ?_
    refine G.yl (yl_move rfl) rfl rfl rfl ?_
    refine G.nil ?_
    exact QA.again (k + 1) (Sub.cons rfl (Sub.cons rfl (Sub.cons rfl (Sub.cons (look_int rfl (by first | rfl | omega | (simp; omega) | simp)) (Sub.nil _))))) ⟨(by omega), (sl_cast (by first | rfl | (simp; done) | (simp; omega)) h5)⟩ (by first | omega | (dsimp only; omega) | (simp; omega) | (simp; done))
  · refine C.cond_f rfl (decide_eq_false hc3) ?_
    refine C.exit ?_
    refine QA.then_exit ?_
    refine QA.then_exit ?_
    refine QA.block_here ?_
    refine QA.then_normal ?_
    refine C.seq ?_
    refine C.region ?_
    refine G.yl (yl_move rfl) rfl rfl rfl ?_
    refine G.yl (yl_assign rfl) rfl rfl rfl ?_
    refine G.nil ?_
    refine QA.then_normal ?_
    refine C.ret ?_
    refine QA.ret1 rfl rfl ?_
    exact ⟨rfl, (sl_cast (by first | rfl | (simp; done) | (simp; omega)) h2)⟩
set_option maxRecDepth 20000 in
theorem num_zero {W w : World} {R : List Res} {p : Nat}{n : Int} (h : Sat W w (blk p [(.bool false), (.slice none 0 0)] 51 :: R)) (hn : n ≤ 9223372036854775807) :
    Calls Try.prog 16 #[(.pointer (some ⟨p, 0, none⟩)), (.int .i64 n)] w (Ret fun v w' => v = (.int .i64 0) ∧ Sat W w' (blk p [(.bool false), (.slice none 0 0)] 51 :: R)) := by
  refine C.enter (N := 27) Try.func16 rfl Try.ntmps16 rfl ?_
  show C _ _ _ [(0, (.pointer (some ⟨p, 0, none⟩))), (1, (.int .i64 n))] _ _
  refine C.seq ?_
  refine C.region ?_
  refine G.yl (yl_assign rfl) rfl rfl rfl ?_
  refine G.nil ?_
  refine QA.then_normal ?_
  refine C.seq ?_
  refine C.seq ?_
  refine C.region ?_
  refine G.yl (yl_move rfl) rfl rfl rfl ?_
  refine G.yl (yl_cmp rfl rfl rfl) rfl rfl rfl ?_
  refine G.nil ?_
  refine QA.then_normal ?_
  by_cases hc1 : (n < 2)
  · refine C.cond_t rfl (decide_eq_true hc1) ?_
    refine C.seq ?_
    refine C.region ?_
    refine G.yl (yl_assign rfl) rfl rfl rfl ?_
    refine G.nil ?_
    refine QA.then_normal ?_
    refine C.ret ?_
    refine QA.then_ret ?_
    refine QA.ret1 rfl rfl ?_
    exact ⟨rfl, (sl_cast (by first | rfl | (simp; done) | (simp; omega)) h)⟩
  · refine C.cond_f rfl (decide_eq_false hc1) ?_
    refine C.skip ?_
    refine QA.then_normal ?_
    refine C.seq ?_
    refine C.region ?_
    refine G.yl (yl_assign rfl) rfl rfl rfl ?_
    refine G.nil ?_
    refine QA.then_normal ?_
    refine C.seq ?_
    refine C.seq ?_
    refine C.region ?_
    refine G.yl (yl_move rfl) rfl rfl rfl ?_
    refine G.yl (yl_arith rfl rfl (sub64 (r := n - 1) (by first | omega | rfl | (simp only [bytesV_length, intsV_length, boolsV_length]; omega) | (simp [bytesV_length, intsV_length, boolsV_length]; done) | (simp [bytesV_length, intsV_length, boolsV_length]; omega) | (simp [maxLen, bytesV_length, intsV_length, boolsV_length] at *; omega)))) rfl rfl rfl ?_
    refine G.yl (yl_assign rfl) rfl rfl rfl ?_
    refine G.nil ?_
    refine QA.then_normal ?_
    refine C.block ?_
    refine C.loop (fun (g : Nat × Nat) => match g with | (k, mm) => [(0, (.pointer (some ⟨p, 0, none⟩))), (1, (.int .i64 n)), (5, (.int .i64 (k : Int))), (6, (.int .i64 (mm : Int)))]) (fun (g : Nat × Nat) (ww : World) => match g with | (k, mm) => (nb mm + k = nb (n.toNat - 1)) ∧ (mm ≤ 9223372036854775807) ∧ (nb (n.toNat - 1) ≤ 8) ∧ Sat W ww (blk p [(.bool false), (.slice none 0 0)] 51 :: R)) (fun (g : Nat × Nat) => match g with | (k, mm) => mm) (0, n.toNat - 1) (Sub.cons rfl (Sub.cons rfl (Sub.cons (look_int rfl (by first | rfl | omega | (simp; omega) | simp)) (Sub.cons (look_int rfl (by first | rfl | omega | (simp; omega) | simp)) (Sub.nil _))))) ⟨(by omega), (by omega), (nb_num hn), (sl_cast (by first | rfl | (simp; done) | (simp; omega)) h)⟩ ?_
    rintro ⟨k, mm⟩ w2 ⟨hk, hmm, hk8, h3⟩
    show C _ _ _ [(0, (.pointer (some ⟨p, 0, none⟩))), (1, (.int .i64 n)), (5, (.int .i64 (k : Int))), (6, (.int .i64 (mm : Int)))] _ _
    refine C.seq ?_
    refine C.seq ?_
    refine C.region ?_
    refine G.yl (yl_move rfl) rfl rfl rfl ?_
    refine G.yl (yl_cmp rfl rfl rfl) rfl rfl rfl ?_
    refine G.nil ?_
    refine QA.then_normal ?_
    by_cases hc4 : ((mm : Int) > 0)
    · refine C.cond_t rfl (decide_eq_true hc4) ?_
      refine C.skip ?_
      refine QA.then_normal ?_
      refine C.seq ?_
      refine C.block ?_
      refine C.region ?_
      refine G.yl (yl_move rfl) rfl rfl rfl ?_
      refine G.yl (yl_arith rfl rfl (add64 (r := ((k + 1 : Nat) : Int)) (by first | omega | rfl | (simp only [bytesV_length, intsV_length, boolsV_length]; omega) | (simp [bytesV_length, intsV_length, boolsV_length]; done) | (simp [bytesV_length, intsV_length, boolsV_length]; omega) | (simp [maxLen, bytesV_length, intsV_length, boolsV_length] at *; omega)))) rfl rfl rfl ?_
      refine G.yl (yl_assign rfl) rfl rfl rfl ?_
      refine G.nil ?_
      refine QA.block_normal ?_
      refine QA.then_normal ?_
      refine C.region ?_
      refine G.yl (yl_move rfl) rfl rfl rfl ?_
      refine G.yl (yl_shift rfl rfl (by decide) shr8) rfl rfl rfl ?_
      refine G.yl (yl_assign rfl) rfl rfl rfl ?_
      refine G.nil ?_
      exact QA.again (k + 1, mm / 256) (Sub.cons rfl (Sub.cons rfl (Sub.cons (look_int rfl (by first | rfl | omega | (simp; omega) | simp)) (Sub.cons (look_int rfl (by first | rfl | omega | (simp; omega) | simp)) (Sub.nil _))))) ⟨(by have := nb_pos (m := mm) (by omega); omega), (by omega), hk8, (sl_cast (by first | rfl | (simp; done) | (simp; omega)) h3)⟩ (by first | omega | (dsimp only; omega) | (simp; omega) | (simp; done))
    · refine C.cond_f rfl (decide_eq_false hc4) ?_
      refine C.exit ?_
      refine QA.then_exit ?_
      refine QA.then_exit ?_
      refine QA.block_here ?_
      refine QA.then_normal ?_
      refine C.seq ?_
      refine C.region ?_
      refine G.yl (yl_move rfl) rfl rfl rfl ?_
      refine G.yl (yl_func rfl rfl) rfl rfl rfl ?_
      refine G.yl (yl_assign rfl) rfl rfl rfl ?_
      refine G.nil ?_
      refine QA.then_normal ?_
      refine C.seq ?_
      refine C.region ?_
      refine G.yl (yl_move rfl) rfl rfl rfl ?_
      refine G.yl (yl_move rfl) rfl rfl rfl ?_
      refine G.does (does_call (F := 68) (args := [(.int .i64 (k : Int)), (.func (.func 19) #[(.pointer (some ⟨p, 0, none⟩))] #[])]) rfl rfl rfl en68 (number_zero (m := k) (p := p) h3 (by first | omega | rfl | (simp only [bytesV_length, intsV_length, boolsV_length]; omega) | (simp [bytesV_length, intsV_length, boolsV_length]; done) | (simp [bytesV_length, intsV_length, boolsV_length]; omega) | (simp [maxLen, bytesV_length, intsV_length, boolsV_length] at *; omega)))) rfl rfl rfl ?_
      rintro _ w5 ⟨rfl, h6⟩
      refine G.yl (yl_move rfl) rfl rfl rfl ?_
      refine G.yl (yl_conv rfl Try.underlying112 rfl (IntWalk.u64_in _ (by first | omega | rfl | (simp only [bytesV_length, intsV_length, boolsV_length]; omega) | (simp [bytesV_length, intsV_length, boolsV_length]; done) | (simp [bytesV_length, intsV_length, boolsV_length]; omega) | (simp [maxLen, bytesV_length, intsV_length, boolsV_length] at *; omega)))) rfl rfl rfl ?_
      refine G.yl (yl_div rfl rfl (by first | omega | rfl | (simp only [bytesV_length, intsV_length, boolsV_length]; omega) | (simp [bytesV_length, intsV_length, boolsV_length]; done) | (simp [bytesV_length, intsV_length, boolsV_length]; omega) | (simp [maxLen, bytesV_length, intsV_length, boolsV_length] at *; omega)) (rem_nat (by first | omega | rfl | (simp only [bytesV_length, intsV_length, boolsV_length]; omega) | (simp [bytesV_length, intsV_length, boolsV_length]; done) | (simp [bytesV_length, intsV_length, boolsV_length]; omega) | (simp [maxLen, bytesV_length, intsV_length, boolsV_length] at *; omega)))) rfl rfl rfl ?_
      refine G.yl (yl_conv rfl Try.underlying3 rfl (IntWalk.i64_in _ (rem_range (by omega) (by omega)))) rfl rfl rfl ?_
      refine G.yl (yl_assign rfl) rfl rfl rfl ?_
      refine G.nil ?_
      refine QA.then_normal ?_
      refine C.ret ?_
      refine QA.ret1 rfl rfl ?_
      exact ⟨(by rw [zero_rem]), (sl_cast (by first | rfl | (simp; done) | (simp; omega)) h6)⟩
set_option maxRecDepth 20000 in
theorem word_zero {W w : World} {R : List Res} {p : Nat} (h : Sat W w (blk p [(.bool false), (.slice none 0 0)] 51 :: R)) :
    Calls Try.prog 22 #[(.pointer (some ⟨p, 0, none⟩))] w (Ret fun v w' => v = (.int .u32 0) ∧ Sat W w' (blk p [(.bool false), (.slice none 0 0)] 51 :: R)) := by
  refine C.enter (N := 7) Try.func22 rfl Try.ntmps22 rfl ?_
  show C _ _ _ [(0, (.pointer (some ⟨p, 0, none⟩)))] _ _
  refine C.seq ?_
  refine C.region ?_
  refine G.yl (yl_assign rfl) rfl rfl rfl ?_
  refine G.nil ?_
  refine QA.then_normal ?_
  refine C.seq ?_
  refine C.region ?_
  refine G.yl (yl_move rfl) rfl rfl rfl ?_
  refine G.yl (yl_func rfl rfl) rfl rfl rfl ?_
  refine G.does (does_call (F := 68) (args := [(.int .i64 4), (.func (.func 19) #[(.pointer (some ⟨p, 0, none⟩))] #[])]) rfl rfl rfl en68 (number_zero (m := 4) (p := p) h (by first | omega | rfl | (simp only [bytesV_length, intsV_length, boolsV_length]; omega) | (simp [bytesV_length, intsV_length, boolsV_length]; done) | (simp [bytesV_length, intsV_length, boolsV_length]; omega) | (simp [maxLen, bytesV_length, intsV_length, boolsV_length] at *; omega)))) rfl rfl rfl ?_
  rintro _ w1 ⟨rfl, h2⟩
  refine G.yl (yl_conv rfl Try.underlying41 rfl rfl) rfl rfl rfl ?_
  refine G.yl (yl_assign rfl) rfl rfl rfl ?_
  refine G.nil ?_
  refine QA.then_normal ?_
  refine C.ret ?_
  refine QA.ret1 rfl rfl ?_
  exact ⟨rfl, (sl_cast (by first | rfl | (simp; done) | (simp; omega)) h2)⟩
set_option maxRecDepth 20000 in
theorem take_zero {W w : World} {R : List Res} {p : Nat}{n : Int} (h : Sat W w (blk p [(.bool false), (.slice none 0 0)] 51 :: R)) :
    Calls Try.prog 24 #[(.pointer (some ⟨p, 0, none⟩)), (.int .i64 n)] w (Ret fun v w' => ∃ a : Option Addr, ∃ c : Nat, v = (.slice a ((min n 1024).toNat) c) ∧ Sat W w' (arr a ((min n 1024).toNat) c 1 5 (bytesV (List.replicate (min n 1024).toNat (0 : UInt8))) :: blk p [(.bool false), (.slice none 0 0)] 51 :: R)) := by
  refine C.enter (N := 16) Try.func24 rfl Try.ntmps24 rfl ?_
  show C _ _ _ [(0, (.pointer (some ⟨p, 0, none⟩))), (1, (.int .i64 n))] _ _
  refine C.seq ?_
  refine C.region ?_
  refine G.yl (yl_assign rfl) rfl rfl rfl ?_
  refine G.nil ?_
  refine QA.then_normal ?_
  refine C.seq ?_
  refine C.seq ?_
  refine C.region ?_
  refine G.yl (yl_move rfl) rfl rfl rfl ?_
  refine G.yl (yl_min rfl rfl (r := min n 1024) (by first | omega | rfl | (simp only [bytesV_length, intsV_length, boolsV_length]; omega) | (simp [bytesV_length, intsV_length, boolsV_length]; done) | (simp [bytesV_length, intsV_length, boolsV_length]; omega) | (simp [maxLen, bytesV_length, intsV_length, boolsV_length] at *; omega))) rfl rfl rfl ?_
  refine G.yl (yl_move rfl) rfl rfl rfl ?_
  refine G.nil ?_
  refine QA.then_normal ?_
  refine C.block ?_
  have h1 : Sat W w (arr none 0 0 1 5 (bytesV (List.replicate 0 (0 : UInt8))) :: blk p [(.bool false), (.slice none 0 0)] 51 :: R) := h.arr_nil 1 5
  refine C.loop (fun (g : Nat × Option Addr × Nat) => match g with | (k, a, c) => [(0, (.pointer (some ⟨p, 0, none⟩))), (4, (.slice a k c)), (7, (.int .i64 (k : Int))), (6, (.int .i64 (min n 1024)))]) (fun (g : Nat × Option Addr × Nat) (ww : World) => match g with | (k, a, c) => ((k : Int) ≤ max 0 (min n 1024)) ∧ Sat W ww (arr a k c 1 5 (bytesV (List.replicate k (0 : UInt8))) :: blk p [(.bool false), (.slice none 0 0)] 51 :: R)) (fun (g : Nat × Option Addr × Nat) => match g with | (k, a, c) => (max 0 (min n 1024)).toNat - k) (0, none, 0) (Sub.cons rfl (Sub.cons rfl (Sub.cons (look_int rfl (by first | rfl | omega | (simp; omega) | simp)) (Sub.cons rfl (Sub.nil _))))) ⟨(by omega), (sl_cast (by first | rfl | (simp; done) | (simp; omega)) ((h1.f1).f1))⟩ ?_
  rintro ⟨k, a, c⟩ w2 ⟨hk, h3⟩
  show C _ _ _ [(0, (.pointer (some ⟨p, 0, none⟩))), (4, (.slice a k c)), (7, (.int .i64 (k : Int))), (6, (.int .i64 (min n 1024)))] _ _
  refine C.seq ?_
  refine C.region ?_
  refine G.yl (yl_cmp rfl rfl rfl) rfl rfl rfl ?_
  refine G.nil ?_
  refine QA.then_normal ?_
  refine C.seq ?_
  by_cases hc4 : ((k : Int) < min n 1024)
  · refine C.cond_t rfl (decide_eq_true hc4) ?_
    refine C.skip ?_
    refine QA.then_normal ?_
    refine C.seq ?_
    refine C.block ?_
    refine C.region ?_
    refine G.yl (yl_move rfl) rfl rfl rfl ?_
    refine G.yl (yl_move rfl) rfl rfl rfl ?_
    refine G.does (does_call (F := 19) (args := [(.pointer (some ⟨p, 0, none⟩))]) rfl rfl rfl en19 (byte_zero (p := p) (h3.f1) )) rfl rfl rfl ?_
    rintro _ w5 ⟨rfl, h6⟩
    refine G.does (does_buildSlice (vs := [(.int .u8 0)]) (cs := [(.int .u8 0)]) (e := 5) h6 rfl (by kernel_rfl)) rfl rfl rfl ?_
    rintro _ w8 ⟨b7, rfl, h9⟩
    refine G.does (does_append (ys := [(.int .u8 0)]) (e := 5) (s := 1) (bytes := 1) Try.underlying22 (by kernel_rfl) (h9.f2) rfl rfl (h9.isBlk.view 0) rfl (by simp [Value.oneCell']) (by first | omega | rfl | (simp only [bytesV_length, intsV_length, boolsV_length]; omega) | (simp [bytesV_length, intsV_length, boolsV_length]; done) | (simp [bytesV_length, intsV_length, boolsV_length]; omega) | (simp [maxLen, bytesV_length, intsV_length, boolsV_length] at *; omega)) (by first | omega | rfl | (simp only [bytesV_length, intsV_length, boolsV_length]; omega) | (simp [bytesV_length, intsV_length, boolsV_length]; done) | (simp [bytesV_length, intsV_length, boolsV_length]; omega) | (simp [maxLen, bytesV_length, intsV_length, boolsV_length] at *; omega)) (fun e => by cases e) (r := (k + 1)) (by omega)) rfl rfl rfl ?_
    rintro _ w12 ⟨a10, c11, rfl, _, h14⟩
    have h13 : Sat W w12 (arr a10 (k + 1) c11 1 5 (bytesV (List.replicate k (0 : UInt8) ++ [0])) :: blk b7 [(.int .u8 0)] 5 :: blk p [(.bool false), (.slice none 0 0)] 51 :: R) := sl_cast (by simp [bytesV, byteV]) h14
    refine G.yl (yl_assign rfl) rfl rfl rfl ?_
    refine G.nil ?_
    refine QA.block_normal ?_
    refine QA.then_normal ?_
    refine C.region ?_
    refine G.yl (yl_arith rfl rfl (add64 (r := ((k + 1 : Nat) : Int)) (by first | omega | rfl | (simp only [bytesV_length, intsV_length, boolsV_length]; omega) | (simp [bytesV_length, intsV_length, boolsV_length]; done) | (simp [bytesV_length, intsV_length, boolsV_length]; omega) | (simp [maxLen, bytesV_length, intsV_length, boolsV_length] at *; omega)))) rfl rfl rfl ?_
    refine G.yl (yl_move rfl) rfl rfl rfl ?_
    refine G.nil ?_
    exact QA.again (k + 1, a10, c11) (Sub.cons rfl (Sub.cons rfl (Sub.cons (look_int rfl (by first | rfl | omega | (simp; omega) | simp)) (Sub.cons rfl (Sub.nil _))))) ⟨(by omega), (sl_cast (by rw [List.replicate_succ'] <;> rfl) (Sat.keep 2 1 ((h13.f2).f1)))⟩ (by first | omega | (dsimp only; omega) | (simp; omega) | (simp; done))
  · refine C.cond_f rfl (decide_eq_false hc4) ?_
    refine C.exit ?_
    refine QA.then_exit ?_
    refine QA.then_exit ?_
    refine QA.block_here ?_
    refine QA.then_normal ?_
    refine C.seq ?_
    refine C.region ?_
    refine G.yl (yl_move rfl) rfl rfl rfl ?_
    refine G.yl (yl_assign rfl) rfl rfl rfl ?_
    refine G.nil ?_
    refine QA.then_normal ?_
    refine C.ret ?_
    refine QA.ret1 rfl rfl ?_
    obtain rfl : k = (min n 1024).toNat := by omega
    exact ⟨a, c, rfl, (sl_cast (by first | rfl | (simp; done) | (simp; omega)) ((h3.f1).f1))⟩
set_option maxRecDepth 20000 in
theorem left_zero {W w : World} {R : List Res} {p : Nat} (h : Sat W w (blk p [(.bool false), (.slice none 0 0)] 51 :: R)) :
    Calls Try.prog 29 #[(.pointer (some ⟨p, 0, none⟩))] w (Ret fun v w' => v = (.int .i64 0) ∧ Sat W w' (blk p [(.bool false), (.slice none 0 0)] 51 :: R)) := by
  refine C.enter (N := 10) Try.func29 rfl Try.ntmps29 rfl ?_
  show C _ _ _ [(0, (.pointer (some ⟨p, 0, none⟩)))] _ _
  refine C.seq ?_
  refine C.region ?_
  refine G.yl (yl_assign rfl) rfl rfl rfl ?_
  refine G.nil ?_
  refine QA.then_normal ?_
  refine C.seq ?_
  refine C.seq ?_
  refine C.region ?_
  refine G.yl (yl_move rfl) rfl rfl rfl ?_
  refine G.does (does_call (F := 69) (args := [(.pointer (some ⟨p, 0, none⟩))]) rfl rfl rfl en69 (none_zero (p := p) h )) rfl rfl rfl ?_
  rintro _ w1 ⟨rfl, h2⟩
  refine G.nil ?_
  refine QA.then_normal ?_
  refine C.cond_t rfl rfl ?_
  refine C.seq ?_
  refine C.region ?_
  refine G.yl (yl_assign rfl) rfl rfl rfl ?_
  refine G.nil ?_
  refine QA.then_normal ?_
  refine C.ret ?_
  refine QA.then_ret ?_
  refine QA.ret1 rfl rfl ?_
  exact ⟨rfl, (sl_cast (by first | rfl | (simp; done) | (simp; omega)) h2)⟩
set_option maxRecDepth 20000 in
theorem add_zero {W w : World} {R : List Res} {p : Nat}{a : Option Addr} {n c : Nat} (h : Sat W w (blk p [(.bool false), (.slice none 0 0)] 51 :: R)) :
    Calls Try.prog 26 #[(.pointer (some ⟨p, 0, none⟩)), (.slice a n c)] w (Ret fun v w' => v = (.int .i64 1) ∧ Sat W w' (blk p [(.bool false), (.slice none 0 0)] 51 :: R)) := by
  refine C.enter (N := 28) Try.func26 rfl Try.ntmps26 rfl ?_
  show C _ _ _ [(0, (.pointer (some ⟨p, 0, none⟩))), (1, (.slice a n c))] _ _
  refine C.seq ?_
  refine C.region ?_
  refine G.yl (yl_assign rfl) rfl rfl rfl ?_
  refine G.nil ?_
  refine QA.then_normal ?_
  refine C.seq ?_
  refine C.block ?_
  refine C.seq ?_
  refine C.region ?_
  refine G.yl (yl_move rfl) rfl rfl rfl ?_
  refine G.does (does_call (F := 69) (args := [(.pointer (some ⟨p, 0, none⟩))]) rfl rfl rfl en69 (none_zero (p := p) h )) rfl rfl rfl ?_
  rintro _ w1 ⟨rfl, h2⟩
  refine G.yl (yl_assign rfl) rfl rfl rfl ?_
  refine G.nil ?_
  refine QA.then_normal ?_
  refine C.cond_t rfl rfl ?_
  refine C.seq ?_
  refine C.region ?_
  refine G.yl (yl_assign rfl) rfl rfl rfl ?_
  refine G.nil ?_
  refine QA.then_normal ?_
  refine C.ret ?_
  refine QA.block_ret ?_
  refine QA.then_ret ?_
  refine QA.ret1 rfl rfl ?_
  exact ⟨rfl, (sl_cast (by first | rfl | (simp; done) | (simp; omega)) h2)⟩
set_option maxRecDepth 20000 in
theorem clone_nil {W w : World} {R : List Res}  (h : Sat W w (R)) :
    Calls Try.prog 28 #[(.pointer none)] w (Ret fun v w' => v = (.pointer none) ∧ Sat W w' (R)) := by
  refine C.enter (N := 15) Try.func28 rfl Try.ntmps28 rfl ?_
  show C _ _ _ [(0, (.pointer none))] _ _
  refine C.seq ?_
  refine C.region ?_
  refine G.yl (yl_assign rfl) rfl rfl rfl ?_
  refine G.nil ?_
  refine QA.then_normal ?_
  refine C.seq ?_
  refine C.seq ?_
  refine C.region ?_
  refine G.yl (yl_move rfl) rfl rfl rfl ?_
  refine G.yl (yl_eq_nil (by kernel_rfl) rfl rfl) rfl rfl rfl ?_
  refine G.nil ?_
  refine QA.then_normal ?_
  refine C.cond_t rfl rfl ?_
  refine C.seq ?_
  refine C.region ?_
  refine G.yl (yl_assign rfl) rfl rfl rfl ?_
  refine G.nil ?_
  refine QA.then_normal ?_
  refine C.ret ?_
  refine QA.then_ret ?_
  refine QA.ret1 rfl rfl ?_
  exact ⟨rfl, (sl_cast (by first | rfl | (simp; done) | (simp; omega)) h)⟩
set_option maxRecDepth 20000 in
theorem nobody_law {W w : World} {R : List Res} {a : Option Addr} {nn c : Nat} {n : Int} (h : Sat W w (R)) (hn : n ≤ 9223372036854775807) :
    Calls Try.prog 6 #[(.int .i64 n), (.slice a nn c)] w (Ret fun v w' => v = (.bool true) ∧ Sat W w' (R)) := by
  refine C.enter (N := 64) Try.func6 rfl Try.ntmps6 rfl ?_
  show C _ _ _ [(0, (.int .i64 n)), (1, (.slice a nn c))] _ _
  refine C.seq ?_
  refine C.region ?_
  refine G.yl (yl_assign rfl) rfl rfl rfl ?_
  refine G.nil ?_
  refine QA.then_normal ?_
  refine C.seq ?_
  refine C.seq ?_
  refine C.region ?_
  refine G.yl (yl_move rfl) rfl rfl rfl ?_
  refine G.yl (yl_len Try.underlying22 rfl) rfl rfl rfl ?_
  refine G.yl (yl_cmp rfl rfl rfl) rfl rfl rfl ?_
  refine G.nil ?_
  refine QA.then_normal ?_
  by_cases hc1 : ((nn : Int) > 1000)
  · refine C.cond_t rfl (decide_eq_true hc1) ?_
    refine C.seq ?_
    refine C.region ?_
    refine G.does (does_call (F := 13) (args := []) rfl rfl rfl en13 (lives_true  h )) rfl rfl rfl ?_
    rintro _ w2 ⟨rfl, h3⟩
    refine G.yl (yl_assign rfl) rfl rfl rfl ?_
    refine G.nil ?_
    refine QA.then_normal ?_
    refine C.ret ?_
    refine QA.then_ret ?_
    refine QA.ret1 rfl rfl ?_
    exact ⟨rfl, (sl_cast (by first | rfl | (simp; done) | (simp; omega)) h3)⟩
  · refine C.cond_f rfl (decide_eq_false hc1) ?_
    refine C.skip ?_
    refine QA.then_normal ?_
    refine C.seq ?_
    refine C.region ?_
    refine G.yl (yl_assign rfl) rfl rfl rfl ?_
    refine G.nil ?_
    refine QA.then_normal ?_
    refine C.seq ?_
    refine C.seq ?_
    refine C.region ?_
    refine G.yl (yl_move rfl) rfl rfl rfl ?_
    refine G.does (does_call (F := 28) (args := [(.pointer none)]) rfl rfl rfl en28 (clone_nil  h )) rfl rfl rfl ?_
    rintro _ w4 ⟨rfl, h5⟩
    refine G.yl (yl_ne_nil (by kernel_rfl) rfl rfl) rfl rfl rfl ?_
    refine G.nil ?_
    refine QA.then_normal ?_
    refine C.cond_f rfl rfl ?_
    refine C.skip ?_
    refine QA.then_normal ?_
    refine C.seq ?_
    refine C.seq ?_
    refine C.region ?_
    refine G.yl (yl_move rfl) rfl rfl rfl ?_
    refine G.yl (yl_build (vs := []) (cells := #[(.bool false), (.slice none 0 0)]) rfl (by kernel_rfl)) rfl rfl rfl ?_
    refine G.does (does_box (cs := [(.bool false), (.slice none 0 0)]) h5 rfl rfl) rfl rfl rfl ?_
    rintro _ w7 ⟨b6, rfl, h8⟩
    refine G.does (does_buildSlice (vs := [(.pointer none), (.pointer (some ⟨b6, 0, none⟩))]) (cs := [(.pointer none), (.pointer (some ⟨b6, 0, none⟩))]) (e := 24) h8 rfl (by kernel_rfl)) rfl rfl rfl ?_
    rintro _ w10 ⟨b9, rfl, h11⟩
    refine G.yl (yl_len Try.underlying52 rfl) rfl rfl rfl ?_
    refine G.yl (yl_move rfl) rfl rfl rfl ?_
    refine G.nil ?_
    refine QA.then_normal ?_
    refine C.block ?_
    refine C.loop (fun (k : Nat) => [(0, (.int .i64 n)), (1, (.slice a nn c)), (20, (.slice (some ⟨b9, 0, none⟩) 2 2)), (21, (.int .i64 2)), (22, (.int .i64 (k : Int)))]) (fun (k : Nat) (ww : World) => (k ≤ 2) ∧ Sat W ww (blk b9 [(.pointer none), (.pointer (some ⟨b6, 0, none⟩))] 24 :: blk b6 [(.bool false), (.slice none 0 0)] 51 :: R)) (fun (k : Nat) => 2 - k) (0) (Sub.cons rfl (Sub.cons rfl (Sub.cons rfl (Sub.cons rfl (Sub.cons (look_int rfl (by first | rfl | omega | (simp; omega) | simp)) (Sub.nil _)))))) ⟨(by omega), (sl_cast (by first | rfl | (simp; done) | (simp; omega)) ((h11.f1).f1))⟩ ?_
    rintro k w12 ⟨hk, h13⟩
    show C _ _ _ [(0, (.int .i64 n)), (1, (.slice a nn c)), (20, (.slice (some ⟨b9, 0, none⟩) 2 2)), (21, (.int .i64 2)), (22, (.int .i64 (k : Int)))] _ _
    obtain rfl | rfl | rfl : k = 0 ∨ k = 1 ∨ k = 2 := by omega
    · show C _ _ _ [(0, (.int .i64 n)), (1, (.slice a nn c)), (20, (.slice (some ⟨b9, 0, none⟩) 2 2)), (21, (.int .i64 2)), (22, (.int .i64 0))] _ _
      have h14 : Sat W w12 (blk b9 [(.pointer none), (.pointer (some ⟨b6, 0, none⟩))] 24 :: blk b6 [(.bool false), (.slice none 0 0)] 51 :: R) := h13
      refine C.seq ?_
      refine C.region ?_
      refine G.yl (yl_cmp rfl rfl rfl) rfl rfl rfl ?_
      refine G.nil ?_
      refine QA.then_normal ?_
      refine C.seq ?_
      refine C.cond_t rfl (by decide) ?_
      refine C.skip ?_
      refine QA.then_normal ?_
      refine C.seq ?_
      refine C.block ?_
      refine C.seq ?_
      refine C.region ?_
      refine G.yl (yl_indexAddr (s := 1) (off := 0) (by kernel_rfl) (by kernel_rfl) rfl rfl (by first | omega | rfl | (simp only [bytesV_length, intsV_length, boolsV_length]; omega) | (simp [bytesV_length, intsV_length, boolsV_length]; done) | (simp [bytesV_length, intsV_length, boolsV_length]; omega) | (simp [maxLen, bytesV_length, intsV_length, boolsV_length] at *; omega)) (by first | omega | rfl | (simp only [bytesV_length, intsV_length, boolsV_length]; omega) | (simp [bytesV_length, intsV_length, boolsV_length]; done) | (simp [bytesV_length, intsV_length, boolsV_length]; omega) | (simp [maxLen, bytesV_length, intsV_length, boolsV_length] at *; omega))) rfl rfl rfl ?_
      refine G.yl (yl_load (by kernel_rfl) rfl (h14.isBlk.cell rfl)) rfl rfl rfl ?_
      refine G.yl (yl_assign rfl) rfl rfl rfl ?_
      refine G.nil ?_
      refine QA.then_normal ?_
      refine C.seq ?_
      refine C.seq ?_
      refine C.region ?_
      refine G.yl (yl_move rfl) rfl rfl rfl ?_
      refine G.yl (yl_move rfl) rfl rfl rfl ?_
      refine G.does (does_call (F := 24) (args := [(.pointer none), (.int .i64 n)]) rfl rfl rfl en24 (take_nil (n := n) h14 )) rfl rfl rfl ?_
      rintro _ w15 ⟨a17, c18, rfl, h16⟩
      refine G.yl (yl_len Try.underlying22 rfl) rfl rfl rfl ?_
      refine G.yl (yl_move rfl) rfl rfl rfl ?_
      refine G.nil ?_
      refine QA.then_normal ?_
      refine C.block ?_
      refine C.loop (fun (j : Nat) => [(0, (.int .i64 n)), (1, (.slice a nn c)), (7, (.pointer none)), (20, (.slice (some ⟨b9, 0, none⟩) 2 2)), (21, (.int .i64 2)), (22, (.int .i64 0)), (28, (.slice a17 ((min n 1024).toNat) c18)), (29, (.int .i64 (((min n 1024).toNat : Nat) : Int))), (30, (.int .i64 (j : Int)))]) (fun (j : Nat) (ww : World) => (j ≤ (min n 1024).toNat) ∧ Sat W ww (arr a17 ((min n 1024).toNat) c18 1 5 (bytesV (List.replicate (min n 1024).toNat (0 : UInt8))) :: blk b9 [(.pointer none), (.pointer (some ⟨b6, 0, none⟩))] 24 :: blk b6 [(.bool false), (.slice none 0 0)] 51 :: R)) (fun (j : Nat) => (min n 1024).toNat - j) (0) (Sub.cons rfl (Sub.cons rfl (Sub.cons rfl (Sub.cons rfl (Sub.cons rfl (Sub.cons rfl (Sub.cons rfl (Sub.cons rfl (Sub.cons (look_int rfl (by first | rfl | omega | (simp; omega) | simp)) (Sub.nil _)))))))))) ⟨(Nat.zero_le _), (sl_cast (by first | rfl | (simp; done) | (simp; omega)) (((h16.f2).f2).f2))⟩ ?_
      rintro j w19 ⟨hj, h20⟩
      show C _ _ _ [(0, (.int .i64 n)), (1, (.slice a nn c)), (7, (.pointer none)), (20, (.slice (some ⟨b9, 0, none⟩) 2 2)), (21, (.int .i64 2)), (22, (.int .i64 0)), (28, (.slice a17 ((min n 1024).toNat) c18)), (29, (.int .i64 (((min n 1024).toNat : Nat) : Int))), (30, (.int .i64 (j : Int)))] _ _
      refine C.seq ?_
      refine C.region ?_
      refine G.yl (yl_cmp rfl rfl rfl) rfl rfl rfl ?_
      refine G.nil ?_
      refine QA.then_normal ?_
      refine C.seq ?_
      by_cases hc21 : ((j : Int) < (((min n 1024).toNat : Nat) : Int))
      · refine C.cond_t rfl (decide_eq_true hc21) ?_
        refine C.skip ?_
        refine QA.then_normal ?_
        refine C.seq ?_
        refine C.block ?_
        refine C.seq ?_
        refine C.region ?_
        obtain ⟨b22, o23, rfl⟩ := open_bytes h20.arr_view (by first | omega | rfl | (simp only [bytesV_length, intsV_length, boolsV_length]; omega) | (simp [bytesV_length, intsV_length, boolsV_length]; done) | (simp [bytesV_length, intsV_length, boolsV_length]; omega) | (simp [maxLen, bytesV_length, intsV_length, boolsV_length] at *; omega))
        refine G.yl (yl_indexAddr (s := 1) (off := o23 + j) (by kernel_rfl) (by kernel_rfl) rfl rfl (by first | omega | rfl | (simp only [bytesV_length, intsV_length, boolsV_length]; omega) | (simp [bytesV_length, intsV_length, boolsV_length]; done) | (simp [bytesV_length, intsV_length, boolsV_length]; omega) | (simp [maxLen, bytesV_length, intsV_length, boolsV_length] at *; omega)) (by first | omega | rfl | (simp only [bytesV_length, intsV_length, boolsV_length]; omega) | (simp [bytesV_length, intsV_length, boolsV_length]; done) | (simp [bytesV_length, intsV_length, boolsV_length]; omega) | (simp [maxLen, bytesV_length, intsV_length, boolsV_length] at *; omega))) rfl rfl rfl ?_
        obtain ⟨x24, hx25⟩ : ∃ x, (List.replicate (min n 1024).toNat (0 : UInt8))[j]? = some x := ⟨_, List.getElem?_eq_getElem (by first | omega | rfl | (simp only [bytesV_length, intsV_length, boolsV_length]; omega) | (simp [bytesV_length, intsV_length, boolsV_length]; done) | (simp [bytesV_length, intsV_length, boolsV_length]; omega) | (simp [maxLen, bytesV_length, intsV_length, boolsV_length] at *; omega))⟩
        refine G.yl (yl_load (v := (.int .u8 (x24.toNat : Int))) (by kernel_rfl) rfl (View.at_ h20.arr_view (bytesV_get hx25))) rfl rfl rfl ?_
        refine G.yl (yl_assign rfl) rfl rfl rfl ?_
        refine G.nil ?_
        refine QA.then_normal ?_
        refine C.seq ?_
        refine C.region ?_
        refine G.yl (yl_move rfl) rfl rfl rfl ?_
        refine G.yl (yl_cmp rfl rfl rfl) rfl rfl rfl ?_
        refine G.nil ?_
        refine QA.then_normal ?_
        refine C.cond_f rfl (byte_ne (rep_get hx25)) ?_
        refine C.skip ?_
        refine QA.block_normal ?_
        refine QA.then_normal ?_
        refine C.region ?_
        refine G.yl (yl_arith rfl rfl (add64 (r := ((j + 1 : Nat) : Int)) (by first | omega | rfl | (simp only [bytesV_length, intsV_length, boolsV_length]; omega) | (simp [bytesV_length, intsV_length, boolsV_length]; done) | (simp [bytesV_length, intsV_length, boolsV_length]; omega) | (simp [maxLen, bytesV_length, intsV_length, boolsV_length] at *; omega)))) rfl rfl rfl ?_
        refine G.yl (yl_move rfl) rfl rfl rfl ?_
        refine G.nil ?_
        exact QA.again (j + 1) (Sub.cons rfl (Sub.cons rfl (Sub.cons rfl (Sub.cons rfl (Sub.cons rfl (Sub.cons rfl (Sub.cons rfl (Sub.cons rfl (Sub.cons (look_int rfl (by first | rfl | omega | (simp; omega) | simp)) (Sub.nil _)))))))))) ⟨(by omega), (sl_cast (by first | rfl | (simp; done) | (simp; omega)) (((h20.f2).f2).f2))⟩ (by first | omega | (dsimp only; omega) | (simp; omega) | (simp; done))
      · refine C.cond_f rfl (decide_eq_false hc21) ?_
        refine C.exit ?_
        refine QA.then_exit ?_
        refine QA.then_exit ?_
        refine QA.block_here ?_
        refine QA.then_normal ?_
        refine C.seq ?_
        refine C.region ?_
        refine G.yl (yl_move rfl) rfl rfl rfl ?_
        refine G.does (does_call (F := 19) (args := [(.pointer none)]) rfl rfl rfl en19 (byte_nil  h20 )) rfl rfl rfl ?_
        rintro _ w26 ⟨rfl, h27⟩
        refine G.yl (yl_cmp rfl rfl rfl) rfl rfl rfl ?_
        refine G.yl (yl_move rfl) rfl rfl rfl ?_
        refine G.on rfl rfl (by decide) ?_
        refine G.yl (yl_move rfl) rfl rfl rfl ?_
        refine G.on rfl rfl (by decide) ?_
        refine G.yl (yl_move rfl) rfl rfl rfl ?_
        refine G.on rfl rfl (by decide) ?_
        refine G.does (does_call (F := 16) (args := [(.pointer none), (.int .i64 n)]) rfl rfl rfl en16 (num_nil (n := n) h27 (by first | omega | rfl | (simp only [bytesV_length, intsV_length, boolsV_length]; omega) | (simp [bytesV_length, intsV_length, boolsV_length]; done) | (simp [bytesV_length, intsV_length, boolsV_length]; omega) | (simp [maxLen, bytesV_length, intsV_length, boolsV_length] at *; omega)))) rfl rfl rfl ?_
        rintro _ w28 ⟨rfl, h29⟩
        refine G.on rfl rfl (by decide) ?_
        refine G.yl (yl_cmp rfl rfl rfl) rfl rfl rfl ?_
        refine G.yl (yl_pick_f rfl (by decide) rfl) rfl rfl rfl ?_
        refine G.yl (yl_move rfl) rfl rfl rfl ?_
        refine G.on rfl rfl (by decide) ?_
        refine G.yl (yl_move rfl) rfl rfl rfl ?_
        refine G.on rfl rfl (by decide) ?_
        refine G.does (does_call (F := 22) (args := [(.pointer none)]) rfl rfl rfl en22 (word_nil  h29 )) rfl rfl rfl ?_
        rintro _ w30 ⟨rfl, h31⟩
        refine G.on rfl rfl (by decide) ?_
        refine G.yl (yl_cmp rfl rfl rfl) rfl rfl rfl ?_
        refine G.yl (yl_pick_f rfl (by decide) rfl) rfl rfl rfl ?_
        refine G.yl (yl_move rfl) rfl rfl rfl ?_
        refine G.on rfl rfl (by decide) ?_
        refine G.yl (yl_move rfl) rfl rfl rfl ?_
        refine G.on rfl rfl (by decide) ?_
        refine G.does (does_call (F := 29) (args := [(.pointer none)]) rfl rfl rfl en29 (left_nil  h31 )) rfl rfl rfl ?_
        rintro _ w32 ⟨rfl, h33⟩
        refine G.on rfl rfl (by decide) ?_
        refine G.yl (yl_cmp rfl rfl rfl) rfl rfl rfl ?_
        refine G.yl (yl_pick_f rfl (by decide) rfl) rfl rfl rfl ?_
        refine G.yl (yl_move rfl) rfl rfl rfl ?_
        refine G.on rfl rfl (by decide) ?_
        refine G.yl (yl_move rfl) rfl rfl rfl ?_
        refine G.on rfl rfl (by decide) ?_
        refine G.yl (yl_move rfl) rfl rfl rfl ?_
        refine G.on rfl rfl (by decide) ?_
        refine G.does (does_call (F := 26) (args := [(.pointer none), (.slice a nn c)]) rfl rfl rfl en26 (add_nil (a := a) (n := nn) (c := c) h33 )) rfl rfl rfl ?_
        rintro _ w34 ⟨rfl, h35⟩
        refine G.on rfl rfl (by decide) ?_
        refine G.yl (yl_cmp rfl rfl rfl) rfl rfl rfl ?_
        refine G.yl (yl_pick_f rfl (by decide) rfl) rfl rfl rfl ?_
        refine G.nil ?_
        refine QA.then_normal ?_
        refine C.cond_f rfl (by decide) ?_
        refine C.skip ?_
        refine QA.block_normal ?_
        refine QA.then_normal ?_
        refine C.region ?_
        refine G.yl (yl_arith rfl rfl (add64 (r := 1) (by first | omega | rfl | (simp only [bytesV_length, intsV_length, boolsV_length]; omega) | (simp [bytesV_length, intsV_length, boolsV_length]; done) | (simp [bytesV_length, intsV_length, boolsV_length]; omega) | (simp [maxLen, bytesV_length, intsV_length, boolsV_length] at *; omega)))) rfl rfl rfl ?_
        refine G.yl (yl_move rfl) rfl rfl rfl ?_
        refine G.nil ?_
        exact QA.again (1) (Sub.cons rfl (Sub.cons rfl (Sub.cons rfl (Sub.cons rfl (Sub.cons (look_int rfl (by first | rfl | omega | (simp; omega) | simp)) (Sub.nil _)))))) ⟨(by omega), (sl_cast (by first | rfl | (simp; done) | (simp; omega)) (Sat.keep 2 1 ((h35.f2).f2)))⟩ (by first | omega | (dsimp only; omega) | (simp; omega) | (simp; done))
    · show C _ _ _ [(0, (.int .i64 n)), (1, (.slice a nn c)), (20, (.slice (some ⟨b9, 0, none⟩) 2 2)), (21, (.int .i64 2)), (22, (.int .i64 1))] _ _
      have h36 : Sat W w12 (blk b9 [(.pointer none), (.pointer (some ⟨b6, 0, none⟩))] 24 :: blk b6 [(.bool false), (.slice none 0 0)] 51 :: R) := h13
      refine C.seq ?_
      refine C.region ?_
      refine G.yl (yl_cmp rfl rfl rfl) rfl rfl rfl ?_
      refine G.nil ?_
      refine QA.then_normal ?_
      refine C.seq ?_
      refine C.cond_t rfl (by decide) ?_
      refine C.skip ?_
      refine QA.then_normal ?_
      refine C.seq ?_
      refine C.block ?_
      refine C.seq ?_
      refine C.region ?_
      refine G.yl (yl_indexAddr (s := 1) (off := 1) (by kernel_rfl) (by kernel_rfl) rfl rfl (by first | omega | rfl | (simp only [bytesV_length, intsV_length, boolsV_length]; omega) | (simp [bytesV_length, intsV_length, boolsV_length]; done) | (simp [bytesV_length, intsV_length, boolsV_length]; omega) | (simp [maxLen, bytesV_length, intsV_length, boolsV_length] at *; omega)) (by first | omega | rfl | (simp only [bytesV_length, intsV_length, boolsV_length]; omega) | (simp [bytesV_length, intsV_length, boolsV_length]; done) | (simp [bytesV_length, intsV_length, boolsV_length]; omega) | (simp [maxLen, bytesV_length, intsV_length, boolsV_length] at *; omega))) rfl rfl rfl ?_
      refine G.yl (yl_load (by kernel_rfl) rfl (h36.isBlk.cell rfl)) rfl rfl rfl ?_
      refine G.yl (yl_assign rfl) rfl rfl rfl ?_
      refine G.nil ?_
      refine QA.then_normal ?_
      refine C.seq ?_
      refine C.seq ?_
      refine C.region ?_
      refine G.yl (yl_move rfl) rfl rfl rfl ?_
      refine G.yl (yl_move rfl) rfl rfl rfl ?_
      refine G.does (does_call (F := 24) (args := [(.pointer (some ⟨b6, 0, none⟩)), (.int .i64 n)]) rfl rfl rfl en24 (take_zero (p := b6) (n := n) (h36.f1) )) rfl rfl rfl ?_
      rintro _ w37 ⟨a39, c40, rfl, h38⟩
      refine G.yl (yl_len Try.underlying22 rfl) rfl rfl rfl ?_
      refine G.yl (yl_move rfl) rfl rfl rfl ?_
      refine G.nil ?_
      refine QA.then_normal ?_
      refine C.block ?_
      refine C.loop (fun (j : Nat) => [(0, (.int .i64 n)), (1, (.slice a nn c)), (7, (.pointer (some ⟨b6, 0, none⟩))), (20, (.slice (some ⟨b9, 0, none⟩) 2 2)), (21, (.int .i64 2)), (22, (.int .i64 1)), (28, (.slice a39 ((min n 1024).toNat) c40)), (29, (.int .i64 (((min n 1024).toNat : Nat) : Int))), (30, (.int .i64 (j : Int)))]) (fun (j : Nat) (ww : World) => (j ≤ (min n 1024).toNat) ∧ Sat W ww (arr a39 ((min n 1024).toNat) c40 1 5 (bytesV (List.replicate (min n 1024).toNat (0 : UInt8))) :: blk b6 [(.bool false), (.slice none 0 0)] 51 :: blk b9 [(.pointer none), (.pointer (some ⟨b6, 0, none⟩))] 24 :: R)) (fun (j : Nat) => (min n 1024).toNat - j) (0) (Sub.cons rfl (Sub.cons rfl (Sub.cons rfl (Sub.cons rfl (Sub.cons rfl (Sub.cons rfl (Sub.cons rfl (Sub.cons rfl (Sub.cons (look_int rfl (by first | rfl | omega | (simp; omega) | simp)) (Sub.nil _)))))))))) ⟨(Nat.zero_le _), (sl_cast (by first | rfl | (simp; done) | (simp; omega)) (((h38.f2).f2).f2))⟩ ?_
      rintro j w41 ⟨hj, h42⟩
      show C _ _ _ [(0, (.int .i64 n)), (1, (.slice a nn c)), (7, (.pointer (some ⟨b6, 0, none⟩))), (20, (.slice (some ⟨b9, 0, none⟩) 2 2)), (21, (.int .i64 2)), (22, (.int .i64 1)), (28, (.slice a39 ((min n 1024).toNat) c40)), (29, (.int .i64 (((min n 1024).toNat : Nat) : Int))), (30, (.int .i64 (j : Int)))] _ _
      refine C.seq ?_
      refine C.region ?_
      refine G.yl (yl_cmp rfl rfl rfl) rfl rfl rfl ?_
      refine G.nil ?_
      refine QA.then_normal ?_
      refine C.seq ?_
      by_cases hc43 : ((j : Int) < (((min n 1024).toNat : Nat) : Int))
      · refine C.cond_t rfl (decide_eq_true hc43) ?_
        refine C.skip ?_
        refine QA.then_normal ?_
        refine C.seq ?_
        refine C.block ?_
        refine C.seq ?_
        refine C.region ?_
        obtain ⟨b44, o45, rfl⟩ := open_bytes h42.arr_view (by first | omega | rfl | (simp only [bytesV_length, intsV_length, boolsV_length]; omega) | (simp [bytesV_length, intsV_length, boolsV_length]; done) | (simp [bytesV_length, intsV_length, boolsV_length]; omega) | (simp [maxLen, bytesV_length, intsV_length, boolsV_length] at *; omega))
        refine G.yl (yl_indexAddr (s := 1) (off := o45 + j) (by kernel_rfl) (by kernel_rfl) rfl rfl (by first | omega | rfl | (simp only [bytesV_length, intsV_length, boolsV_length]; omega) | (simp [bytesV_length, intsV_length, boolsV_length]; done) | (simp [bytesV_length, intsV_length, boolsV_length]; omega) | (simp [maxLen, bytesV_length, intsV_length, boolsV_length] at *; omega)) (by first | omega | rfl | (simp only [bytesV_length, intsV_length, boolsV_length]; omega) | (simp [bytesV_length, intsV_length, boolsV_length]; done) | (simp [bytesV_length, intsV_length, boolsV_length]; omega) | (simp [maxLen, bytesV_length, intsV_length, boolsV_length] at *; omega))) rfl rfl rfl ?_
        obtain ⟨x46, hx47⟩ : ∃ x, (List.replicate (min n 1024).toNat (0 : UInt8))[j]? = some x := ⟨_, List.getElem?_eq_getElem (by first | omega | rfl | (simp only [bytesV_length, intsV_length, boolsV_length]; omega) | (simp [bytesV_length, intsV_length, boolsV_length]; done) | (simp [bytesV_length, intsV_length, boolsV_length]; omega) | (simp [maxLen, bytesV_length, intsV_length, boolsV_length] at *; omega))⟩
        refine G.yl (yl_load (v := (.int .u8 (x46.toNat : Int))) (by kernel_rfl) rfl (View.at_ h42.arr_view (bytesV_get hx47))) rfl rfl rfl ?_
        refine G.yl (yl_assign rfl) rfl rfl rfl ?_
        refine G.nil ?_
        refine QA.then_normal ?_
        refine C.seq ?_
        refine C.region ?_
        refine G.yl (yl_move rfl) rfl rfl rfl ?_
        refine G.yl (yl_cmp rfl rfl rfl) rfl rfl rfl ?_
        refine G.nil ?_
        refine QA.then_normal ?_
        refine C.cond_f rfl (byte_ne (rep_get hx47)) ?_
        refine C.skip ?_
        refine QA.block_normal ?_
        refine QA.then_normal ?_
        refine C.region ?_
        refine G.yl (yl_arith rfl rfl (add64 (r := ((j + 1 : Nat) : Int)) (by first | omega | rfl | (simp only [bytesV_length, intsV_length, boolsV_length]; omega) | (simp [bytesV_length, intsV_length, boolsV_length]; done) | (simp [bytesV_length, intsV_length, boolsV_length]; omega) | (simp [maxLen, bytesV_length, intsV_length, boolsV_length] at *; omega)))) rfl rfl rfl ?_
        refine G.yl (yl_move rfl) rfl rfl rfl ?_
        refine G.nil ?_
        exact QA.again (j + 1) (Sub.cons rfl (Sub.cons rfl (Sub.cons rfl (Sub.cons rfl (Sub.cons rfl (Sub.cons rfl (Sub.cons rfl (Sub.cons rfl (Sub.cons (look_int rfl (by first | rfl | omega | (simp; omega) | simp)) (Sub.nil _)))))))))) ⟨(by omega), (sl_cast (by first | rfl | (simp; done) | (simp; omega)) (((h42.f2).f2).f2))⟩ (by first | omega | (dsimp only; omega) | (simp; omega) | (simp; done))
      · refine C.cond_f rfl (decide_eq_false hc43) ?_
        refine C.exit ?_
        refine QA.then_exit ?_
        refine QA.then_exit ?_
        refine QA.block_here ?_
        refine QA.then_normal ?_
        refine C.seq ?_
        refine C.region ?_
        refine G.yl (yl_move rfl) rfl rfl rfl ?_
        refine G.does (does_call (F := 19) (args := [(.pointer (some ⟨b6, 0, none⟩))]) rfl rfl rfl en19 (byte_zero (p := b6) (h42.f1) )) rfl rfl rfl ?_
        rintro _ w48 ⟨rfl, h49⟩
        refine G.yl (yl_cmp rfl rfl rfl) rfl rfl rfl ?_
        refine G.yl (yl_move rfl) rfl rfl rfl ?_
        refine G.on rfl rfl (by decide) ?_
        refine G.yl (yl_move rfl) rfl rfl rfl ?_
        refine G.on rfl rfl (by decide) ?_
        refine G.yl (yl_move rfl) rfl rfl rfl ?_
        refine G.on rfl rfl (by decide) ?_
        refine G.does (does_call (F := 16) (args := [(.pointer (some ⟨b6, 0, none⟩)), (.int .i64 n)]) rfl rfl rfl en16 (num_zero (p := b6) (n := n) h49 (by first | omega | rfl | (simp only [bytesV_length, intsV_length, boolsV_length]; omega) | (simp [bytesV_length, intsV_length, boolsV_length]; done) | (simp [bytesV_length, intsV_length, boolsV_length]; omega) | (simp [maxLen, bytesV_length, intsV_length, boolsV_length] at *; omega)))) rfl rfl rfl ?_
        rintro _ w50 ⟨rfl, h51⟩
        refine G.on rfl rfl (by decide) ?_
        refine G.yl (yl_cmp rfl rfl rfl) rfl rfl rfl ?_
        refine G.yl (yl_pick_f rfl (by decide) rfl) rfl rfl rfl ?_
        refine G.yl (yl_move rfl) rfl rfl rfl ?_
        refine G.on rfl rfl (by decide) ?_
        refine G.yl (yl_move rfl) rfl rfl rfl ?_
        refine G.on rfl rfl (by decide) ?_
        refine G.does (does_call (F := 22) (args := [(.pointer (some ⟨b6, 0, none⟩))]) rfl rfl rfl en22 (word_zero (p := b6) h51 )) rfl rfl rfl ?_
        rintro _ w52 ⟨rfl, h53⟩
        refine G.on rfl rfl (by decide) ?_
        refine G.yl (yl_cmp rfl rfl rfl) rfl rfl rfl ?_
        refine G.yl (yl_pick_f rfl (by decide) rfl) rfl rfl rfl ?_
        refine G.yl (yl_move rfl) rfl rfl rfl ?_
        refine G.on rfl rfl (by decide) ?_
        refine G.yl (yl_move rfl) rfl rfl rfl ?_
        refine G.on rfl rfl (by decide) ?_
        refine G.does (does_call (F := 29) (args := [(.pointer (some ⟨b6, 0, none⟩))]) rfl rfl rfl en29 (left_zero (p := b6) h53 )) rfl rfl rfl ?_
        rintro _ w54 ⟨rfl, h55⟩
        refine G.on rfl rfl (by decide) ?_
        refine G.yl (yl_cmp rfl rfl rfl) rfl rfl rfl ?_
        refine G.yl (yl_pick_f rfl (by decide) rfl) rfl rfl rfl ?_
        refine G.yl (yl_move rfl) rfl rfl rfl ?_
        refine G.on rfl rfl (by decide) ?_
        refine G.yl (yl_move rfl) rfl rfl rfl ?_
        refine G.on rfl rfl (by decide) ?_
        refine G.yl (yl_move rfl) rfl rfl rfl ?_
        refine G.on rfl rfl (by decide) ?_
        refine G.does (does_call (F := 26) (args := [(.pointer (some ⟨b6, 0, none⟩)), (.slice a nn c)]) rfl rfl rfl en26 (add_zero (p := b6) (a := a) (n := nn) (c := c) h55 )) rfl rfl rfl ?_
        rintro _ w56 ⟨rfl, h57⟩
        refine G.on rfl rfl (by decide) ?_
        refine G.yl (yl_cmp rfl rfl rfl) rfl rfl rfl ?_
        refine G.yl (yl_pick_f rfl (by decide) rfl) rfl rfl rfl ?_
        refine G.nil ?_
        refine QA.then_normal ?_
        refine C.cond_f rfl (by decide) ?_
        refine C.skip ?_
        refine QA.block_normal ?_
        refine QA.then_normal ?_
        refine C.region ?_
        refine G.yl (yl_arith rfl rfl (add64 (r := 2) (by first | omega | rfl | (simp only [bytesV_length, intsV_length, boolsV_length]; omega) | (simp [bytesV_length, intsV_length, boolsV_length]; done) | (simp [bytesV_length, intsV_length, boolsV_length]; omega) | (simp [maxLen, bytesV_length, intsV_length, boolsV_length] at *; omega)))) rfl rfl rfl ?_
        refine G.yl (yl_move rfl) rfl rfl rfl ?_
        refine G.nil ?_
        exact QA.again (2) (Sub.cons rfl (Sub.cons rfl (Sub.cons rfl (Sub.cons rfl (Sub.cons (look_int rfl (by first | rfl | omega | (simp; omega) | simp)) (Sub.nil _)))))) ⟨(by omega), (sl_cast (by first | rfl | (simp; done) | (simp; omega)) (Sat.keep 2 1 (h57.f2)))⟩ (by first | omega | (dsimp only; omega) | (simp; omega) | (simp; done))
    · show C _ _ _ [(0, (.int .i64 n)), (1, (.slice a nn c)), (20, (.slice (some ⟨b9, 0, none⟩) 2 2)), (21, (.int .i64 2)), (22, (.int .i64 2))] _ _
      have h58 : Sat W w12 (blk b9 [(.pointer none), (.pointer (some ⟨b6, 0, none⟩))] 24 :: blk b6 [(.bool false), (.slice none 0 0)] 51 :: R) := h13
      refine C.seq ?_
      refine C.region ?_
      refine G.yl (yl_cmp rfl rfl rfl) rfl rfl rfl ?_
      refine G.nil ?_
      refine QA.then_normal ?_
      refine C.seq ?_
      refine C.cond_f rfl (by decide) ?_
      refine C.exit ?_
      refine QA.then_exit ?_
      refine QA.then_exit ?_
      refine QA.block_here ?_
      refine QA.then_normal ?_
      refine C.seq ?_
      refine C.region ?_
      refine G.does (does_call (F := 13) (args := []) rfl rfl rfl en13 (lives_true  h58 )) rfl rfl rfl ?_
      rintro _ w59 ⟨rfl, h60⟩
      refine G.yl (yl_assign rfl) rfl rfl rfl ?_
      refine G.nil ?_
      refine QA.then_normal ?_
      refine C.ret ?_
      refine QA.ret1 rfl rfl ?_
      exact ⟨rfl, (sl_cast (by first | rfl | (simp; done) | (simp; omega)) (Sat.keep 0 2 h60))⟩
end Go.Proofs.Ytaaahjcldomnbaa
