/-
  The statement DrawPlays, walked. No condition beside the arguments being read.
-/
import Derived.Test.YtaaahjcldomnbaaDrawLaw
import Derived.Test.YtaaahjcldomnbaaSlOpen
namespace Go.Proofs.Ytaaahjcldomnbaa
open Go Go.RowKit
set_option linter.unusedVariables false
set_option linter.unusedSimpArgs false
set_option linter.unnecessarySimpa false

structure OpD where
  k : Int
  n : Int
  a : Option Addr
  m : Nat
  c : Nat
  bs : List UInt8

def opsC : OpD → List Value
  | ⟨xk, xn, xa, xm, xc, xbs⟩ => [(.int .i64 xk), (.int .i64 xn), (.slice xa xm xc)]
def opsV (l : List OpD) : List Value := l.flatMap opsC
theorem opsV_each : ∀ x : OpD, (opsC x).length = 3
  | ⟨xk, xn, xa, xm, xc, xbs⟩ => rfl
theorem opsV_length (l : List OpD) : (opsV l).length = l.length * 3 := flat_length opsV_each l
theorem opsV_nil {l : List OpD} (h : opsV l = []) : l = [] := by
  have := congrArg List.length h
  rw [opsV_length] at this
  exact List.eq_nil_of_length_eq_zero (by simp only [List.length_nil] at this; omega)
theorem open_ops {w : World} {xs : List OpD} {a : Option Addr} (h : View w a (opsV xs)) (hp : 0 < xs.length) : ∃ b o, a = some ⟨b, o, none⟩ := h.open (by rw [opsV_length]; omega)
theorem opsV_append (a b : List OpD) : opsV (a ++ b) = opsV a ++ opsV b := by simp [opsV]
theorem opsV_one : ∀ (l : List OpD), ∀ u ∈ opsV l, u.oneCell' = true := by
  intro l u hu
  obtain ⟨x, _, hx⟩ := List.mem_flatMap.1 hu
  obtain ⟨xk, xn, xa, xm, xc, xbs⟩ := x
  simp only [opsC, List.mem_cons, List.not_mem_nil, or_false] at hx
  rcases hx with rfl | rfl | rfl <;> simp [Value.oneCell']

theorem addB_length (bs xs : List UInt8) : (addB bs xs).length ≤ bs.length + xs.length ∧ (bs.length ≤ 65536 → (addB bs xs).length ≤ 65536) := by
  unfold addB; split <;> simp <;> omega

set_option maxRecDepth 20000 in
theorem plays_law {W w : World} {R : List Res} {a b : Option Addr} {nn c nl cl : Nat} {xs : List UInt8} {l : List OpD} (h : Sat W w (R)) (hv : View W a (bytesV xs)) (hnn : nn = xs.length) (hcap : nn ≤ c) (hvl : View W b (opsV l)) (hnl : nl = l.length) (hop : ∀ x ∈ l, View W x.a (bytesV x.bs) ∧ x.m = x.bs.length ∧ x.m ≤ x.c ∧ x.n ≤ 9223372036854775807) :
    Calls Try.prog 5 #[(.slice a nn c), (.slice b nl cl)] w (Ret fun v w' => v = (.bool true) ∧ Sat W w' (R)) := by
  refine C.enter (N := 107) Try.func5 rfl Try.ntmps5 rfl ?_
  show C _ _ _ [(0, (.slice a nn c)), (1, (.slice b nl cl))] _ _
  refine C.seq ?_
  refine C.region ?_
  refine G.yl (yl_assign rfl) rfl rfl rfl ?_
  refine G.nil ?_
  refine QA.then_normal ?_
  refine C.seq ?_
  refine C.seq ?_
  refine C.region ?_
  refine G.yl (yl_move rfl) rfl rfl rfl ?_
  refine G.yl (yl_len Try.underlying22 rfl) rfl rfl rfl ?_
  refine G.yl (yl_cmp rfl rfl rfl) rfl rfl rfl ?_
  refine G.yl (yl_move rfl) rfl rfl rfl ?_
  by_cases hc1 : ((nn : Int) > 4000)
  · refine G.offU rfl rfl (decide_eq_true hc1) rfl ?_
    refine G.offU rfl rfl (decide_eq_true hc1) rfl ?_
    refine G.offU rfl rfl (decide_eq_true hc1) rfl ?_
    refine G.yl (yl_pick_t rfl (decide_eq_true hc1) rfl) rfl rfl rfl ?_
    refine G.nil ?_
    refine QA.then_normal ?_
    refine C.cond_t rfl rfl ?_
    refine C.seq ?_
    refine C.region ?_
    refine G.does (does_call (F := 13) (args := []) rfl rfl rfl en13 (lives_true  h )) rfl rfl rfl ?_
    rintro _ w2 ⟨rfl, h3⟩
    refine G.yl (yl_assign rfl) rfl rfl rfl ?_
    refine G.nil ?_
    refine QA.then_normal ?_
    refine C.ret ?_
    refine QA.then_ret ?_
    refine QA.ret1 rfl rfl ?_
    exact ⟨rfl, (sl_cast (by first | rfl | (simp; done) | (simp; omega)) h3)⟩
  · refine G.on rfl rfl (decide_eq_false hc1) ?_
    refine G.yl (yl_move rfl) rfl rfl rfl ?_
    refine G.on rfl rfl (decide_eq_false hc1) ?_
    refine G.yl (yl_len Try.underlying37 rfl) rfl rfl rfl ?_
    refine G.on rfl rfl (decide_eq_false hc1) ?_
    refine G.yl (yl_cmp rfl rfl rfl) rfl rfl rfl ?_
    refine G.yl (yl_pick_f rfl (decide_eq_false hc1) rfl) rfl rfl rfl ?_
    refine G.nil ?_
    refine QA.then_normal ?_
    by_cases hc4 : ((nl : Int) > 100)
    · refine C.cond_t rfl (decide_eq_true hc4) ?_
      refine C.seq ?_
      refine C.region ?_
      refine G.does (does_call (F := 13) (args := []) rfl rfl rfl en13 (lives_true  h )) rfl rfl rfl ?_
      rintro _ w5 ⟨rfl, h6⟩
      refine G.yl (yl_assign rfl) rfl rfl rfl ?_
      refine G.nil ?_
      refine QA.then_normal ?_
      refine C.ret ?_
      refine QA.then_ret ?_
      refine QA.ret1 rfl rfl ?_
      exact ⟨rfl, (sl_cast (by first | rfl | (simp; done) | (simp; omega)) h6)⟩
    · refine C.cond_f rfl (decide_eq_false hc4) ?_
      refine C.skip ?_
      refine QA.then_normal ?_
      refine C.seq ?_
      refine C.region ?_
      refine G.yl (yl_move rfl) rfl rfl rfl ?_
      have h7 : Sat W w (rd W a (bytesV xs) :: R) := Sat.rd_old (hv) h
      refine G.does (does_call (F := 14) (args := [(.slice a nn c)]) rfl rfl rfl en14 (new_src (a := a) (n := nn) (c := c) h7 (by first | omega | rfl | (simp only [bytesV_length, intsV_length, boolsV_length]; omega) | (simp [bytesV_length, intsV_length, boolsV_length]; done) | (simp [bytesV_length, intsV_length, boolsV_length]; omega) | (simp [maxLen, bytesV_length, intsV_length, boolsV_length] at *; omega)) (by first | omega | rfl | (simp only [bytesV_length, intsV_length, boolsV_length]; omega) | (simp [bytesV_length, intsV_length, boolsV_length]; done) | (simp [bytesV_length, intsV_length, boolsV_length]; omega) | (simp [maxLen, bytesV_length, intsV_length, boolsV_length] at *; omega)))) rfl rfl rfl ?_
      rintro _ w8 ⟨p10, rfl, h9⟩
      refine G.yl (yl_assign rfl) rfl rfl rfl ?_
      refine G.nil ?_
      refine QA.then_normal ?_
      refine C.seq ?_
      refine C.region ?_
      refine G.yl (yl_move rfl) rfl rfl rfl ?_
      refine G.yl (yl_build (vs := [(.slice a nn c)]) (cells := #[(.slice a nn c), (.int .i64 0)]) rfl (by kernel_rfl)) rfl rfl rfl ?_
      refine G.does (does_box (cs := [(.slice a nn c), (.int .i64 0)]) h9 rfl rfl) rfl rfl rfl ?_
      rintro _ w12 ⟨b11, rfl, h13⟩
      refine G.yl (yl_assign rfl) rfl rfl rfl ?_
      refine G.nil ?_
      refine QA.then_normal ?_
      refine C.seq ?_
      refine C.seq ?_
      refine C.region ?_
      refine G.yl (yl_move rfl) rfl rfl rfl ?_
      refine G.yl (yl_eq_nil (by kernel_rfl) rfl rfl) rfl rfl rfl ?_
      refine G.nil ?_
      refine QA.then_normal ?_
      refine C.cond_f rfl rfl ?_
      refine C.skip ?_
      refine QA.then_normal ?_
      refine C.seq ?_
      refine C.seq ?_
      refine C.region ?_
      refine G.yl (yl_move rfl) rfl rfl rfl ?_
      refine G.yl (yl_len Try.underlying37 rfl) rfl rfl rfl ?_
      refine G.yl (yl_move rfl) rfl rfl rfl ?_
      refine G.nil ?_
      refine QA.then_normal ?_
      refine C.block ?_
      have h14 : Sat W w12 (RSrc W b11 xs.length xs :: Src W p10 xs :: R) := RSrc.shut (k := 0) (sl_cast (by first | rfl | (simp; done) | (simp; omega)) (((h13.f1).f2).f2)) (by omega) (by omega) (by omega) rfl (by omega)
      refine C.loop (fun (g : Nat × Nat × Nat × List UInt8) => match g with | (k, p, T, bs) => [(0, (.slice a nn c)), (1, (.slice b nl cl)), (5, (.pointer (some ⟨p, 0, none⟩))), (6, (.pointer (some ⟨b11, 0, none⟩))), (27, (.slice b nl cl)), (28, (.int .i64 (nl : Int))), (29, (.int .i64 (k : Int)))]) (fun (g : Nat × Nat × Nat × List UInt8) (ww : World) => match g with | (k, p, T, bs) => (k ≤ l.length) ∧ (T ≤ 4000 * (k + 1)) ∧ (bs.length ≤ 65536) ∧ Sat W ww (Src W p bs :: RSrc W b11 T bs :: R)) (fun (g : Nat × Nat × Nat × List UInt8) => match g with | (k, p, T, bs) => l.length - k) (0, p10, xs.length, xs) (Sub.cons rfl (Sub.cons rfl (Sub.cons rfl (Sub.cons rfl (Sub.cons rfl (Sub.cons rfl (Sub.cons (look_int rfl (by first | rfl | omega | (simp; omega) | simp)) (Sub.nil _)))))))) ⟨(Nat.zero_le _), (by omega), (by omega), (sl_cast (by first | rfl | (simp; done) | (simp; omega)) (h14.f1))⟩ ?_
      rintro ⟨k, p, T, bs⟩ w15 ⟨hk, hT, hbs, h16⟩
      show C _ _ _ [(0, (.slice a nn c)), (1, (.slice b nl cl)), (5, (.pointer (some ⟨p, 0, none⟩))), (6, (.pointer (some ⟨b11, 0, none⟩))), (27, (.slice b nl cl)), (28, (.int .i64 (nl : Int))), (29, (.int .i64 (k : Int)))] _ _
      refine C.seq ?_
      refine C.region ?_
      refine G.yl (yl_cmp rfl rfl rfl) rfl rfl rfl ?_
      refine G.nil ?_
      refine QA.then_normal ?_
      refine C.seq ?_
      by_cases hc17 : ((k : Int) < (nl : Int))
      · refine C.cond_t rfl (decide_eq_true hc17) ?_
        refine C.skip ?_
        refine QA.then_normal ?_
        refine C.seq ?_
        refine C.block ?_
        refine C.seq ?_
        refine C.region ?_
        obtain ⟨b18, o19, rfl⟩ := open_ops (hvl.old h16) (by first | omega | (simp only [bytesV_length, intsV_length, boolsV_length, pad_length]; omega) | (simp only [pad_length]; done) | (first | omega | rfl | (simp only [bytesV_length, intsV_length, boolsV_length]; omega) | (simp [bytesV_length, intsV_length, boolsV_length]; done) | (simp [bytesV_length, intsV_length, boolsV_length]; omega) | (simp [maxLen, bytesV_length, intsV_length, boolsV_length] at *; omega)))
        refine G.yl (yl_indexAddr (s := 3) (off := o19 + k * 3) (by kernel_rfl) (by kernel_rfl) rfl rfl (by first | omega | (simp only [bytesV_length, intsV_length, boolsV_length, pad_length]; omega) | (simp only [pad_length]; done) | (first | omega | rfl | (simp only [bytesV_length, intsV_length, boolsV_length]; omega) | (simp [bytesV_length, intsV_length, boolsV_length]; done) | (simp [bytesV_length, intsV_length, boolsV_length]; omega) | (simp [maxLen, bytesV_length, intsV_length, boolsV_length] at *; omega))) (by first | omega | (simp only [bytesV_length, intsV_length, boolsV_length, pad_length]; omega) | (simp only [pad_length]; done) | (first | omega | rfl | (simp only [bytesV_length, intsV_length, boolsV_length]; omega) | (simp [bytesV_length, intsV_length, boolsV_length]; done) | (simp [bytesV_length, intsV_length, boolsV_length]; omega) | (simp [maxLen, bytesV_length, intsV_length, boolsV_length] at *; omega)))) rfl rfl rfl ?_
        obtain ⟨x20, hx21⟩ : ∃ x, l[k]? = some x := ⟨_, List.getElem?_eq_getElem (by first | omega | (simp only [bytesV_length, intsV_length, boolsV_length, pad_length]; omega) | (simp only [pad_length]; done) | (first | omega | rfl | (simp only [bytesV_length, intsV_length, boolsV_length]; omega) | (simp [bytesV_length, intsV_length, boolsV_length]; done) | (simp [bytesV_length, intsV_length, boolsV_length]; omega) | (simp [maxLen, bytesV_length, intsV_length, boolsV_length] at *; omega)))⟩
        obtain ⟨xk22, xn23, xa24, xm25, xc26, xbs27⟩ := x20
        have hop28 := hop _ (List.mem_of_getElem? hx21)
        dsimp only at hop28
        obtain ⟨hq29, hq30, hq31⟩ := hop28.2
        refine G.yl (yl_loadN (n := 3) (vs := [(.int .i64 xk22), (.int .i64 xn23), (.slice xa24 xm25 xc26)]) (by kernel_rfl) (by kernel_rfl) rfl rfl (View.elem opsV_each (hvl.old h16) hx21)) rfl rfl rfl ?_
        refine G.does (does_alloc (cs := [(.int .i64 0), (.int .i64 0), (.slice none 0 0)]) (z := (.agg #[(.int .i64 0), (.int .i64 0), (.slice none 0 0)])) h16 (by kernel_rfl) rfl) rfl rfl rfl ?_
        rintro _ w33 ⟨b32, rfl, h34⟩
        refine G.unit (does_store (n := 3) (vs := [(.int .i64 xk22), (.int .i64 xn23), (.slice xa24 xm25 xc26)]) h34 (by kernel_rfl) rfl rfl rfl rfl (by simp [Value.oneCell']) (Nat.le_of_ble_eq_true rfl)) rfl rfl ?_
        rintro _ w35 h37
        have h36 : Sat W w35 (blk b32 [(.int .i64 xk22), (.int .i64 xn23), (.slice xa24 xm25 xc26)] 39 :: Src W p bs :: RSrc W b11 T bs :: R) := h37
        refine G.nil ?_
        refine QA.then_normal ?_
        refine C.seq ?_
        refine C.seq ?_
        refine C.region ?_
        refine G.yl (yl_fieldAddr (off := 2) (by kernel_rfl) rfl) rfl rfl rfl ?_
        refine G.yl (yl_load (by kernel_rfl) rfl (h36.isBlk.cell rfl)) rfl rfl rfl ?_
        refine G.yl (yl_len Try.underlying22 rfl) rfl rfl rfl ?_
        refine G.yl (yl_cmp rfl rfl rfl) rfl rfl rfl ?_
        refine G.nil ?_
        refine QA.then_normal ?_
        by_cases hc38 : ((xm25 : Int) > 4000)
        · refine C.cond_t rfl (decide_eq_true hc38) ?_
          refine C.seq ?_
          refine C.region ?_
          refine G.does (does_call (F := 13) (args := []) rfl rfl rfl en13 (lives_true  h36 )) rfl rfl rfl ?_
          rintro _ w39 ⟨rfl, h40⟩
          refine G.yl (yl_assign rfl) rfl rfl rfl ?_
          refine G.nil ?_
          refine QA.then_normal ?_
          refine C.ret ?_
          refine QA.then_ret ?_
          refine QA.block_ret ?_
          refine QA.then_ret ?_
          refine QA.then_ret ?_
          refine QA.block_ret ?_
          refine QA.then_ret ?_
          refine QA.ret1 rfl rfl ?_
          exact ⟨rfl, (sl_cast (by first | rfl | (simp; done) | (simp; omega)) (Sat.keep 0 3 h40))⟩
        · refine C.cond_f rfl (decide_eq_false hc38) ?_
          refine C.skip ?_
          refine QA.then_normal ?_
          refine C.seq ?_
          refine C.region ?_
          refine G.yl (yl_assign rfl) rfl rfl rfl ?_
          refine G.nil ?_
          refine QA.then_normal ?_
          refine C.seq ?_
          refine C.seq ?_
          refine C.region ?_
          refine G.yl (yl_fieldAddr (off := 0) (by kernel_rfl) rfl) rfl rfl rfl ?_
          refine G.yl (yl_load (by kernel_rfl) rfl (h36.isBlk.cell rfl)) rfl rfl rfl ?_
          refine G.nil ?_
          refine QA.then_normal ?_
          refine C.block ?_
          refine C.seq ?_
          refine C.region ?_
          refine G.yl (yl_cmp rfl rfl rfl) rfl rfl rfl ?_
          refine G.yl (yl_assign rfl) rfl rfl rfl ?_
          refine G.nil ?_
          refine QA.then_normal ?_
          by_cases hc41 : (xk22 = 0)
          · refine C.cond_t rfl (beq_t hc41) ?_
            refine C.region ?_
            refine G.yl (yl_move rfl) rfl rfl rfl ?_
            refine G.does (does_call (F := 19) (args := [(.pointer (some ⟨p, 0, none⟩))]) rfl rfl rfl en19 (byte_src (p := p) (bs := bs) (h36.f1) )) rfl rfl rfl ?_
            rintro _ w42 ⟨rfl, h43⟩
            refine G.yl (yl_move rfl) rfl rfl rfl ?_
            refine G.does (does_call (F := 20) (args := [(.pointer (some ⟨b11, 0, none⟩))]) rfl rfl rfl en20 (byte_ref (p := b11) (T := T) (bs := bs) (h43.f2) )) rfl rfl rfl ?_
            rintro _ w44 ⟨rfl, h45⟩
            refine G.yl (yl_cmp rfl rfl rfl) rfl rfl rfl ?_
            refine G.yl (yl_assign rfl) rfl rfl rfl ?_
            refine G.nil ?_
            refine QA.block_normal ?_
            refine QA.then_normal ?_
            refine C.seq ?_
            refine C.region ?_
            refine G.yl (yl_move rfl) rfl rfl rfl ?_
            refine G.yl (yl_not rfl) rfl rfl rfl ?_
            refine G.yl (yl_move rfl) rfl rfl rfl ?_
            refine G.on rfl rfl (by simp) ?_
            refine G.yl (yl_move rfl) rfl rfl rfl ?_
            refine G.on rfl rfl (by simp) ?_
            refine G.does (does_call (F := 29) (args := [(.pointer (some ⟨p, 0, none⟩))]) rfl rfl rfl en29 (left_src (p := p) (bs := bs.drop 1) (h45.f1) )) rfl rfl rfl ?_
            rintro _ w46 ⟨rfl, h47⟩
            refine G.on rfl rfl (by simp) ?_
            refine G.yl (yl_move rfl) rfl rfl rfl ?_
            refine G.on rfl rfl (by simp) ?_
            refine G.does (does_call (F := 30) (args := [(.pointer (some ⟨b11, 0, none⟩))]) rfl rfl rfl en30 (left_ref (p := b11) (T := T) (bs := bs.drop 1) (h47.f1) )) rfl rfl rfl ?_
            rintro _ w48 ⟨rfl, h49⟩
            refine G.on rfl rfl (by simp) ?_
            refine G.yl (yl_cmp rfl rfl rfl) rfl rfl rfl ?_
            refine G.yl (yl_pick_f rfl (by simp) rfl) rfl rfl rfl ?_
            refine G.nil ?_
            refine QA.then_normal ?_
            refine C.cond_f rfl (bne_f (by first | omega | (simp only [List.length_drop]; done))) ?_
            refine C.skip ?_
            refine QA.block_normal ?_
            refine QA.then_normal ?_
            refine C.region ?_
            refine G.yl (yl_arith rfl rfl (add64 (r := ((k + 1 : Nat) : Int)) (by first | omega | (simp only [bytesV_length, intsV_length, boolsV_length, pad_length]; omega) | (simp only [pad_length]; done) | (first | omega | rfl | (simp only [bytesV_length, intsV_length, boolsV_length]; omega) | (simp [bytesV_length, intsV_length, boolsV_length]; done) | (simp [bytesV_length, intsV_length, boolsV_length]; omega) | (simp [maxLen, bytesV_length, intsV_length, boolsV_length] at *; omega))))) rfl rfl rfl ?_
            refine G.yl (yl_move rfl) rfl rfl rfl ?_
            refine G.nil ?_
            exact QA.again (k + 1, p, T, bs.drop 1) (Sub.cons rfl (Sub.cons rfl (Sub.cons rfl (Sub.cons rfl (Sub.cons rfl (Sub.cons rfl (Sub.cons (look_int rfl (by first | rfl | omega | (simp; omega) | simp)) (Sub.nil _)))))))) ⟨(by omega), (by omega), (by first | omega | (simp only [List.length_drop]; omega)), (sl_cast (by first | rfl | (simp; done) | (simp; omega)) (Sat.keep 2 1 (h49.f1)))⟩ (by first | omega | (dsimp only; omega) | (simp; omega) | (simp; done))
          · refine C.cond_f rfl (beq_f hc41) ?_
            refine C.seq ?_
            refine C.region ?_
            refine G.yl (yl_cmp rfl rfl rfl) rfl rfl rfl ?_
            refine G.yl (yl_assign rfl) rfl rfl rfl ?_
            refine G.nil ?_
            refine QA.then_normal ?_
            by_cases hc50 : (xk22 = 1)
            · refine C.cond_t rfl (beq_t hc50) ?_
              refine C.draw (S := fun w' => w'.cell? ⟨b32, 0, none⟩ = some (.int .i64 xk22) ∧ w'.cell? ⟨b32, 1, none⟩ = some (.int .i64 xn23) ∧ w'.cell? ⟨b32, 2, none⟩ = some (.slice xa24 xm25 xc26) ∧ View w' a (bytesV xs) ∧ View w' (some ⟨b18, o19, none⟩) (opsV l) ∧ View w' xa24 (bytesV xbs27)) (n := 10) rfl h36 rfl rfl ?_
              intro w52 h53
              have hS54 : w52.cell? ⟨b32, 0, none⟩ = some (.int .i64 xk22) ∧ w52.cell? ⟨b32, 1, none⟩ = some (.int .i64 xn23) ∧ w52.cell? ⟨b32, 2, none⟩ = some (.slice xa24 xm25 xc26) ∧ View w52 a (bytesV xs) ∧ View w52 (some ⟨b18, o19, none⟩) (opsV l) ∧ View w52 xa24 (bytesV xbs27) := ⟨h53.isBlk.cell rfl, h53.isBlk.cell rfl, h53.isBlk.cell rfl, (hv.old h53), (hvl.old h53), (hop28.1.old h53)⟩
              refine GH.yl (i := 0) (listed' := #[true, false, false, false, false, false, false, false, false, false]) rfl (by kernel_rfl) (by kernel_rfl) (by kernel_rfl) rfl (NP.block (NP.next (NP.block (NP.next (NP.next (NP.block (NP.next NP.body))))))) rfl rfl rfl (fun w' hw' => yl_move rfl) hS54 ?_
              refine GH.yl (i := 1) (listed' := #[true, true, false, false, false, false, false, false, false, false]) rfl (by kernel_rfl) (by kernel_rfl) (by kernel_rfl) rfl (NP.block (NP.next (NP.block (NP.next (NP.next (NP.block (NP.next NP.body))))))) rfl rfl rfl (fun w' hw' => yl_fieldAddr (off := 1) (by kernel_rfl) rfl) hS54 ?_
              refine GH.yl (i := 2) (listed' := #[true, true, true, false, false, false, false, false, false, false]) rfl (by kernel_rfl) (by kernel_rfl) (by kernel_rfl) rfl (NP.block (NP.next (NP.block (NP.next (NP.next (NP.block (NP.next NP.body))))))) rfl rfl rfl (fun w' hw' => yl_load (v := (.int .i64 xn23)) (by kernel_rfl) rfl hw'.2.1) hS54 ?_
              refine GH.yl (i := 4) (listed' := #[true, true, true, false, true, false, false, false, false, false]) rfl (by kernel_rfl) (by kernel_rfl) (by kernel_rfl) rfl (NP.block (NP.next (NP.block (NP.next (NP.next (NP.block (NP.next NP.body))))))) rfl rfl rfl (fun w' hw' => yl_move rfl) hS54 ?_
              refine GH.yl (i := 5) (listed' := #[true, true, true, false, true, true, false, false, false, false]) rfl (by kernel_rfl) (by kernel_rfl) (by kernel_rfl) rfl (NP.block (NP.next (NP.block (NP.next (NP.next (NP.block (NP.next NP.body))))))) rfl rfl rfl (fun w' hw' => yl_fieldAddr (off := 1) (by kernel_rfl) rfl) hS54 ?_
              refine GH.yl (i := 6) (listed' := #[true, true, true, false, true, true, true, false, false, false]) rfl (by kernel_rfl) (by kernel_rfl) (by kernel_rfl) rfl (NP.block (NP.next (NP.block (NP.next (NP.next (NP.block (NP.next NP.body))))))) rfl rfl rfl (fun w' hw' => yl_load (v := (.int .i64 xn23)) (by kernel_rfl) rfl hw'.2.1) hS54 ?_
              refine GH.does (i := 3) (listed' := #[true, true, true, true, true, true, true, false, false, false]) rfl (by kernel_rfl) rfl rfl rfl rfl (does_call (F := 16) (args := [(.pointer (some ⟨p, 0, none⟩)), (.int .i64 xn23)]) rfl rfl rfl en16 (num_src (p := p) (n := xn23) (bs := bs) (h53.f1) (by first | omega | rfl | (simp only [bytesV_length, intsV_length, boolsV_length]; omega) | (simp [bytesV_length, intsV_length, boolsV_length]; done) | (simp [bytesV_length, intsV_length, boolsV_length]; omega) | (simp [maxLen, bytesV_length, intsV_length, boolsV_length] at *; omega)))) ?_
              rintro _ w55 ⟨rfl, h56⟩
              have hS57 : w55.cell? ⟨b32, 0, none⟩ = some (.int .i64 xk22) ∧ w55.cell? ⟨b32, 1, none⟩ = some (.int .i64 xn23) ∧ w55.cell? ⟨b32, 2, none⟩ = some (.slice xa24 xm25 xc26) ∧ View w55 a (bytesV xs) ∧ View w55 (some ⟨b18, o19, none⟩) (opsV l) ∧ View w55 xa24 (bytesV xbs27) := ⟨(h56.f1).isBlk.cell rfl, (h56.f1).isBlk.cell rfl, (h56.f1).isBlk.cell rfl, (hv.old h56), (hvl.old h56), (hop28.1.old h56)⟩
              refine ⟨hS57, ?_⟩
              refine GH.does (i := 7) (listed' := #[true, true, true, true, true, true, true, true, false, false]) rfl (by kernel_rfl) rfl rfl rfl rfl (does_call (F := 21) (args := [(.pointer (some ⟨b11, 0, none⟩)), (.int .i64 xn23)]) rfl rfl rfl en21 (num_ref (p := b11) (n := xn23) (T := T) (bs := bs) (h56.f2) (by first | omega | rfl | (simp only [bytesV_length, intsV_length, boolsV_length]; omega) | (simp [bytesV_length, intsV_length, boolsV_length]; done) | (simp [bytesV_length, intsV_length, boolsV_length]; omega) | (simp [maxLen, bytesV_length, intsV_length, boolsV_length] at *; omega)))) ?_
              rintro _ w58 ⟨rfl, h59⟩
              have hS60 : w58.cell? ⟨b32, 0, none⟩ = some (.int .i64 xk22) ∧ w58.cell? ⟨b32, 1, none⟩ = some (.int .i64 xn23) ∧ w58.cell? ⟨b32, 2, none⟩ = some (.slice xa24 xm25 xc26) ∧ View w58 a (bytesV xs) ∧ View w58 (some ⟨b18, o19, none⟩) (opsV l) ∧ View w58 xa24 (bytesV xbs27) := ⟨(h59.f2).isBlk.cell rfl, (h59.f2).isBlk.cell rfl, (h59.f2).isBlk.cell rfl, (hv.old h59), (hvl.old h59), (hop28.1.old h59)⟩
              refine ⟨hS60, ?_⟩
              refine GH.yl (i := 8) (listed' := #[true, true, true, true, true, true, true, true, true, false]) rfl (by kernel_rfl) (by kernel_rfl) (by kernel_rfl) rfl (NP.block (NP.next (NP.block (NP.next (NP.next (NP.block (NP.next NP.body))))))) rfl rfl rfl (fun w' hw' => yl_cmp rfl rfl rfl) hS60 ?_
              refine GH.yl (i := 9) (listed' := #[true, true, true, true, true, true, true, true, true, true]) rfl (by kernel_rfl) (by kernel_rfl) (by kernel_rfl) rfl (NP.block (NP.next (NP.block (NP.next (NP.next (NP.block (NP.next NP.body))))))) rfl rfl rfl (fun w' hw' => yl_assign rfl) hS60 ?_
              refine GH.done (by kernel_rfl) ?_
              refine QA.block_normal ?_
              refine QA.then_normal ?_
              refine C.seq ?_
              refine C.region ?_
              refine G.yl (yl_move rfl) rfl rfl rfl ?_
              refine G.yl (yl_not rfl) rfl rfl rfl ?_
              refine G.yl (yl_move rfl) rfl rfl rfl ?_
              refine G.on rfl rfl (by simp) ?_
              refine G.yl (yl_move rfl) rfl rfl rfl ?_
              refine G.on rfl rfl (by simp) ?_
              refine G.does (does_call (F := 29) (args := [(.pointer (some ⟨p, 0, none⟩))]) rfl rfl rfl en29 (left_src (p := p) (bs := bs.drop (numK xn23)) (h59.f1) )) rfl rfl rfl ?_
              rintro _ w61 ⟨rfl, h62⟩
              refine G.on rfl rfl (by simp) ?_
              refine G.yl (yl_move rfl) rfl rfl rfl ?_
              refine G.on rfl rfl (by simp) ?_
              refine G.does (does_call (F := 30) (args := [(.pointer (some ⟨b11, 0, none⟩))]) rfl rfl rfl en30 (left_ref (p := b11) (T := T) (bs := bs.drop (numK xn23)) (h62.f1) )) rfl rfl rfl ?_
              rintro _ w63 ⟨rfl, h64⟩
              refine G.on rfl rfl (by simp) ?_
              refine G.yl (yl_cmp rfl rfl rfl) rfl rfl rfl ?_
              refine G.yl (yl_pick_f rfl (by simp) rfl) rfl rfl rfl ?_
              refine G.nil ?_
              refine QA.then_normal ?_
              refine C.cond_f rfl (bne_f (by first | omega | (simp only [List.length_drop]; done))) ?_
              refine C.skip ?_
              refine QA.block_normal ?_
              refine QA.then_normal ?_
              refine C.region ?_
              refine G.yl (yl_arith rfl rfl (add64 (r := ((k + 1 : Nat) : Int)) (by first | omega | (simp only [bytesV_length, intsV_length, boolsV_length, pad_length]; omega) | (simp only [pad_length]; done) | (first | omega | rfl | (simp only [bytesV_length, intsV_length, boolsV_length]; omega) | (simp [bytesV_length, intsV_length, boolsV_length]; done) | (simp [bytesV_length, intsV_length, boolsV_length]; omega) | (simp [maxLen, bytesV_length, intsV_length, boolsV_length] at *; omega))))) rfl rfl rfl ?_
              refine G.yl (yl_move rfl) rfl rfl rfl ?_
              refine G.nil ?_
              exact QA.again (k + 1, p, T, bs.drop (numK xn23)) (Sub.cons rfl (Sub.cons rfl (Sub.cons rfl (Sub.cons rfl (Sub.cons rfl (Sub.cons rfl (Sub.cons (look_int rfl (by first | rfl | omega | (simp; omega) | simp)) (Sub.nil _)))))))) ⟨(by omega), (by omega), (by first | omega | (simp only [List.length_drop]; omega)), (sl_cast (by first | rfl | (simp; done) | (simp; omega)) (Sat.keep 2 1 (h64.f1)))⟩ (by first | omega | (dsimp only; omega) | (simp; omega) | (simp; done))
            · refine C.cond_f rfl (beq_f hc50) ?_
              refine C.seq ?_
              refine C.region ?_
              refine G.yl (yl_cmp rfl rfl rfl) rfl rfl rfl ?_
              refine G.yl (yl_assign rfl) rfl rfl rfl ?_
              refine G.nil ?_
              refine QA.then_normal ?_
              by_cases hc65 : (xk22 = 2)
              · refine C.cond_t rfl (beq_t hc65) ?_
                refine C.region ?_
                refine G.yl (yl_move rfl) rfl rfl rfl ?_
                refine G.does (does_call (F := 22) (args := [(.pointer (some ⟨p, 0, none⟩))]) rfl rfl rfl en22 (word_src (p := p) (bs := bs) (h36.f1) )) rfl rfl rfl ?_
                rintro _ w66 ⟨rfl, h67⟩
                refine G.yl (yl_move rfl) rfl rfl rfl ?_
                refine G.does (does_call (F := 23) (args := [(.pointer (some ⟨b11, 0, none⟩))]) rfl rfl rfl en23 (word_ref (p := b11) (T := T) (bs := bs) (h67.f2) )) rfl rfl rfl ?_
                rintro _ w68 ⟨rfl, h69⟩
                refine G.yl (yl_cmp rfl rfl rfl) rfl rfl rfl ?_
                refine G.yl (yl_assign rfl) rfl rfl rfl ?_
                refine G.nil ?_
                refine QA.block_normal ?_
                refine QA.then_normal ?_
                refine C.seq ?_
                refine C.region ?_
                refine G.yl (yl_move rfl) rfl rfl rfl ?_
                refine G.yl (yl_not rfl) rfl rfl rfl ?_
                refine G.yl (yl_move rfl) rfl rfl rfl ?_
                refine G.on rfl rfl (by simp) ?_
                refine G.yl (yl_move rfl) rfl rfl rfl ?_
                refine G.on rfl rfl (by simp) ?_
                refine G.does (does_call (F := 29) (args := [(.pointer (some ⟨p, 0, none⟩))]) rfl rfl rfl en29 (left_src (p := p) (bs := bs.drop 4) (h69.f1) )) rfl rfl rfl ?_
                rintro _ w70 ⟨rfl, h71⟩
                refine G.on rfl rfl (by simp) ?_
                refine G.yl (yl_move rfl) rfl rfl rfl ?_
                refine G.on rfl rfl (by simp) ?_
                refine G.does (does_call (F := 30) (args := [(.pointer (some ⟨b11, 0, none⟩))]) rfl rfl rfl en30 (left_ref (p := b11) (T := T) (bs := bs.drop 4) (h71.f1) )) rfl rfl rfl ?_
                rintro _ w72 ⟨rfl, h73⟩
                refine G.on rfl rfl (by simp) ?_
                refine G.yl (yl_cmp rfl rfl rfl) rfl rfl rfl ?_
                refine G.yl (yl_pick_f rfl (by simp) rfl) rfl rfl rfl ?_
                refine G.nil ?_
                refine QA.then_normal ?_
                refine C.cond_f rfl (bne_f (by first | omega | (simp only [List.length_drop]; done))) ?_
                refine C.skip ?_
                refine QA.block_normal ?_
                refine QA.then_normal ?_
                refine C.region ?_
                refine G.yl (yl_arith rfl rfl (add64 (r := ((k + 1 : Nat) : Int)) (by first | omega | (simp only [bytesV_length, intsV_length, boolsV_length, pad_length]; omega) | (simp only [pad_length]; done) | (first | omega | rfl | (simp only [bytesV_length, intsV_length, boolsV_length]; omega) | (simp [bytesV_length, intsV_length, boolsV_length]; done) | (simp [bytesV_length, intsV_length, boolsV_length]; omega) | (simp [maxLen, bytesV_length, intsV_length, boolsV_length] at *; omega))))) rfl rfl rfl ?_
                refine G.yl (yl_move rfl) rfl rfl rfl ?_
                refine G.nil ?_
                exact QA.again (k + 1, p, T, bs.drop 4) (Sub.cons rfl (Sub.cons rfl (Sub.cons rfl (Sub.cons rfl (Sub.cons rfl (Sub.cons rfl (Sub.cons (look_int rfl (by first | rfl | omega | (simp; omega) | simp)) (Sub.nil _)))))))) ⟨(by omega), (by omega), (by first | omega | (simp only [List.length_drop]; omega)), (sl_cast (by first | rfl | (simp; done) | (simp; omega)) (Sat.keep 2 1 (h73.f1)))⟩ (by first | omega | (dsimp only; omega) | (simp; omega) | (simp; done))
              · refine C.cond_f rfl (beq_f hc65) ?_
                refine C.seq ?_
                refine C.region ?_
                refine G.yl (yl_cmp rfl rfl rfl) rfl rfl rfl ?_
                refine G.yl (yl_assign rfl) rfl rfl rfl ?_
                refine G.nil ?_
                refine QA.then_normal ?_
                by_cases hc74 : (xk22 = 3)
                · refine C.cond_t rfl (beq_t hc74) ?_
                  refine C.draw (S := fun w' => w'.cell? ⟨b32, 0, none⟩ = some (.int .i64 xk22) ∧ w'.cell? ⟨b32, 1, none⟩ = some (.int .i64 xn23) ∧ w'.cell? ⟨b32, 2, none⟩ = some (.slice xa24 xm25 xc26) ∧ View w' a (bytesV xs) ∧ View w' (some ⟨b18, o19, none⟩) (opsV l) ∧ View w' xa24 (bytesV xbs27)) (n := 12) rfl h36 rfl rfl ?_
                  intro w76 h77
                  have hS78 : w76.cell? ⟨b32, 0, none⟩ = some (.int .i64 xk22) ∧ w76.cell? ⟨b32, 1, none⟩ = some (.int .i64 xn23) ∧ w76.cell? ⟨b32, 2, none⟩ = some (.slice xa24 xm25 xc26) ∧ View w76 a (bytesV xs) ∧ View w76 (some ⟨b18, o19, none⟩) (opsV l) ∧ View w76 xa24 (bytesV xbs27) := ⟨h77.isBlk.cell rfl, h77.isBlk.cell rfl, h77.isBlk.cell rfl, (hv.old h77), (hvl.old h77), (hop28.1.old h77)⟩
                  refine GH.yl (i := 0) (listed' := #[true, false, false, false, false, false, false, false, false, false, false, false]) rfl (by kernel_rfl) (by kernel_rfl) (by kernel_rfl) rfl (NP.block (NP.next (NP.block (NP.next (NP.next (NP.block (NP.next NP.body))))))) rfl rfl rfl (fun w' hw' => yl_move rfl) hS78 ?_
                  refine GH.yl (i := 1) (listed' := #[true, true, false, false, false, false, false, false, false, false, false, false]) rfl (by kernel_rfl) (by kernel_rfl) (by kernel_rfl) rfl (NP.block (NP.next (NP.block (NP.next (NP.next (NP.block (NP.next NP.body))))))) rfl rfl rfl (fun w' hw' => yl_fieldAddr (off := 1) (by kernel_rfl) rfl) hS78 ?_
                  refine GH.yl (i := 2) (listed' := #[true, true, true, false, false, false, false, false, false, false, false, false]) rfl (by kernel_rfl) (by kernel_rfl) (by kernel_rfl) rfl (NP.block (NP.next (NP.block (NP.next (NP.next (NP.block (NP.next NP.body))))))) rfl rfl rfl (fun w' hw' => yl_load (v := (.int .i64 xn23)) (by kernel_rfl) rfl hw'.2.1) hS78 ?_
                  refine GH.yl (i := 5) (listed' := #[true, true, true, false, false, true, false, false, false, false, false, false]) rfl (by kernel_rfl) (by kernel_rfl) (by kernel_rfl) rfl (NP.block (NP.next (NP.block (NP.next (NP.next (NP.block (NP.next NP.body))))))) rfl rfl rfl (fun w' hw' => yl_move rfl) hS78 ?_
                  refine GH.yl (i := 6) (listed' := #[true, true, true, false, false, true, true, false, false, false, false, false]) rfl (by kernel_rfl) (by kernel_rfl) (by kernel_rfl) rfl (NP.block (NP.next (NP.block (NP.next (NP.next (NP.block (NP.next NP.body))))))) rfl rfl rfl (fun w' hw' => yl_fieldAddr (off := 1) (by kernel_rfl) rfl) hS78 ?_
                  refine GH.yl (i := 7) (listed' := #[true, true, true, false, false, true, true, true, false, false, false, false]) rfl (by kernel_rfl) (by kernel_rfl) (by kernel_rfl) rfl (NP.block (NP.next (NP.block (NP.next (NP.next (NP.block (NP.next NP.body))))))) rfl rfl rfl (fun w' hw' => yl_load (v := (.int .i64 xn23)) (by kernel_rfl) rfl hw'.2.1) hS78 ?_
                  refine GH.does (i := 3) (listed' := #[true, true, true, true, false, true, true, true, false, false, false, false]) rfl (by kernel_rfl) rfl rfl rfl rfl (does_call (F := 24) (args := [(.pointer (some ⟨p, 0, none⟩)), (.int .i64 xn23)]) rfl rfl rfl en24 (take_src (p := p) (n := xn23) (bs := bs) (h77.f1) )) ?_
                  rintro _ w79 ⟨a81, c82, rfl, h80⟩
                  have hS83 : w79.cell? ⟨b32, 0, none⟩ = some (.int .i64 xk22) ∧ w79.cell? ⟨b32, 1, none⟩ = some (.int .i64 xn23) ∧ w79.cell? ⟨b32, 2, none⟩ = some (.slice xa24 xm25 xc26) ∧ View w79 a (bytesV xs) ∧ View w79 (some ⟨b18, o19, none⟩) (opsV l) ∧ View w79 xa24 (bytesV xbs27) := ⟨(h80.f2).isBlk.cell rfl, (h80.f2).isBlk.cell rfl, (h80.f2).isBlk.cell rfl, (hv.old h80), (hvl.old h80), (hop28.1.old h80)⟩
                  refine ⟨hS83, ?_⟩
                  refine GH.two (i := 4) (j := 8) (by kernel_rfl) ?_ ?_
                  · refine wpOp_does (i := 4) (listed' := #[true, true, true, true, true, true, true, true, false, false, false, false]) rfl rfl rfl rfl rfl (Yl.does' (yl_string Try.underlying22 Try.underlying5 Try.underlying9 rfl (by first | omega | (simp only [bytesV_length, intsV_length, boolsV_length, pad_length]; omega) | (simp only [pad_length]; done) | (first | omega | rfl | (simp only [bytesV_length, intsV_length, boolsV_length]; omega) | (simp [bytesV_length, intsV_length, boolsV_length]; done) | (simp [bytesV_length, intsV_length, boolsV_length]; omega) | (simp [maxLen, bytesV_length, intsV_length, boolsV_length] at *; omega))) h80.arr_view (fun e => by (subst e; exact bytesV_nil (View.none_nil h80.arr_view))))) ?_
                    rintro _ _ ⟨rfl, rfl⟩
                    have hS86 : w79.cell? ⟨b32, 0, none⟩ = some (.int .i64 xk22) ∧ w79.cell? ⟨b32, 1, none⟩ = some (.int .i64 xn23) ∧ w79.cell? ⟨b32, 2, none⟩ = some (.slice xa24 xm25 xc26) ∧ View w79 a (bytesV xs) ∧ View w79 (some ⟨b18, o19, none⟩) (opsV l) ∧ View w79 xa24 (bytesV xbs27) := ⟨(h80.f2).isBlk.cell rfl, (h80.f2).isBlk.cell rfl, (h80.f2).isBlk.cell rfl, (hv.old h80), (hvl.old h80), (hop28.1.old h80)⟩
                    refine ⟨hS86, ?_⟩
                    refine GH.does (i := 8) (listed' := #[true, true, true, true, true, true, true, true, true, false, false, false]) rfl (by kernel_rfl) rfl rfl rfl rfl (does_call (F := 25) (args := [(.pointer (some ⟨b11, 0, none⟩)), (.int .i64 xn23)]) rfl rfl rfl en25 (take_ref (p := b11) (n := xn23) (T := T) (bs := bs) (h80.f3) )) ?_
                    rintro _ w87 ⟨a89, c90, rfl, h88⟩
                    have hS91 : w87.cell? ⟨b32, 0, none⟩ = some (.int .i64 xk22) ∧ w87.cell? ⟨b32, 1, none⟩ = some (.int .i64 xn23) ∧ w87.cell? ⟨b32, 2, none⟩ = some (.slice xa24 xm25 xc26) ∧ View w87 a (bytesV xs) ∧ View w87 (some ⟨b18, o19, none⟩) (opsV l) ∧ View w87 xa24 (bytesV xbs27) := ⟨(h88.f4).isBlk.cell rfl, (h88.f4).isBlk.cell rfl, (h88.f4).isBlk.cell rfl, (hv.old h88), (hvl.old h88), (hop28.1.old h88)⟩
                    refine ⟨hS91, ?_⟩
                    refine GH.does (i := 9) (listed' := #[true, true, true, true, true, true, true, true, true, true, false, false]) rfl (by kernel_rfl) rfl rfl rfl rfl (Yl.does' (yl_string Try.underlying22 Try.underlying5 Try.underlying9 rfl (by first | omega | (simp only [bytesV_length, intsV_length, boolsV_length, pad_length]; omega) | (simp only [pad_length]; done) | (first | omega | rfl | (simp only [bytesV_length, intsV_length, boolsV_length]; omega) | (simp [bytesV_length, intsV_length, boolsV_length]; done) | (simp [bytesV_length, intsV_length, boolsV_length]; omega) | (simp [maxLen, bytesV_length, intsV_length, boolsV_length] at *; omega))) h88.arr_view (fun e => by (subst e; exact bytesV_nil (View.none_nil h88.arr_view))))) ?_
                    rintro _ _ ⟨rfl, rfl⟩
                    have hS94 : w87.cell? ⟨b32, 0, none⟩ = some (.int .i64 xk22) ∧ w87.cell? ⟨b32, 1, none⟩ = some (.int .i64 xn23) ∧ w87.cell? ⟨b32, 2, none⟩ = some (.slice xa24 xm25 xc26) ∧ View w87 a (bytesV xs) ∧ View w87 (some ⟨b18, o19, none⟩) (opsV l) ∧ View w87 xa24 (bytesV xbs27) := ⟨(h88.f4).isBlk.cell rfl, (h88.f4).isBlk.cell rfl, (h88.f4).isBlk.cell rfl, (hv.old h88), (hvl.old h88), (hop28.1.old h88)⟩
                    refine ⟨hS94, ?_⟩
                    refine GH.yl (i := 10) (listed' := #[true, true, true, true, true, true, true, true, true, true, true, false]) rfl (by kernel_rfl) (by kernel_rfl) (by kernel_rfl) rfl (NP.block (NP.next (NP.block (NP.next (NP.next (NP.block (NP.next NP.body))))))) rfl rfl rfl (fun w' hw' => yl_scmp rfl rfl rfl) hS94 ?_
                    refine GH.yl (i := 11) (listed' := #[true, true, true, true, true, true, true, true, true, true, true, true]) rfl (by kernel_rfl) (by kernel_rfl) (by kernel_rfl) rfl (NP.block (NP.next (NP.block (NP.next (NP.next (NP.block (NP.next NP.body))))))) rfl rfl rfl (fun w' hw' => yl_assign rfl) hS94 ?_
                    refine GH.done (by kernel_rfl) ?_
                    refine QA.block_normal ?_
                    refine QA.then_normal ?_
                    refine C.seq ?_
                    refine C.region ?_
                    refine G.yl (yl_move rfl) rfl rfl rfl ?_
                    refine G.yl (yl_not rfl) rfl rfl rfl ?_
                    refine G.yl (yl_move rfl) rfl rfl rfl ?_
                    refine G.on rfl rfl (by simp) ?_
                    refine G.yl (yl_move rfl) rfl rfl rfl ?_
                    refine G.on rfl rfl (by simp) ?_
                    refine G.does (does_call (F := 29) (args := [(.pointer (some ⟨p, 0, none⟩))]) rfl rfl rfl en29 (left_src (p := p) (bs := bs.drop (min xn23 1024).toNat) (h88.f3) )) rfl rfl rfl ?_
                    rintro _ w95 ⟨rfl, h96⟩
                    refine G.on rfl rfl (by simp) ?_
                    refine G.yl (yl_move rfl) rfl rfl rfl ?_
                    refine G.on rfl rfl (by simp) ?_
                    refine G.does (does_call (F := 30) (args := [(.pointer (some ⟨b11, 0, none⟩))]) rfl rfl rfl en30 (left_ref (p := b11) (T := T) (bs := bs.drop (min xn23 1024).toNat) (h96.f2) )) rfl rfl rfl ?_
                    rintro _ w97 ⟨rfl, h98⟩
                    refine G.on rfl rfl (by simp) ?_
                    refine G.yl (yl_cmp rfl rfl rfl) rfl rfl rfl ?_
                    refine G.yl (yl_pick_f rfl (by simp) rfl) rfl rfl rfl ?_
                    refine G.nil ?_
                    refine QA.then_normal ?_
                    refine C.cond_f rfl (bne_f (by first | omega | (simp only [List.length_drop]; done))) ?_
                    refine C.skip ?_
                    refine QA.block_normal ?_
                    refine QA.then_normal ?_
                    refine C.region ?_
                    refine G.yl (yl_arith rfl rfl (add64 (r := ((k + 1 : Nat) : Int)) (by first | omega | (simp only [bytesV_length, intsV_length, boolsV_length, pad_length]; omega) | (simp only [pad_length]; done) | (first | omega | rfl | (simp only [bytesV_length, intsV_length, boolsV_length]; omega) | (simp [bytesV_length, intsV_length, boolsV_length]; done) | (simp [bytesV_length, intsV_length, boolsV_length]; omega) | (simp [maxLen, bytesV_length, intsV_length, boolsV_length] at *; omega))))) rfl rfl rfl ?_
                    refine G.yl (yl_move rfl) rfl rfl rfl ?_
                    refine G.nil ?_
                    exact QA.again (k + 1, p, T, bs.drop (min xn23 1024).toNat) (Sub.cons rfl (Sub.cons rfl (Sub.cons rfl (Sub.cons rfl (Sub.cons rfl (Sub.cons rfl (Sub.cons (look_int rfl (by first | rfl | omega | (simp; omega) | simp)) (Sub.nil _)))))))) ⟨(by omega), (by omega), (by first | omega | (simp only [List.length_drop]; omega)), (sl_cast (by first | rfl | (simp; done) | (simp; omega)) (Sat.keep 2 3 (h98.f1)))⟩ (by first | omega | (dsimp only; omega) | (simp; omega) | (simp; done))
                  · refine wpOp_does (i := 8) (listed' := #[true, true, true, true, false, true, true, true, true, false, false, false]) rfl rfl rfl rfl rfl (does_call (F := 25) (args := [(.pointer (some ⟨b11, 0, none⟩)), (.int .i64 xn23)]) rfl rfl rfl en25 (take_ref (p := b11) (n := xn23) (T := T) (bs := bs) (h80.f3) )) ?_
                    rintro _ w99 ⟨a101, c102, rfl, h100⟩
                    have hS103 : w99.cell? ⟨b32, 0, none⟩ = some (.int .i64 xk22) ∧ w99.cell? ⟨b32, 1, none⟩ = some (.int .i64 xn23) ∧ w99.cell? ⟨b32, 2, none⟩ = some (.slice xa24 xm25 xc26) ∧ View w99 a (bytesV xs) ∧ View w99 (some ⟨b18, o19, none⟩) (opsV l) ∧ View w99 xa24 (bytesV xbs27) := ⟨(h100.f4).isBlk.cell rfl, (h100.f4).isBlk.cell rfl, (h100.f4).isBlk.cell rfl, (hv.old h100), (hvl.old h100), (hop28.1.old h100)⟩
                    refine ⟨hS103, ?_⟩
                    refine GH.two (i := 4) (j := 9) (by kernel_rfl) ?_ ?_
                    · refine wpOp_does (i := 4) (listed' := #[true, true, true, true, true, true, true, true, true, false, false, false]) rfl rfl rfl rfl rfl (Yl.does' (yl_string Try.underlying22 Try.underlying5 Try.underlying9 rfl (by first | omega | (simp only [bytesV_length, intsV_length, boolsV_length, pad_length]; omega) | (simp only [pad_length]; done) | (first | omega | rfl | (simp only [bytesV_length, intsV_length, boolsV_length]; omega) | (simp [bytesV_length, intsV_length, boolsV_length]; done) | (simp [bytesV_length, intsV_length, boolsV_length]; omega) | (simp [maxLen, bytesV_length, intsV_length, boolsV_length] at *; omega))) (h100.f2).arr_view (fun e => by (subst e; exact bytesV_nil (View.none_nil (h100.f2).arr_view))))) ?_
                      rintro _ _ ⟨rfl, rfl⟩
                      have hS106 : w99.cell? ⟨b32, 0, none⟩ = some (.int .i64 xk22) ∧ w99.cell? ⟨b32, 1, none⟩ = some (.int .i64 xn23) ∧ w99.cell? ⟨b32, 2, none⟩ = some (.slice xa24 xm25 xc26) ∧ View w99 a (bytesV xs) ∧ View w99 (some ⟨b18, o19, none⟩) (opsV l) ∧ View w99 xa24 (bytesV xbs27) := ⟨(h100.f4).isBlk.cell rfl, (h100.f4).isBlk.cell rfl, (h100.f4).isBlk.cell rfl, (hv.old h100), (hvl.old h100), (hop28.1.old h100)⟩
                      refine ⟨hS106, ?_⟩
                      refine GH.does (i := 9) (listed' := #[true, true, true, true, true, true, true, true, true, true, false, false]) rfl (by kernel_rfl) rfl rfl rfl rfl (Yl.does' (yl_string Try.underlying22 Try.underlying5 Try.underlying9 rfl (by first | omega | (simp only [bytesV_length, intsV_length, boolsV_length, pad_length]; omega) | (simp only [pad_length]; done) | (first | omega | rfl | (simp only [bytesV_length, intsV_length, boolsV_length]; omega) | (simp [bytesV_length, intsV_length, boolsV_length]; done) | (simp [bytesV_length, intsV_length, boolsV_length]; omega) | (simp [maxLen, bytesV_length, intsV_length, boolsV_length] at *; omega))) h100.arr_view (fun e => by (subst e; exact bytesV_nil (View.none_nil h100.arr_view))))) ?_
                      rintro _ _ ⟨rfl, rfl⟩
                      have hS109 : w99.cell? ⟨b32, 0, none⟩ = some (.int .i64 xk22) ∧ w99.cell? ⟨b32, 1, none⟩ = some (.int .i64 xn23) ∧ w99.cell? ⟨b32, 2, none⟩ = some (.slice xa24 xm25 xc26) ∧ View w99 a (bytesV xs) ∧ View w99 (some ⟨b18, o19, none⟩) (opsV l) ∧ View w99 xa24 (bytesV xbs27) := ⟨(h100.f4).isBlk.cell rfl, (h100.f4).isBlk.cell rfl, (h100.f4).isBlk.cell rfl, (hv.old h100), (hvl.old h100), (hop28.1.old h100)⟩
                      refine ⟨hS109, ?_⟩
                      refine GH.yl (i := 10) (listed' := #[true, true, true, true, true, true, true, true, true, true, true, false]) rfl (by kernel_rfl) (by kernel_rfl) (by kernel_rfl) rfl (NP.block (NP.next (NP.block (NP.next (NP.next (NP.block (NP.next NP.body))))))) rfl rfl rfl (fun w' hw' => yl_scmp rfl rfl rfl) hS109 ?_
                      refine GH.yl (i := 11) (listed' := #[true, true, true, true, true, true, true, true, true, true, true, true]) rfl (by kernel_rfl) (by kernel_rfl) (by kernel_rfl) rfl (NP.block (NP.next (NP.block (NP.next (NP.next (NP.block (NP.next NP.body))))))) rfl rfl rfl (fun w' hw' => yl_assign rfl) hS109 ?_
                      refine GH.done (by kernel_rfl) ?_
                      refine QA.block_normal ?_
                      refine QA.then_normal ?_
                      refine C.seq ?_
                      refine C.region ?_
                      refine G.yl (yl_move rfl) rfl rfl rfl ?_
                      refine G.yl (yl_not rfl) rfl rfl rfl ?_
                      refine G.yl (yl_move rfl) rfl rfl rfl ?_
                      refine G.on rfl rfl (by simp) ?_
                      refine G.yl (yl_move rfl) rfl rfl rfl ?_
                      refine G.on rfl rfl (by simp) ?_
                      refine G.does (does_call (F := 29) (args := [(.pointer (some ⟨p, 0, none⟩))]) rfl rfl rfl en29 (left_src (p := p) (bs := bs.drop (min xn23 1024).toNat) (h100.f3) )) rfl rfl rfl ?_
                      rintro _ w110 ⟨rfl, h111⟩
                      refine G.on rfl rfl (by simp) ?_
                      refine G.yl (yl_move rfl) rfl rfl rfl ?_
                      refine G.on rfl rfl (by simp) ?_
                      refine G.does (does_call (F := 30) (args := [(.pointer (some ⟨b11, 0, none⟩))]) rfl rfl rfl en30 (left_ref (p := b11) (T := T) (bs := bs.drop (min xn23 1024).toNat) (h111.f2) )) rfl rfl rfl ?_
                      rintro _ w112 ⟨rfl, h113⟩
                      refine G.on rfl rfl (by simp) ?_
                      refine G.yl (yl_cmp rfl rfl rfl) rfl rfl rfl ?_
                      refine G.yl (yl_pick_f rfl (by simp) rfl) rfl rfl rfl ?_
                      refine G.nil ?_
                      refine QA.then_normal ?_
                      refine C.cond_f rfl (bne_f (by first | omega | (simp only [List.length_drop]; done))) ?_
                      refine C.skip ?_
                      refine QA.block_normal ?_
                      refine QA.then_normal ?_
                      refine C.region ?_
                      refine G.yl (yl_arith rfl rfl (add64 (r := ((k + 1 : Nat) : Int)) (by first | omega | (simp only [bytesV_length, intsV_length, boolsV_length, pad_length]; omega) | (simp only [pad_length]; done) | (first | omega | rfl | (simp only [bytesV_length, intsV_length, boolsV_length]; omega) | (simp [bytesV_length, intsV_length, boolsV_length]; done) | (simp [bytesV_length, intsV_length, boolsV_length]; omega) | (simp [maxLen, bytesV_length, intsV_length, boolsV_length] at *; omega))))) rfl rfl rfl ?_
                      refine G.yl (yl_move rfl) rfl rfl rfl ?_
                      refine G.nil ?_
                      exact QA.again (k + 1, p, T, bs.drop (min xn23 1024).toNat) (Sub.cons rfl (Sub.cons rfl (Sub.cons rfl (Sub.cons rfl (Sub.cons rfl (Sub.cons rfl (Sub.cons (look_int rfl (by first | rfl | omega | (simp; omega) | simp)) (Sub.nil _)))))))) ⟨(by omega), (by omega), (by first | omega | (simp only [List.length_drop]; omega)), (sl_cast (by first | rfl | (simp; done) | (simp; omega)) (Sat.keep 2 3 (h113.f1)))⟩ (by first | omega | (dsimp only; omega) | (simp; omega) | (simp; done))
                    · refine wpOp_does (i := 9) (listed' := #[true, true, true, true, false, true, true, true, true, true, false, false]) rfl rfl rfl rfl rfl (Yl.does' (yl_string Try.underlying22 Try.underlying5 Try.underlying9 rfl (by first | omega | (simp only [bytesV_length, intsV_length, boolsV_length, pad_length]; omega) | (simp only [pad_length]; done) | (first | omega | rfl | (simp only [bytesV_length, intsV_length, boolsV_length]; omega) | (simp [bytesV_length, intsV_length, boolsV_length]; done) | (simp [bytesV_length, intsV_length, boolsV_length]; omega) | (simp [maxLen, bytesV_length, intsV_length, boolsV_length] at *; omega))) h100.arr_view (fun e => by (subst e; exact bytesV_nil (View.none_nil h100.arr_view))))) ?_
                      rintro _ _ ⟨rfl, rfl⟩
                      have hS116 : w99.cell? ⟨b32, 0, none⟩ = some (.int .i64 xk22) ∧ w99.cell? ⟨b32, 1, none⟩ = some (.int .i64 xn23) ∧ w99.cell? ⟨b32, 2, none⟩ = some (.slice xa24 xm25 xc26) ∧ View w99 a (bytesV xs) ∧ View w99 (some ⟨b18, o19, none⟩) (opsV l) ∧ View w99 xa24 (bytesV xbs27) := ⟨(h100.f4).isBlk.cell rfl, (h100.f4).isBlk.cell rfl, (h100.f4).isBlk.cell rfl, (hv.old h100), (hvl.old h100), (hop28.1.old h100)⟩
                      refine ⟨hS116, ?_⟩
                      refine GH.does (i := 4) (listed' := #[true, true, true, true, true, true, true, true, true, true, false, false]) rfl (by kernel_rfl) rfl rfl rfl rfl (Yl.does' (yl_string Try.underlying22 Try.underlying5 Try.underlying9 rfl (by first | omega | (simp only [bytesV_length, intsV_length, boolsV_length, pad_length]; omega) | (simp only [pad_length]; done) | (first | omega | rfl | (simp only [bytesV_length, intsV_length, boolsV_length]; omega) | (simp [bytesV_length, intsV_length, boolsV_length]; done) | (simp [bytesV_length, intsV_length, boolsV_length]; omega) | (simp [maxLen, bytesV_length, intsV_length, boolsV_length] at *; omega))) (h100.f2).arr_view (fun e => by (subst e; exact bytesV_nil (View.none_nil (h100.f2).arr_view))))) ?_
                      rintro _ _ ⟨rfl, rfl⟩
                      have hS119 : w99.cell? ⟨b32, 0, none⟩ = some (.int .i64 xk22) ∧ w99.cell? ⟨b32, 1, none⟩ = some (.int .i64 xn23) ∧ w99.cell? ⟨b32, 2, none⟩ = some (.slice xa24 xm25 xc26) ∧ View w99 a (bytesV xs) ∧ View w99 (some ⟨b18, o19, none⟩) (opsV l) ∧ View w99 xa24 (bytesV xbs27) := ⟨(h100.f4).isBlk.cell rfl, (h100.f4).isBlk.cell rfl, (h100.f4).isBlk.cell rfl, (hv.old h100), (hvl.old h100), (hop28.1.old h100)⟩
                      refine ⟨hS119, ?_⟩
                      refine GH.yl (i := 10) (listed' := #[true, true, true, true, true, true, true, true, true, true, true, false]) rfl (by kernel_rfl) (by kernel_rfl) (by kernel_rfl) rfl (NP.block (NP.next (NP.block (NP.next (NP.next (NP.block (NP.next NP.body))))))) rfl rfl rfl (fun w' hw' => yl_scmp rfl rfl rfl) hS119 ?_
                      refine GH.yl (i := 11) (listed' := #[true, true, true, true, true, true, true, true, true, true, true, true]) rfl (by kernel_rfl) (by kernel_rfl) (by kernel_rfl) rfl (NP.block (NP.next (NP.block (NP.next (NP.next (NP.block (NP.next NP.body))))))) rfl rfl rfl (fun w' hw' => yl_assign rfl) hS119 ?_
                      refine GH.done (by kernel_rfl) ?_
                      refine QA.block_normal ?_
                      refine QA.then_normal ?_
                      refine C.seq ?_
                      refine C.region ?_
                      refine G.yl (yl_move rfl) rfl rfl rfl ?_
                      refine G.yl (yl_not rfl) rfl rfl rfl ?_
                      refine G.yl (yl_move rfl) rfl rfl rfl ?_
                      refine G.on rfl rfl (by simp) ?_
                      refine G.yl (yl_move rfl) rfl rfl rfl ?_
                      refine G.on rfl rfl (by simp) ?_
                      refine G.does (does_call (F := 29) (args := [(.pointer (some ⟨p, 0, none⟩))]) rfl rfl rfl en29 (left_src (p := p) (bs := bs.drop (min xn23 1024).toNat) (h100.f3) )) rfl rfl rfl ?_
                      rintro _ w120 ⟨rfl, h121⟩
                      refine G.on rfl rfl (by simp) ?_
                      refine G.yl (yl_move rfl) rfl rfl rfl ?_
                      refine G.on rfl rfl (by simp) ?_
                      refine G.does (does_call (F := 30) (args := [(.pointer (some ⟨b11, 0, none⟩))]) rfl rfl rfl en30 (left_ref (p := b11) (T := T) (bs := bs.drop (min xn23 1024).toNat) (h121.f2) )) rfl rfl rfl ?_
                      rintro _ w122 ⟨rfl, h123⟩
                      refine G.on rfl rfl (by simp) ?_
                      refine G.yl (yl_cmp rfl rfl rfl) rfl rfl rfl ?_
                      refine G.yl (yl_pick_f rfl (by simp) rfl) rfl rfl rfl ?_
                      refine G.nil ?_
                      refine QA.then_normal ?_
                      refine C.cond_f rfl (bne_f (by first | omega | (simp only [List.length_drop]; done))) ?_
                      refine C.skip ?_
                      refine QA.block_normal ?_
                      refine QA.then_normal ?_
                      refine C.region ?_
                      refine G.yl (yl_arith rfl rfl (add64 (r := ((k + 1 : Nat) : Int)) (by first | omega | (simp only [bytesV_length, intsV_length, boolsV_length, pad_length]; omega) | (simp only [pad_length]; done) | (first | omega | rfl | (simp only [bytesV_length, intsV_length, boolsV_length]; omega) | (simp [bytesV_length, intsV_length, boolsV_length]; done) | (simp [bytesV_length, intsV_length, boolsV_length]; omega) | (simp [maxLen, bytesV_length, intsV_length, boolsV_length] at *; omega))))) rfl rfl rfl ?_
                      refine G.yl (yl_move rfl) rfl rfl rfl ?_
                      refine G.nil ?_
                      exact QA.again (k + 1, p, T, bs.drop (min xn23 1024).toNat) (Sub.cons rfl (Sub.cons rfl (Sub.cons rfl (Sub.cons rfl (Sub.cons rfl (Sub.cons rfl (Sub.cons (look_int rfl (by first | rfl | omega | (simp; omega) | simp)) (Sub.nil _)))))))) ⟨(by omega), (by omega), (by first | omega | (simp only [List.length_drop]; omega)), (sl_cast (by first | rfl | (simp; done) | (simp; omega)) (Sat.keep 2 3 (h123.f1)))⟩ (by first | omega | (dsimp only; omega) | (simp; omega) | (simp; done))
                · refine C.cond_f rfl (beq_f hc74) ?_
                  refine C.seq ?_
                  refine C.region ?_
                  refine G.yl (yl_cmp rfl rfl rfl) rfl rfl rfl ?_
                  refine G.yl (yl_assign rfl) rfl rfl rfl ?_
                  refine G.nil ?_
                  refine QA.then_normal ?_
                  by_cases hc124 : (xk22 = 4)
                  · refine C.cond_t rfl (beq_t hc124) ?_
                    refine C.draw (S := fun w' => w'.cell? ⟨b32, 0, none⟩ = some (.int .i64 xk22) ∧ w'.cell? ⟨b32, 1, none⟩ = some (.int .i64 xn23) ∧ w'.cell? ⟨b32, 2, none⟩ = some (.slice xa24 xm25 xc26) ∧ View w' a (bytesV xs) ∧ View w' (some ⟨b18, o19, none⟩) (opsV l) ∧ View w' xa24 (bytesV xbs27)) (n := 10) rfl h36 rfl rfl ?_
                    intro w126 h127
                    have hS128 : w126.cell? ⟨b32, 0, none⟩ = some (.int .i64 xk22) ∧ w126.cell? ⟨b32, 1, none⟩ = some (.int .i64 xn23) ∧ w126.cell? ⟨b32, 2, none⟩ = some (.slice xa24 xm25 xc26) ∧ View w126 a (bytesV xs) ∧ View w126 (some ⟨b18, o19, none⟩) (opsV l) ∧ View w126 xa24 (bytesV xbs27) := ⟨h127.isBlk.cell rfl, h127.isBlk.cell rfl, h127.isBlk.cell rfl, (hv.old h127), (hvl.old h127), (hop28.1.old h127)⟩
                    refine GH.yl (i := 0) (listed' := #[true, false, false, false, false, false, false, false, false, false]) rfl (by kernel_rfl) (by kernel_rfl) (by kernel_rfl) rfl (NP.block (NP.next (NP.block (NP.next (NP.next (NP.block (NP.next NP.body))))))) rfl rfl rfl (fun w' hw' => yl_move rfl) hS128 ?_
                    refine GH.yl (i := 1) (listed' := #[true, true, false, false, false, false, false, false, false, false]) rfl (by kernel_rfl) (by kernel_rfl) (by kernel_rfl) rfl (NP.block (NP.next (NP.block (NP.next (NP.next (NP.block (NP.next NP.body))))))) rfl rfl rfl (fun w' hw' => yl_fieldAddr (off := 2) (by kernel_rfl) rfl) hS128 ?_
                    refine GH.yl (i := 2) (listed' := #[true, true, true, false, false, false, false, false, false, false]) rfl (by kernel_rfl) (by kernel_rfl) (by kernel_rfl) rfl (NP.block (NP.next (NP.block (NP.next (NP.next (NP.block (NP.next NP.body))))))) rfl rfl rfl (fun w' hw' => yl_load (v := (.slice xa24 xm25 xc26)) (by kernel_rfl) rfl hw'.2.2.1) hS128 ?_
                    refine GH.yl (i := 4) (listed' := #[true, true, true, false, true, false, false, false, false, false]) rfl (by kernel_rfl) (by kernel_rfl) (by kernel_rfl) rfl (NP.block (NP.next (NP.block (NP.next (NP.next (NP.block (NP.next NP.body))))))) rfl rfl rfl (fun w' hw' => yl_move rfl) hS128 ?_
                    refine GH.yl (i := 5) (listed' := #[true, true, true, false, true, true, false, false, false, false]) rfl (by kernel_rfl) (by kernel_rfl) (by kernel_rfl) rfl (NP.block (NP.next (NP.block (NP.next (NP.next (NP.block (NP.next NP.body))))))) rfl rfl rfl (fun w' hw' => yl_fieldAddr (off := 2) (by kernel_rfl) rfl) hS128 ?_
                    refine GH.yl (i := 6) (listed' := #[true, true, true, false, true, true, true, false, false, false]) rfl (by kernel_rfl) (by kernel_rfl) (by kernel_rfl) rfl (NP.block (NP.next (NP.block (NP.next (NP.next (NP.block (NP.next NP.body))))))) rfl rfl rfl (fun w' hw' => yl_load (v := (.slice xa24 xm25 xc26)) (by kernel_rfl) rfl hw'.2.2.1) hS128 ?_
                    refine GH.does (i := 3) (listed' := #[true, true, true, true, true, true, true, false, false, false]) rfl (by kernel_rfl) rfl rfl rfl rfl (does_call (F := 26) (args := [(.pointer (some ⟨p, 0, none⟩)), (.slice xa24 xm25 xc26)]) rfl rfl rfl en26 (add_src (p := p) (a := xa24) (n := xm25) (c := xc26) (bs := bs) (xs := xbs27) (h127.f1) (hop28.1) (by first | omega | rfl | (simp only [bytesV_length, intsV_length, boolsV_length]; omega) | (simp [bytesV_length, intsV_length, boolsV_length]; done) | (simp [bytesV_length, intsV_length, boolsV_length]; omega) | (simp [maxLen, bytesV_length, intsV_length, boolsV_length] at *; omega)) (by first | omega | rfl | (simp only [bytesV_length, intsV_length, boolsV_length]; omega) | (simp [bytesV_length, intsV_length, boolsV_length]; done) | (simp [bytesV_length, intsV_length, boolsV_length]; omega) | (simp [maxLen, bytesV_length, intsV_length, boolsV_length] at *; omega)) (by first | omega | rfl | (simp only [bytesV_length, intsV_length, boolsV_length]; omega) | (simp [bytesV_length, intsV_length, boolsV_length]; done) | (simp [bytesV_length, intsV_length, boolsV_length]; omega) | (simp [maxLen, bytesV_length, intsV_length, boolsV_length] at *; omega)))) ?_
                    rintro _ w129 ⟨rfl, h130⟩
                    have hS131 : w129.cell? ⟨b32, 0, none⟩ = some (.int .i64 xk22) ∧ w129.cell? ⟨b32, 1, none⟩ = some (.int .i64 xn23) ∧ w129.cell? ⟨b32, 2, none⟩ = some (.slice xa24 xm25 xc26) ∧ View w129 a (bytesV xs) ∧ View w129 (some ⟨b18, o19, none⟩) (opsV l) ∧ View w129 xa24 (bytesV xbs27) := ⟨(h130.f1).isBlk.cell rfl, (h130.f1).isBlk.cell rfl, (h130.f1).isBlk.cell rfl, (hv.old h130), (hvl.old h130), (hop28.1.old h130)⟩
                    refine ⟨hS131, ?_⟩
                    refine GH.does (i := 7) (listed' := #[true, true, true, true, true, true, true, true, false, false]) rfl (by kernel_rfl) rfl rfl rfl rfl (does_call (F := 27) (args := [(.pointer (some ⟨b11, 0, none⟩)), (.slice xa24 xm25 xc26)]) rfl rfl rfl en27 (add_ref (p := b11) (a := xa24) (n := xm25) (c := xc26) (T := T) (bs := bs) (xs := xbs27) (h130.f2) (hop28.1) (by first | omega | rfl | (simp only [bytesV_length, intsV_length, boolsV_length]; omega) | (simp [bytesV_length, intsV_length, boolsV_length]; done) | (simp [bytesV_length, intsV_length, boolsV_length]; omega) | (simp [maxLen, bytesV_length, intsV_length, boolsV_length] at *; omega)) (by first | omega | rfl | (simp only [bytesV_length, intsV_length, boolsV_length]; omega) | (simp [bytesV_length, intsV_length, boolsV_length]; done) | (simp [bytesV_length, intsV_length, boolsV_length]; omega) | (simp [maxLen, bytesV_length, intsV_length, boolsV_length] at *; omega)) (by first | omega | rfl | (simp only [bytesV_length, intsV_length, boolsV_length]; omega) | (simp [bytesV_length, intsV_length, boolsV_length]; done) | (simp [bytesV_length, intsV_length, boolsV_length]; omega) | (simp [maxLen, bytesV_length, intsV_length, boolsV_length] at *; omega)))) ?_
                    rintro _ w132 ⟨rfl, h133⟩
                    have hS134 : w132.cell? ⟨b32, 0, none⟩ = some (.int .i64 xk22) ∧ w132.cell? ⟨b32, 1, none⟩ = some (.int .i64 xn23) ∧ w132.cell? ⟨b32, 2, none⟩ = some (.slice xa24 xm25 xc26) ∧ View w132 a (bytesV xs) ∧ View w132 (some ⟨b18, o19, none⟩) (opsV l) ∧ View w132 xa24 (bytesV xbs27) := ⟨(h133.f2).isBlk.cell rfl, (h133.f2).isBlk.cell rfl, (h133.f2).isBlk.cell rfl, (hv.old h133), (hvl.old h133), (hop28.1.old h133)⟩
                    refine ⟨hS134, ?_⟩
                    refine GH.yl (i := 8) (listed' := #[true, true, true, true, true, true, true, true, true, false]) rfl (by kernel_rfl) (by kernel_rfl) (by kernel_rfl) rfl (NP.block (NP.next (NP.block (NP.next (NP.next (NP.block (NP.next NP.body))))))) rfl rfl rfl (fun w' hw' => yl_cmp rfl rfl rfl) hS134 ?_
                    refine GH.yl (i := 9) (listed' := #[true, true, true, true, true, true, true, true, true, true]) rfl (by kernel_rfl) (by kernel_rfl) (by kernel_rfl) rfl (NP.block (NP.next (NP.block (NP.next (NP.next (NP.block (NP.next NP.body))))))) rfl rfl rfl (fun w' hw' => yl_assign rfl) hS134 ?_
                    refine GH.done (by kernel_rfl) ?_
                    refine QA.block_normal ?_
                    refine QA.then_normal ?_
                    refine C.seq ?_
                    refine C.region ?_
                    refine G.yl (yl_move rfl) rfl rfl rfl ?_
                    refine G.yl (yl_not rfl) rfl rfl rfl ?_
                    refine G.yl (yl_move rfl) rfl rfl rfl ?_
                    refine G.on rfl rfl (by simp) ?_
                    refine G.yl (yl_move rfl) rfl rfl rfl ?_
                    refine G.on rfl rfl (by simp) ?_
                    refine G.does (does_call (F := 29) (args := [(.pointer (some ⟨p, 0, none⟩))]) rfl rfl rfl en29 (left_src (p := p) (bs := addB bs xbs27) (h133.f1) )) rfl rfl rfl ?_
                    rintro _ w135 ⟨rfl, h136⟩
                    refine G.on rfl rfl (by simp) ?_
                    refine G.yl (yl_move rfl) rfl rfl rfl ?_
                    refine G.on rfl rfl (by simp) ?_
                    refine G.does (does_call (F := 30) (args := [(.pointer (some ⟨b11, 0, none⟩))]) rfl rfl rfl en30 (left_ref (p := b11) (T := T + xbs27.length) (bs := addB bs xbs27) (h136.f1) )) rfl rfl rfl ?_
                    rintro _ w137 ⟨rfl, h138⟩
                    refine G.on rfl rfl (by simp) ?_
                    refine G.yl (yl_cmp rfl rfl rfl) rfl rfl rfl ?_
                    refine G.yl (yl_pick_f rfl (by simp) rfl) rfl rfl rfl ?_
                    refine G.nil ?_
                    refine QA.then_normal ?_
                    refine C.cond_f rfl (bne_f (by first | omega | (simp only [List.length_drop]; done))) ?_
                    refine C.skip ?_
                    refine QA.block_normal ?_
                    refine QA.then_normal ?_
                    refine C.region ?_
                    refine G.yl (yl_arith rfl rfl (add64 (r := ((k + 1 : Nat) : Int)) (by first | omega | (simp only [bytesV_length, intsV_length, boolsV_length, pad_length]; omega) | (simp only [pad_length]; done) | (first | omega | rfl | (simp only [bytesV_length, intsV_length, boolsV_length]; omega) | (simp [bytesV_length, intsV_length, boolsV_length]; done) | (simp [bytesV_length, intsV_length, boolsV_length]; omega) | (simp [maxLen, bytesV_length, intsV_length, boolsV_length] at *; omega))))) rfl rfl rfl ?_
                    refine G.yl (yl_move rfl) rfl rfl rfl ?_
                    refine G.nil ?_
                    have hab := addB_length bs xbs27
                    exact QA.again (k + 1, p, T + xbs27.length, addB bs xbs27) (Sub.cons rfl (Sub.cons rfl (Sub.cons rfl (Sub.cons rfl (Sub.cons rfl (Sub.cons rfl (Sub.cons (look_int rfl (by first | rfl | omega | (simp; omega) | simp)) (Sub.nil _)))))))) ⟨(by omega), (by omega), (by first | omega | (simp only [List.length_drop]; omega)), (sl_cast (by first | rfl | (simp; done) | (simp; omega)) (Sat.keep 2 1 (h138.f1)))⟩ (by first | omega | (dsimp only; omega) | (simp; omega) | (simp; done))
                  · refine C.cond_f rfl (beq_f hc124) ?_
                    refine C.seq ?_
                    refine C.region ?_
                    refine G.yl (yl_move rfl) rfl rfl rfl ?_
                    refine G.does (does_call (F := 28) (args := [(.pointer (some ⟨p, 0, none⟩))]) rfl rfl rfl en28 (clone_src (p := p) (bs := bs) (h36.f1) (by first | omega | rfl | (simp only [bytesV_length, intsV_length, boolsV_length]; omega) | (simp [bytesV_length, intsV_length, boolsV_length]; done) | (simp [bytesV_length, intsV_length, boolsV_length]; omega) | (simp [maxLen, bytesV_length, intsV_length, boolsV_length] at *; omega)))) rfl rfl rfl ?_
                    rintro _ w139 ⟨q141, rfl, h140⟩
                    refine G.yl (yl_assign rfl) rfl rfl rfl ?_
                    refine G.nil ?_
                    refine QA.then_normal ?_
                    refine C.seq ?_
                    refine C.seq ?_
                    refine C.region ?_
                    refine G.yl (yl_move rfl) rfl rfl rfl ?_
                    refine G.yl (yl_eq_nil (by kernel_rfl) rfl rfl) rfl rfl rfl ?_
                    refine G.nil ?_
                    refine QA.then_normal ?_
                    refine C.cond_f rfl rfl ?_
                    refine C.skip ?_
                    refine QA.then_normal ?_
                    refine C.seq ?_
                    refine C.region ?_
                    refine G.yl (yl_move rfl) rfl rfl rfl ?_
                    refine G.does (does_call (F := 24) (args := [(.pointer (some ⟨p, 0, none⟩)), (.int .i64 7)]) rfl rfl rfl en24 (take_src (p := p) (n := 7) (bs := bs) (h140.f1) )) rfl rfl rfl ?_
                    rintro _ w142 ⟨a144, c145, rfl, h143⟩
                    refine G.nil ?_
                    refine QA.then_normal ?_
                    refine C.region ?_
                    refine G.yl (yl_move rfl) rfl rfl rfl ?_
                    refine G.yl (yl_assign rfl) rfl rfl rfl ?_
                    refine G.nil ?_
                    refine QA.block_normal ?_
                    refine QA.then_normal ?_
                    refine C.seq ?_
                    refine C.region ?_
                    refine G.yl (yl_move rfl) rfl rfl rfl ?_
                    refine G.yl (yl_not rfl) rfl rfl rfl ?_
                    refine G.yl (yl_move rfl) rfl rfl rfl ?_
                    refine G.on rfl rfl rfl ?_
                    refine G.yl (yl_move rfl) rfl rfl rfl ?_
                    refine G.on rfl rfl rfl ?_
                    refine G.does (does_call (F := 29) (args := [(.pointer (some ⟨q141, 0, none⟩))]) rfl rfl rfl en29 (left_src (p := q141) (bs := bs) (h143.f2) )) rfl rfl rfl ?_
                    rintro _ w146 ⟨rfl, h147⟩
                    refine G.on rfl rfl rfl ?_
                    refine G.yl (yl_move rfl) rfl rfl rfl ?_
                    refine G.on rfl rfl rfl ?_
                    refine G.does (does_call (F := 30) (args := [(.pointer (some ⟨b11, 0, none⟩))]) rfl rfl rfl en30 (left_ref (p := b11) (T := T) (bs := bs) (h147.f4) )) rfl rfl rfl ?_
                    rintro _ w148 ⟨rfl, h149⟩
                    refine G.on rfl rfl rfl ?_
                    refine G.yl (yl_cmp rfl rfl rfl) rfl rfl rfl ?_
                    refine G.yl (yl_pick_f rfl rfl rfl) rfl rfl rfl ?_
                    refine G.nil ?_
                    refine QA.then_normal ?_
                    refine C.cond_f rfl (bne_f (by first | omega | (simp only [List.length_drop]; done))) ?_
                    refine C.skip ?_
                    refine QA.block_normal ?_
                    refine QA.then_normal ?_
                    refine C.region ?_
                    refine G.yl (yl_arith rfl rfl (add64 (r := ((k + 1 : Nat) : Int)) (by first | omega | (simp only [bytesV_length, intsV_length, boolsV_length, pad_length]; omega) | (simp only [pad_length]; done) | (first | omega | rfl | (simp only [bytesV_length, intsV_length, boolsV_length]; omega) | (simp [bytesV_length, intsV_length, boolsV_length]; done) | (simp [bytesV_length, intsV_length, boolsV_length]; omega) | (simp [maxLen, bytesV_length, intsV_length, boolsV_length] at *; omega))))) rfl rfl rfl ?_
                    refine G.yl (yl_move rfl) rfl rfl rfl ?_
                    refine G.nil ?_
                    exact QA.again (k + 1, q141, T, bs) (Sub.cons rfl (Sub.cons rfl (Sub.cons rfl (Sub.cons rfl (Sub.cons rfl (Sub.cons rfl (Sub.cons (look_int rfl (by first | rfl | omega | (simp; omega) | simp)) (Sub.nil _)))))))) ⟨(by omega), (by omega), (by first | omega | (simp only [List.length_drop]; omega)), (sl_cast (by first | rfl | (simp; done) | (simp; omega)) (Sat.keep 2 3 (h149.f1)))⟩ (by first | omega | (dsimp only; omega) | (simp; omega) | (simp; done))
      · refine C.cond_f rfl (decide_eq_false hc17) ?_
        refine C.exit ?_
        refine QA.then_exit ?_
        refine QA.then_exit ?_
        refine QA.block_here ?_
        refine QA.then_normal ?_
        refine C.seq ?_
        refine C.region ?_
        refine G.does (does_call (F := 13) (args := []) rfl rfl rfl en13 (lives_true  h16 )) rfl rfl rfl ?_
        rintro _ w150 ⟨rfl, h151⟩
        refine G.yl (yl_assign rfl) rfl rfl rfl ?_
        refine G.nil ?_
        refine QA.then_normal ?_
        refine C.ret ?_
        refine QA.ret1 rfl rfl ?_
        exact ⟨rfl, (sl_cast (by first | rfl | (simp; done) | (simp; omega)) (Sat.keep 0 2 h151))⟩
theorem ops_rd {H : Type} {enc : TypeId × Value → H} {W : World} : ∀ cs, Rd enc Try.prog W 39 cs → ∃ x : OpD, cs = opsC x ∧ (View W x.a (bytesV x.bs) ∧ x.m = x.bs.length ∧ x.m ≤ x.c ∧ x.n ≤ 9223372036854775807) := by
  intro cs h
  have hl := h.struct Try.underlying39 (n := 3) (by kernel_rfl)
  have g0 := h.field Try.underlying39 (i := 0) (t' := 3) (o := 0) (m := 1) rfl (by kernel_rfl)
  obtain ⟨n0, e0, w0⟩ := g0.int Try.underlying3
  have g1 := h.field Try.underlying39 (i := 1) (t' := 3) (o := 1) (m := 1) rfl (by kernel_rfl)
  obtain ⟨n1, e1, w1⟩ := g1.int Try.underlying3
  have g2 := h.field Try.underlying39 (i := 2) (t' := 22) (o := 2) (m := 1) rfl (by kernel_rfl)
  obtain ⟨a2, m2, c2, n2, e2, hl2, hc2, hm2, hz2, hv2⟩ := g2.bytes Try.underlying22 Try.underlying5 (by kernel_rfl)
  match cs, hl with
  | [z0, z1, z2], _ =>
    simp only [List.drop_zero, List.drop_succ_cons, List.take_succ_cons, List.take_zero, List.cons.injEq, and_true] at e0 e1 e2
    subst e0 e1 e2
    exact ⟨⟨n0, n1, a2, m2, c2, n2⟩, rfl, ⟨hv2, hl2, hc2, (int_range w1).2⟩⟩
end Go.Proofs.Ytaaahjcldomnbaa
