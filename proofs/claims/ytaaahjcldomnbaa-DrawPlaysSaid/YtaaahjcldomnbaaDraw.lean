/-
  The walks of package draw, and of its reference: what each function does to a source. No condition.
-/
import Derived.Test.YtaaahjcldomnbaaFacts
namespace Go.Proofs.Ytaaahjcldomnbaa
open Go Go.RowKit
set_option linter.unusedVariables false
set_option linter.unusedSimpArgs false
set_option linter.unnecessarySimpa false

/-! ### numbers in bytes -/
def pad (k : Nat) (bs : List UInt8) : List UInt8 := (List.range k).map (fun i => bs.getD i 0)
def be (l : List UInt8) : Nat := l.foldl (fun n b => n * 256 + b.toNat) 0
theorem pad_zero (bs : List UInt8) : pad 0 bs = [] := rfl
theorem pad_succ (k : Nat) (bs : List UInt8) : pad (k + 1) bs = pad k bs ++ [bs.getD k 0] := by simp [pad, List.range_succ]
theorem pad_length (k : Nat) (bs : List UInt8) : (pad k bs).length = k := by simp [pad]
theorem be_snoc (l : List UInt8) (b : UInt8) : be (l ++ [b]) = be l * 256 + b.toNat := by simp [be]
theorem be_lt' : ∀ (l : List UInt8) (n k : Nat), n < 256 ^ k → l.foldl (fun n b => n * 256 + b.toNat) n < 256 ^ (k + l.length)
  | [], n, k, h => by simpa using h
  | b :: l, n, k, h => by
    have hb := b.toNat_lt
    have := be_lt' l (n * 256 + b.toNat) (k + 1) (by rw [Nat.pow_succ]; omega)
    simp only [List.foldl_cons, List.length_cons]
    have e : k + (l.length + 1) = k + 1 + l.length := by omega
    rw [e]; exact this
theorem be_lt (l : List UInt8) : be l < 256 ^ l.length := by
  have := be_lt' l 0 0 (by simp)
  simpa [be] using this
theorem be_pad_lt (k : Nat) (bs : List UInt8) : be (pad k bs) < 256 ^ k := by have := be_lt (pad k bs); rwa [pad_length] at this
theorem be_pad_succ (k : Nat) (bs : List UInt8) : be (pad (k + 1) bs) = be (pad k bs) * 256 + (bs.getD k 0).toNat := by rw [pad_succ, be_snoc]
theorem getD_drop (bs : List UInt8) (k : Nat) : (bs.drop k).headD 0 = bs.getD k 0 := by
  rw [List.headD_eq_head?_getD, List.head?_drop, List.getD_eq_getElem?_getD]
theorem tail_drop (bs : List UInt8) (k : Nat) : (bs.drop k).tail = bs.drop (k + 1) := by simp
theorem pow256_le {k m : Nat} (h : k ≤ m) : 256 ^ k ≤ 256 ^ m := Nat.pow_le_pow_right (by decide) h
theorem be_small {k : Nat} (bs : List UInt8) (h : k ≤ 7) : be (pad k bs) < 72057594037927936 := by
  have h1 := be_pad_lt k bs
  have h2 := pow256_le h
  have h3 : 256 ^ 7 = 72057594037927936 := by decide
  omega
theorem be_small8 {k : Nat} (bs : List UInt8) (h : k ≤ 8) : be (pad k bs) < 18446744073709551616 := by
  have h1 := be_pad_lt k bs
  have h2 := pow256_le h
  have h3 : 256 ^ 8 = 18446744073709551616 := by decide
  omega
theorem be_small4 {k : Nat} (bs : List UInt8) (h : k ≤ 4) : be (pad k bs) < 4294967296 := by
  have h1 := be_pad_lt k bs
  have h2 := pow256_le h
  have h3 : 256 ^ 4 = 4294967296 := by decide
  omega
def nb (m : Nat) : Nat := if m = 0 then 0 else nb (m / 256) + 1
theorem nb_zero : nb 0 = 0 := by unfold nb; simp
theorem nb_pos {m : Nat} (h : 0 < m) : nb m = nb (m / 256) + 1 := by rw [nb]; simp [Nat.ne_of_gt h]
theorem nb_le : ∀ (k m : Nat), m < 256 ^ k → nb m ≤ k
  | 0, m, h => by have : m = 0 := by simpa using h
                  subst this; rw [nb_zero]; omega
  | k + 1, m, h => by
    rcases Nat.eq_zero_or_pos m with rfl | hm
    · rw [nb_zero]; omega
    · rw [nb_pos hm]
      have := nb_le k (m / 256) (by rw [Nat.div_lt_iff_lt_mul (by decide)]; rwa [Nat.pow_succ] at h)
      omega
theorem nb_le8 {m : Nat} (h : m < 18446744073709551616) : nb m ≤ 8 := by
  have e : 256 ^ 8 = 18446744073709551616 := by decide
  exact nb_le 8 m (by omega)
def numK (n : Int) : Nat := if n < 2 then 0 else nb (n.toNat - 1)
def numV (n : Int) (bs : List UInt8) : Int := if n < 2 then 0 else ((be (pad (numK n) bs) % n.toNat : Nat) : Int)
theorem or_byte {n : Nat} {b : UInt8} (h : n < 72057594037927936) : ibits .or .u64 ((n * 256 : Nat) : Int) (b.toNat : Int) = some ((n * 256 + b.toNat : Nat) : Int) := by
  have hb := b.toNat_lt
  simp only [ibits, Option.some.injEq]
  have e1 : (BitVec.ofInt IntKind.u64.bits ((n * 256 : Nat) : Int)).toNat = n * 256 := by
    simp only [IntKind.bits, BitVec.toNat_ofInt]
    omega
  have e2 : (BitVec.ofInt IntKind.u64.bits ((b.toNat : Nat) : Int)).toNat = b.toNat := by
    simp only [IntKind.bits, BitVec.toNat_ofInt]
    omega
  rw [BitVec.toNat_or, e1, e2]
  have e3 : n * 256 ||| b.toNat = n * 256 + b.toNat := by
    have := Nat.shiftLeft_add_eq_or_of_lt (i := 8) (b := b.toNat) (by omega) n
    rw [Nat.shiftLeft_eq] at this
    exact this.symm
  rw [e3]
  exact IntWalk.u64_in _ (by omega)
theorem shl8 {n : Nat} (h : n < 72057594037927936) : ishift .shl .u64 (n : Int) 8 = some ((n * 256 : Nat) : Int) := by
  have e : ishift .shl .u64 (n : Int) 8 = some (IntKind.u64.wrap ((n : Int) * 256)) := rfl
  rw [e, Option.some.injEq, IntWalk.u64_in _ (by omega)]
  omega
theorem shr8 {n : Nat} : ishift .shr .i64 (n : Int) 8 = some ((n / 256 : Nat) : Int) := by
  have e : ishift .shr .i64 (n : Int) 8 = some ((n : Int).fdiv 256) := rfl
  rw [e, Option.some.injEq, Int.fdiv_eq_ediv_of_nonneg _ (by decide)]
  omega


/-- A source of bytes: these are left. -/
def Src (W : World) (p : Nat) (bs : List UInt8) : Res := Res.ex fun a => Res.ex fun n => Res.ex fun c => Res.pre (n = bs.length ∧ bs.length ≤ c) (Res.sep [blk p [.bool true, .slice a n c] 51, rd W a (bytesV bs)])
theorem Src.open {W w : World} {R : List Res} {p : Nat} {bs : List UInt8} (h : Sat W w (Src W p bs :: R)) :
    ∃ (a : Option Addr) (n c : Nat), n = bs.length ∧ bs.length ≤ c ∧ Sat W w (blk p [.bool true, .slice a n c] 51 :: rd W a (bytesV bs) :: R) := by
  obtain ⟨a, h⟩ := h.ex_open; obtain ⟨n, h⟩ := h.ex_open; obtain ⟨c, h⟩ := h.ex_open; obtain ⟨⟨h1, h2⟩, h⟩ := h.pre_open
  exact ⟨a, n, c, h1, h2, h.sep_open⟩
theorem Src.shut {W w : World} {R : List Res} {p : Nat} {bs : List UInt8} {a : Option Addr} {n c : Nat} (h : Sat W w (blk p [.bool true, .slice a n c] 51 :: rd W a (bytesV bs) :: R)) (h1 : n = bs.length) (h2 : bs.length ≤ c) :
    Sat W w (Src W p bs :: R) :=
  Sat.ex_shut a (Sat.ex_shut n (Sat.ex_shut c (Sat.pre_shut ⟨h1, h2⟩ (Sat.sep_shut h))))
/-- The reference's: all its bytes, and the place. -/
def RSrc (W : World) (p T : Nat) (bs : List UInt8) : Res := Res.ex fun a => Res.ex fun n => Res.ex fun c => Res.ex fun (all : List UInt8) => Res.ex fun (k : Nat) =>
  Res.pre (n = all.length ∧ all.length ≤ c ∧ k ≤ all.length ∧ bs = all.drop k ∧ (all.length ≤ T ∧ T ≤ 140737488355328)) (Res.sep [blk p [.slice a n c, .int .i64 (k : Int)] 34, rd W a (bytesV all)])
theorem RSrc.open {W w : World} {R : List Res} {p T : Nat} {bs : List UInt8} (h : Sat W w (RSrc W p T bs :: R)) :
    ∃ (a : Option Addr) (n c : Nat) (all : List UInt8) (k : Nat), n = all.length ∧ all.length ≤ c ∧ k ≤ all.length ∧ bs = all.drop k ∧ (all.length ≤ T ∧ T ≤ 140737488355328) ∧ Sat W w (blk p [.slice a n c, .int .i64 (k : Int)] 34 :: rd W a (bytesV all) :: R) := by
  obtain ⟨a, h⟩ := h.ex_open; obtain ⟨n, h⟩ := h.ex_open; obtain ⟨c, h⟩ := h.ex_open; obtain ⟨all, h⟩ := h.ex_open; obtain ⟨k, h⟩ := h.ex_open; obtain ⟨⟨h1, h2, h3, h4, h5⟩, h⟩ := h.pre_open
  exact ⟨a, n, c, all, k, h1, h2, h3, h4, h5, h.sep_open⟩
theorem RSrc.shut {W w : World} {R : List Res} {p T : Nat} {bs : List UInt8} {a : Option Addr} {n c k : Nat} {all : List UInt8} (h : Sat W w (blk p [.slice a n c, .int .i64 (k : Int)] 34 :: rd W a (bytesV all) :: R))
    (h1 : n = all.length) (h2 : all.length ≤ c) (h3 : k ≤ all.length) (h4 : bs = all.drop k) (h5 : all.length ≤ T ∧ T ≤ 140737488355328) : Sat W w (RSrc W p T bs :: R) :=
  Sat.ex_shut a (Sat.ex_shut n (Sat.ex_shut c (Sat.ex_shut all (Sat.ex_shut k (Sat.pre_shut ⟨h1, h2, h3, h4, h5⟩ (Sat.sep_shut h))))))
theorem drop_headD (all : List UInt8) (k : Nat) (h : ¬ k < all.length) : (all.drop k).headD 0 = 0 := by rw [List.drop_of_length_le (by omega)]; rfl
theorem drop_tail' (all : List UInt8) (k : Nat) (h : ¬ k < all.length) : (all.drop k).tail = all.drop k := by rw [List.drop_of_length_le (by omega)]; rfl
theorem drop_head {all : List UInt8} {k : Nat} {x : UInt8} (h : all[k]? = some x) : (all.drop k).headD 0 = x := by
  rw [List.headD_eq_head?_getD, List.head?_drop, h]; rfl

set_option maxRecDepth 20000 in
theorem none_src {W w : World} {R : List Res} {p : Nat} {bs : List UInt8} (h : Sat W w (Src W p bs :: R)) :
    Calls Try.prog 69 #[(.pointer (some ⟨p, 0, none⟩))] w (Ret fun v w' => v = (.bool false) ∧ Sat W w' (Src W p bs :: R)) := by
  refine C.enter (N := 12) Try.func69 rfl Try.ntmps69 rfl ?_
  show C _ _ _ [(0, (.pointer (some ⟨p, 0, none⟩)))] _ _
  obtain ⟨a1, n2, c3, ho5, ho6, h4⟩ := Src.open h
  refine C.seq ?_
  refine C.region ?_
  refine G.yl (yl_assign rfl) rfl rfl rfl ?_
  refine G.nil ?_
  refine QA.then_normal ?_
  refine C.seq ?_
  refine C.region ?_
  refine G.yl (yl_move rfl) rfl rfl rfl ?_
  refine G.yl (yl_eq_nil (by kernel_rfl) rfl rfl) rfl rfl rfl ?_
  refine G.yl (yl_move rfl) rfl rfl rfl ?_
  refine G.on rfl rfl rfl ?_
  refine G.yl (yl_move rfl) rfl rfl rfl ?_
  refine G.on rfl rfl rfl ?_
  refine G.yl (yl_nilCheck rfl) rfl rfl rfl ?_
  refine G.on rfl rfl rfl ?_
  refine G.yl (yl_fieldAddr (off := 0) (by kernel_rfl) rfl) rfl rfl rfl ?_
  refine G.on rfl rfl rfl ?_
  refine G.yl (yl_load (by kernel_rfl) rfl (h4.isBlk.cell rfl)) rfl rfl rfl ?_
  refine G.on rfl rfl rfl ?_
  refine G.yl (yl_not rfl) rfl rfl rfl ?_
  refine G.yl (yl_pick_f rfl rfl rfl) rfl rfl rfl ?_
  refine G.yl (yl_assign rfl) rfl rfl rfl ?_
  refine G.nil ?_
  refine QA.then_normal ?_
  refine C.ret ?_
  refine QA.ret1 rfl rfl ?_
  exact ⟨rfl, Src.shut (sl_cast (by first | rfl | (simp; done) | (simp; omega)) ((h4.f1).f1)) (by first | omega | rfl | (simp only [bytesV_length, intsV_length, boolsV_length]; omega) | (simp [bytesV_length, intsV_length, boolsV_length]; done) | (simp [bytesV_length, intsV_length, boolsV_length]; omega) | (simp [maxLen, bytesV_length, intsV_length, boolsV_length] at *; omega)) (by first | omega | rfl | (simp only [bytesV_length, intsV_length, boolsV_length]; omega) | (simp [bytesV_length, intsV_length, boolsV_length]; done) | (simp [bytesV_length, intsV_length, boolsV_length]; omega) | (simp [maxLen, bytesV_length, intsV_length, boolsV_length] at *; omega))⟩
set_option maxRecDepth 20000 in
theorem byte_src {W w : World} {R : List Res} {p : Nat} {bs : List UInt8} (h : Sat W w (Src W p bs :: R)) :
    Calls Try.prog 19 #[(.pointer (some ⟨p, 0, none⟩))] w (Ret fun v w' => v = (.int .u8 ((bs.headD 0).toNat : Int)) ∧ Sat W w' (Src W p (bs.drop 1) :: R)) := by
  refine C.enter (N := 29) Try.func19 rfl Try.ntmps19 rfl ?_
  show C _ _ _ [(0, (.pointer (some ⟨p, 0, none⟩)))] _ _
  refine C.seq ?_
  refine C.region ?_
  refine G.yl (yl_assign rfl) rfl rfl rfl ?_
  refine G.nil ?_
  refine QA.then_normal ?_
  refine C.seq ?_
  refine C.seq ?_
  refine C.region ?_
  refine G.yl (yl_move rfl) rfl rfl rfl ?_
  refine G.does (does_call (F := 69) (args := [(.pointer (some ⟨p, 0, none⟩))]) rfl rfl rfl en69 (none_src (p := p) (bs := bs) h )) rfl rfl rfl ?_
  rintro _ w1 ⟨rfl, h2⟩
  refine G.yl (yl_move rfl) rfl rfl rfl ?_
  refine G.on rfl rfl rfl ?_
  refine G.yl (yl_move rfl) rfl rfl rfl ?_
  refine G.on rfl rfl rfl ?_
  refine G.yl (yl_nilCheck rfl) rfl rfl rfl ?_
  refine G.on rfl rfl rfl ?_
  obtain ⟨a3, n4, c5, ho7, ho8, h6⟩ := Src.open h2
  refine G.yl (yl_fieldAddr (off := 1) (by kernel_rfl) rfl) rfl rfl rfl ?_
  refine G.on rfl rfl rfl ?_
  refine G.yl (yl_load (by kernel_rfl) rfl (h6.isBlk.cell rfl)) rfl rfl rfl ?_
  refine G.on rfl rfl rfl ?_
  refine G.yl (yl_len Try.underlying22 rfl) rfl rfl rfl ?_
  refine G.on rfl rfl rfl ?_
  refine G.yl (yl_cmp rfl rfl rfl) rfl rfl rfl ?_
  refine G.yl (yl_pick_f rfl rfl rfl) rfl rfl rfl ?_
  refine G.nil ?_
  refine QA.then_normal ?_
  by_cases hc9 : ((n4 : Int) = 0)
  · refine C.cond_t rfl (beq_t hc9) ?_
    refine C.seq ?_
    refine C.region ?_
    refine G.yl (yl_assign rfl) rfl rfl rfl ?_
    refine G.nil ?_
    refine QA.then_normal ?_
    refine C.ret ?_
    refine QA.then_ret ?_
    refine QA.ret1 rfl rfl ?_
    have hb0 : bs = [] := List.eq_nil_of_length_eq_zero (by first | omega | rfl | (simp only [bytesV_length, intsV_length, boolsV_length]; omega) | (simp [bytesV_length, intsV_length, boolsV_length]; done) | (simp [bytesV_length, intsV_length, boolsV_length]; omega) | (simp [maxLen, bytesV_length, intsV_length, boolsV_length] at *; omega))
    subst hb0
    exact ⟨rfl, Src.shut (sl_cast (by first | rfl | (simp; done) | (simp; omega)) ((h6.f1).f1)) (by first | omega | rfl | (simp only [bytesV_length, intsV_length, boolsV_length]; omega) | (simp [bytesV_length, intsV_length, boolsV_length]; done) | (simp [bytesV_length, intsV_length, boolsV_length]; omega) | (simp [maxLen, bytesV_length, intsV_length, boolsV_length] at *; omega)) (by first | omega | rfl | (simp only [bytesV_length, intsV_length, boolsV_length]; omega) | (simp [bytesV_length, intsV_length, boolsV_length]; done) | (simp [bytesV_length, intsV_length, boolsV_length]; omega) | (simp [maxLen, bytesV_length, intsV_length, boolsV_length] at *; omega))⟩
  · refine C.cond_f rfl (beq_f hc9) ?_
    refine C.skip ?_
    refine QA.then_normal ?_
    refine C.seq ?_
    refine C.region ?_
    refine G.yl (yl_move rfl) rfl rfl rfl ?_
    refine G.yl (yl_nilCheck rfl) rfl rfl rfl ?_
    refine G.yl (yl_fieldAddr (off := 1) (by kernel_rfl) rfl) rfl rfl rfl ?_
    refine G.yl (yl_load (by kernel_rfl) rfl (h6.isBlk.cell rfl)) rfl rfl rfl ?_
    obtain ⟨b10, o11, rfl⟩ := open_bytes (h6.f1).rd_view (by first | omega | rfl | (simp only [bytesV_length, intsV_length, boolsV_length]; omega) | (simp [bytesV_length, intsV_length, boolsV_length]; done) | (simp [bytesV_length, intsV_length, boolsV_length]; omega) | (simp [maxLen, bytesV_length, intsV_length, boolsV_length] at *; omega))
    refine G.yl (yl_indexAddr (s := 1) (off := o11 + 0) (by kernel_rfl) (by kernel_rfl) rfl rfl (by first | omega | rfl | (simp only [bytesV_length, intsV_length, boolsV_length]; omega) | (simp [bytesV_length, intsV_length, boolsV_length]; done) | (simp [bytesV_length, intsV_length, boolsV_length]; omega) | (simp [maxLen, bytesV_length, intsV_length, boolsV_length] at *; omega)) (by first | omega | rfl | (simp only [bytesV_length, intsV_length, boolsV_length]; omega) | (simp [bytesV_length, intsV_length, boolsV_length]; done) | (simp [bytesV_length, intsV_length, boolsV_length]; omega) | (simp [maxLen, bytesV_length, intsV_length, boolsV_length] at *; omega))) rfl rfl rfl ?_
    obtain ⟨x12, hx13⟩ : ∃ x, bs[0]? = some x := ⟨_, List.getElem?_eq_getElem (by first | omega | rfl | (simp only [bytesV_length, intsV_length, boolsV_length]; omega) | (simp [bytesV_length, intsV_length, boolsV_length]; done) | (simp [bytesV_length, intsV_length, boolsV_length]; omega) | (simp [maxLen, bytesV_length, intsV_length, boolsV_length] at *; omega))⟩
    refine G.yl (yl_load (v := (.int .u8 (x12.toNat : Int))) (by kernel_rfl) rfl (View.at_ (h6.f1).rd_view (bytesV_get hx13))) rfl rfl rfl ?_
    refine G.yl (yl_assign rfl) rfl rfl rfl ?_
    refine G.nil ?_
    refine QA.then_normal ?_
    refine C.seq ?_
    refine C.region ?_
    refine G.yl (yl_move rfl) rfl rfl rfl ?_
    refine G.yl (yl_move rfl) rfl rfl rfl ?_
    refine G.yl (yl_nilCheck rfl) rfl rfl rfl ?_
    refine G.yl (yl_fieldAddr (off := 1) (by kernel_rfl) rfl) rfl rfl rfl ?_
    refine G.yl (yl_load (by kernel_rfl) rfl (h6.isBlk.cell rfl)) rfl rfl rfl ?_
    obtain ⟨a14, hcut15⟩ : ∃ p', Cut p' (some ⟨b10, o11, none⟩) c5 1 1 := Cut.mk _ _ _ _
    refine G.yl (yl_slice_l (s := 1) (by kernel_rfl) (by kernel_rfl) rfl rfl (l := 1) (by first | omega | rfl | (simp only [bytesV_length, intsV_length, boolsV_length]; omega) | (simp [bytesV_length, intsV_length, boolsV_length]; done) | (simp [bytesV_length, intsV_length, boolsV_length]; omega) | (simp [maxLen, bytesV_length, intsV_length, boolsV_length] at *; omega)) (by first | omega | rfl | (simp only [bytesV_length, intsV_length, boolsV_length]; omega) | (simp [bytesV_length, intsV_length, boolsV_length]; done) | (simp [bytesV_length, intsV_length, boolsV_length]; omega) | (simp [maxLen, bytesV_length, intsV_length, boolsV_length] at *; omega)) hcut15) rfl rfl rfl ?_
    refine G.yl (yl_nilCheck rfl) rfl rfl rfl ?_
    refine G.yl (yl_fieldAddr (off := 1) (by kernel_rfl) rfl) rfl rfl rfl ?_
    refine G.unit (does_store (n := 1) (vs := [(.slice a14 (n4 - 1) (c5 - 1))]) h6 (by kernel_rfl) rfl rfl rfl rfl (by simp [Value.oneCell']) (Nat.le_of_ble_eq_true rfl)) rfl rfl ?_
    rintro _ w16 h18
    have h17 : Sat W w16 (blk p [(.bool true), (.slice a14 (n4 - 1) (c5 - 1))] 51 :: rd W (some ⟨b10, o11, none⟩) (bytesV bs) :: R) := h18
    refine G.nil ?_
    refine QA.then_normal ?_
    refine C.seq ?_
    refine C.region ?_
    refine G.yl (yl_move rfl) rfl rfl rfl ?_
    refine G.yl (yl_assign rfl) rfl rfl rfl ?_
    refine G.nil ?_
    refine QA.then_normal ?_
    refine C.ret ?_
    refine QA.ret1 rfl rfl ?_
    have hx0 : bs.headD 0 = x12 := by cases bs with | nil => cases hx13 | cons a l => simp at hx13; simp [hx13]
    have h19 : Sat W w16 (rd W a14 (bytesV (bs.drop 1)) :: blk p [(.bool true), (.slice a14 (n4 - 1) (c5 - 1))] 51 :: R) := Sat.rd_cut_bytes (h17.f1) hcut15 (by first | omega | rfl | (simp only [bytesV_length, intsV_length, boolsV_length]; omega) | (simp [bytesV_length, intsV_length, boolsV_length]; done) | (simp [bytesV_length, intsV_length, boolsV_length]; omega) | (simp [maxLen, bytesV_length, intsV_length, boolsV_length] at *; omega))
    exact ⟨(by rw [hx0]), Src.shut (sl_cast (by first | rfl | (simp; done) | (simp; omega)) (h19.f1)) (by simp; omega) (by simp; omega)⟩
set_option maxRecDepth 20000 in
theorem byte_ref {W w : World} {R : List Res} {p T : Nat} {bs : List UInt8} (h : Sat W w (RSrc W p T bs :: R)) :
    Calls Try.prog 20 #[(.pointer (some ⟨p, 0, none⟩))] w (Ret fun v w' => v = (.int .u8 ((bs.headD 0).toNat : Int)) ∧ Sat W w' (RSrc W p T (bs.drop 1) :: R)) := by
  refine C.enter (N := 32) Try.func20 rfl Try.ntmps20 rfl ?_
  show C _ _ _ [(0, (.pointer (some ⟨p, 0, none⟩)))] _ _
  obtain ⟨a1, n2, c3, al5, k6, ho7, ho8, ho9, ho10, ho11, h4⟩ := RSrc.open h
  refine C.seq ?_
  refine C.region ?_
  refine G.yl (yl_assign rfl) rfl rfl rfl ?_
  refine G.nil ?_
  refine QA.then_normal ?_
  refine C.seq ?_
  refine C.seq ?_
  refine C.draw (S := fun w' => w'.cell? ⟨p, 0, none⟩ = some (.slice a1 n2 c3) ∧ w'.cell? ⟨p, 1, none⟩ = some (.int .i64 (k6 : Int)) ∧ View w' a1 (bytesV al5)) (n := 10) rfl h4 rfl rfl ?_
  intro w13 h14
  have hS15 : w13.cell? ⟨p, 0, none⟩ = some (.slice a1 n2 c3) ∧ w13.cell? ⟨p, 1, none⟩ = some (.int .i64 (k6 : Int)) ∧ View w13 a1 (bytesV al5) := ⟨h14.isBlk.cell rfl, h14.isBlk.cell rfl, (h14.f1).rd_view⟩
  refine GH.yl (i := 0) (listed' := #[true, false, false, false, false, false, false, false, false, false]) rfl (by kernel_rfl) (by kernel_rfl) (by kernel_rfl) rfl (NP.next (NP.next NP.body)) rfl rfl rfl (fun w' hw' => yl_move rfl) hS15 ?_
  refine GH.yl (i := 1) (listed' := #[true, true, false, false, false, false, false, false, false, false]) rfl (by kernel_rfl) (by kernel_rfl) (by kernel_rfl) rfl (NP.next (NP.next NP.body)) rfl rfl rfl (fun w' hw' => yl_nilCheck rfl) hS15 ?_
  refine GH.yl (i := 2) (listed' := #[true, true, true, false, false, false, false, false, false, false]) rfl (by kernel_rfl) (by kernel_rfl) (by kernel_rfl) rfl (NP.next (NP.next NP.body)) rfl rfl rfl (fun w' hw' => yl_fieldAddr (off := 1) (by kernel_rfl) rfl) hS15 ?_
  refine GH.yl (i := 3) (listed' := #[true, true, true, true, false, false, false, false, false, false]) rfl (by kernel_rfl) (by kernel_rfl) (by kernel_rfl) rfl (NP.next (NP.next NP.body)) rfl rfl rfl (fun w' hw' => yl_load (v := (.int .i64 (k6 : Int))) (by kernel_rfl) rfl hw'.2.1) hS15 ?_
  refine GH.yl (i := 4) (listed' := #[true, true, true, true, true, false, false, false, false, false]) rfl (by kernel_rfl) (by kernel_rfl) (by kernel_rfl) rfl (NP.next (NP.next NP.body)) rfl rfl rfl (fun w' hw' => yl_move rfl) hS15 ?_
  refine GH.yl (i := 5) (listed' := #[true, true, true, true, true, true, false, false, false, false]) rfl (by kernel_rfl) (by kernel_rfl) (by kernel_rfl) rfl (NP.next (NP.next NP.body)) rfl rfl rfl (fun w' hw' => yl_nilCheck rfl) hS15 ?_
  refine GH.yl (i := 6) (listed' := #[true, true, true, true, true, true, true, false, false, false]) rfl (by kernel_rfl) (by kernel_rfl) (by kernel_rfl) rfl (NP.next (NP.next NP.body)) rfl rfl rfl (fun w' hw' => yl_fieldAddr (off := 0) (by kernel_rfl) rfl) hS15 ?_
  refine GH.yl (i := 7) (listed' := #[true, true, true, true, true, true, true, true, false, false]) rfl (by kernel_rfl) (by kernel_rfl) (by kernel_rfl) rfl (NP.next (NP.next NP.body)) rfl rfl rfl (fun w' hw' => yl_load (v := (.slice a1 n2 c3)) (by kernel_rfl) rfl hw'.1) hS15 ?_
  refine GH.yl (i := 8) (listed' := #[true, true, true, true, true, true, true, true, true, false]) rfl (by kernel_rfl) (by kernel_rfl) (by kernel_rfl) rfl (NP.next (NP.next NP.body)) rfl rfl rfl (fun w' hw' => yl_len Try.underlying22 rfl) hS15 ?_
  refine GH.yl (i := 9) (listed' := #[true, true, true, true, true, true, true, true, true, true]) rfl (by kernel_rfl) (by kernel_rfl) (by kernel_rfl) rfl (NP.next (NP.next NP.body)) rfl rfl rfl (fun w' hw' => yl_cmp rfl rfl rfl) hS15 ?_
  refine GH.done (by kernel_rfl) ?_
  refine QA.then_normal ?_
  by_cases hc16 : ((k6 : Int) ≥ (n2 : Int))
  · refine C.cond_t rfl (decide_eq_true hc16) ?_
    refine C.seq ?_
    refine C.region ?_
    refine G.yl (yl_assign rfl) rfl rfl rfl ?_
    refine G.nil ?_
    refine QA.then_normal ?_
    refine C.ret ?_
    refine QA.then_ret ?_
    refine QA.ret1 rfl rfl ?_
    have hx0 := drop_headD al5 k6 (by omega)
    have hx1 : (al5.drop k6).drop 1 = al5.drop k6 := by rw [List.drop_one]; exact drop_tail' al5 k6 (by omega)
    exact ⟨(by rw [ho10, hx0]; rfl), RSrc.shut (sl_cast (by first | rfl | (simp; done) | (simp; omega)) ((h14.f1).f1)) (by first | omega | rfl | (simp only [bytesV_length, intsV_length, boolsV_length]; omega) | (simp [bytesV_length, intsV_length, boolsV_length]; done) | (simp [bytesV_length, intsV_length, boolsV_length]; omega) | (simp [maxLen, bytesV_length, intsV_length, boolsV_length] at *; omega)) (by first | omega | rfl | (simp only [bytesV_length, intsV_length, boolsV_length]; omega) | (simp [bytesV_length, intsV_length, boolsV_length]; done) | (simp [bytesV_length, intsV_length, boolsV_length]; omega) | (simp [maxLen, bytesV_length, intsV_length, boolsV_length] at *; omega)) (by first | omega | rfl | (simp only [bytesV_length, intsV_length, boolsV_length]; omega) | (simp [bytesV_length, intsV_length, boolsV_length]; done) | (simp [bytesV_length, intsV_length, boolsV_length]; omega) | (simp [maxLen, bytesV_length, intsV_length, boolsV_length] at *; omega)) (by rw [ho10, hx1]) (by first | omega | rfl | (simp only [bytesV_length, intsV_length, boolsV_length]; omega) | (simp [bytesV_length, intsV_length, boolsV_length]; done) | (simp [bytesV_length, intsV_length, boolsV_length]; omega) | (simp [maxLen, bytesV_length, intsV_length, boolsV_length] at *; omega))⟩
  · refine C.cond_f rfl (decide_eq_false hc16) ?_
    refine C.skip ?_
    refine QA.then_normal ?_
    refine C.seq ?_
    refine C.region ?_
    refine G.yl (yl_move rfl) rfl rfl rfl ?_
    refine G.yl (yl_move rfl) rfl rfl rfl ?_
    refine G.yl (yl_nilCheck rfl) rfl rfl rfl ?_
    refine G.yl (yl_fieldAddr (off := 1) (by kernel_rfl) rfl) rfl rfl rfl ?_
    refine G.yl (yl_load (by kernel_rfl) rfl (h14.isBlk.cell rfl)) rfl rfl rfl ?_
    refine G.yl (yl_arith rfl rfl (add64 (r := ((k6 + 1 : Nat) : Int)) (by first | omega | rfl | (simp only [bytesV_length, intsV_length, boolsV_length]; omega) | (simp [bytesV_length, intsV_length, boolsV_length]; done) | (simp [bytesV_length, intsV_length, boolsV_length]; omega) | (simp [maxLen, bytesV_length, intsV_length, boolsV_length] at *; omega)))) rfl rfl rfl ?_
    refine G.yl (yl_nilCheck rfl) rfl rfl rfl ?_
    refine G.yl (yl_fieldAddr (off := 1) (by kernel_rfl) rfl) rfl rfl rfl ?_
    refine G.unit (does_store (n := 1) (vs := [(.int .i64 ((k6 + 1 : Nat) : Int))]) h14 (by kernel_rfl) rfl rfl rfl rfl (by simp [Value.oneCell']) (Nat.le_of_ble_eq_true rfl)) rfl rfl ?_
    rintro _ w17 h19
    have h18 : Sat W w17 (blk p [(.slice a1 n2 c3), (.int .i64 ((k6 + 1 : Nat) : Int))] 34 :: rd W a1 (bytesV al5) :: R) := h19
    refine G.nil ?_
    refine QA.then_normal ?_
    refine C.seq ?_
    refine C.draw (S := fun w' => w'.cell? ⟨p, 0, none⟩ = some (.slice a1 n2 c3) ∧ w'.cell? ⟨p, 1, none⟩ = some (.int .i64 ((k6 + 1 : Nat) : Int)) ∧ View w' a1 (bytesV al5)) (n := 12) rfl h18 rfl rfl ?_
    intro w21 h22
    have hS23 : w21.cell? ⟨p, 0, none⟩ = some (.slice a1 n2 c3) ∧ w21.cell? ⟨p, 1, none⟩ = some (.int .i64 ((k6 + 1 : Nat) : Int)) ∧ View w21 a1 (bytesV al5) := ⟨h22.isBlk.cell rfl, h22.isBlk.cell rfl, (h22.f1).rd_view⟩
    refine GH.yl (i := 0) (listed' := #[true, false, false, false, false, false, false, false, false, false, false, false]) rfl (by kernel_rfl) (by kernel_rfl) (by kernel_rfl) rfl (NP.next NP.body) rfl rfl rfl (fun w' hw' => yl_move rfl) hS23 ?_
    refine GH.yl (i := 1) (listed' := #[true, true, false, false, false, false, false, false, false, false, false, false]) rfl (by kernel_rfl) (by kernel_rfl) (by kernel_rfl) rfl (NP.next NP.body) rfl rfl rfl (fun w' hw' => yl_nilCheck rfl) hS23 ?_
    refine GH.yl (i := 2) (listed' := #[true, true, true, false, false, false, false, false, false, false, false, false]) rfl (by kernel_rfl) (by kernel_rfl) (by kernel_rfl) rfl (NP.next NP.body) rfl rfl rfl (fun w' hw' => yl_fieldAddr (off := 0) (by kernel_rfl) rfl) hS23 ?_
    refine GH.yl (i := 3) (listed' := #[true, true, true, true, false, false, false, false, false, false, false, false]) rfl (by kernel_rfl) (by kernel_rfl) (by kernel_rfl) rfl (NP.next NP.body) rfl rfl rfl (fun w' hw' => yl_load (v := (.slice a1 n2 c3)) (by kernel_rfl) rfl hw'.1) hS23 ?_
    refine GH.yl (i := 4) (listed' := #[true, true, true, true, true, false, false, false, false, false, false, false]) rfl (by kernel_rfl) (by kernel_rfl) (by kernel_rfl) rfl (NP.next NP.body) rfl rfl rfl (fun w' hw' => yl_move rfl) hS23 ?_
    refine GH.yl (i := 5) (listed' := #[true, true, true, true, true, true, false, false, false, false, false, false]) rfl (by kernel_rfl) (by kernel_rfl) (by kernel_rfl) rfl (NP.next NP.body) rfl rfl rfl (fun w' hw' => yl_nilCheck rfl) hS23 ?_
    refine GH.yl (i := 6) (listed' := #[true, true, true, true, true, true, true, false, false, false, false, false]) rfl (by kernel_rfl) (by kernel_rfl) (by kernel_rfl) rfl (NP.next NP.body) rfl rfl rfl (fun w' hw' => yl_fieldAddr (off := 1) (by kernel_rfl) rfl) hS23 ?_
    refine GH.yl (i := 7) (listed' := #[true, true, true, true, true, true, true, true, false, false, false, false]) rfl (by kernel_rfl) (by kernel_rfl) (by kernel_rfl) rfl (NP.next NP.body) rfl rfl rfl (fun w' hw' => yl_load (v := (.int .i64 ((k6 + 1 : Nat) : Int))) (by kernel_rfl) rfl hw'.2.1) hS23 ?_
    refine GH.yl (i := 8) (listed' := #[true, true, true, true, true, true, true, true, true, false, false, false]) rfl (by kernel_rfl) (by kernel_rfl) (by kernel_rfl) rfl (NP.next NP.body) rfl rfl rfl (fun w' hw' => yl_arith rfl rfl (sub64 (r := (k6 : Int)) (by first | omega | rfl | (simp only [bytesV_length, intsV_length, boolsV_length]; omega) | (simp [bytesV_length, intsV_length, boolsV_length]; done) | (simp [bytesV_length, intsV_length, boolsV_length]; omega) | (simp [maxLen, bytesV_length, intsV_length, boolsV_length] at *; omega)))) hS23 ?_
    obtain ⟨b24, o25, rfl⟩ := open_bytes (h22.f1).rd_view (by first | omega | rfl | (simp only [bytesV_length, intsV_length, boolsV_length]; omega) | (simp [bytesV_length, intsV_length, boolsV_length]; done) | (simp [bytesV_length, intsV_length, boolsV_length]; omega) | (simp [maxLen, bytesV_length, intsV_length, boolsV_length] at *; omega))
    refine GH.yl (i := 9) (listed' := #[true, true, true, true, true, true, true, true, true, true, false, false]) rfl (by kernel_rfl) (by kernel_rfl) (by kernel_rfl) rfl (NP.next NP.body) rfl rfl rfl (fun w' hw' => yl_indexAddr (s := 1) (off := o25 + k6) (by kernel_rfl) (by kernel_rfl) rfl rfl (by first | omega | rfl | (simp only [bytesV_length, intsV_length, boolsV_length]; omega) | (simp [bytesV_length, intsV_length, boolsV_length]; done) | (simp [bytesV_length, intsV_length, boolsV_length]; omega) | (simp [maxLen, bytesV_length, intsV_length, boolsV_length] at *; omega)) (by first | omega | rfl | (simp only [bytesV_length, intsV_length, boolsV_length]; omega) | (simp [bytesV_length, intsV_length, boolsV_length]; done) | (simp [bytesV_length, intsV_length, boolsV_length]; omega) | (simp [maxLen, bytesV_length, intsV_length, boolsV_length] at *; omega))) hS23 ?_
    obtain ⟨x26, hx27⟩ : ∃ x, al5[k6]? = some x := ⟨_, List.getElem?_eq_getElem (by first | omega | rfl | (simp only [bytesV_length, intsV_length, boolsV_length]; omega) | (simp [bytesV_length, intsV_length, boolsV_length]; done) | (simp [bytesV_length, intsV_length, boolsV_length]; omega) | (simp [maxLen, bytesV_length, intsV_length, boolsV_length] at *; omega))⟩
    refine GH.yl (i := 10) (listed' := #[true, true, true, true, true, true, true, true, true, true, true, false]) rfl (by kernel_rfl) (by kernel_rfl) (by kernel_rfl) rfl (NP.next NP.body) rfl rfl rfl (fun w' hw' => yl_load (v := (.int .u8 (x26.toNat : Int))) (by kernel_rfl) rfl (View.at_ hw'.2.2 (bytesV_get hx27))) hS23 ?_
    refine GH.yl (i := 11) (listed' := #[true, true, true, true, true, true, true, true, true, true, true, true]) rfl (by kernel_rfl) (by kernel_rfl) (by kernel_rfl) rfl (NP.next NP.body) rfl rfl rfl (fun w' hw' => yl_assign rfl) hS23 ?_
    refine GH.done (by kernel_rfl) ?_
    refine QA.then_normal ?_
    refine C.ret ?_
    refine QA.ret1 rfl rfl ?_
    exact ⟨(by rw [ho10, drop_head hx27]), RSrc.shut (sl_cast (by first | rfl | (simp; done) | (simp; omega)) ((h22.f1).f1)) (by first | omega | rfl | (simp only [bytesV_length, intsV_length, boolsV_length]; omega) | (simp [bytesV_length, intsV_length, boolsV_length]; done) | (simp [bytesV_length, intsV_length, boolsV_length]; omega) | (simp [maxLen, bytesV_length, intsV_length, boolsV_length] at *; omega)) (by first | omega | rfl | (simp only [bytesV_length, intsV_length, boolsV_length]; omega) | (simp [bytesV_length, intsV_length, boolsV_length]; done) | (simp [bytesV_length, intsV_length, boolsV_length]; omega) | (simp [maxLen, bytesV_length, intsV_length, boolsV_length] at *; omega)) (by first | omega | rfl | (simp only [bytesV_length, intsV_length, boolsV_length]; omega) | (simp [bytesV_length, intsV_length, boolsV_length]; done) | (simp [bytesV_length, intsV_length, boolsV_length]; omega) | (simp [maxLen, bytesV_length, intsV_length, boolsV_length] at *; omega)) (by rw [ho10, List.drop_drop]) (by first | omega | rfl | (simp only [bytesV_length, intsV_length, boolsV_length]; omega) | (simp [bytesV_length, intsV_length, boolsV_length]; done) | (simp [bytesV_length, intsV_length, boolsV_length]; omega) | (simp [maxLen, bytesV_length, intsV_length, boolsV_length] at *; omega))⟩
set_option maxRecDepth 20000 in
theorem number_src {W w : World} {R : List Res} {p m : Nat} {bs : List UInt8} (h : Sat W w (Src W p bs :: R)) (hm : m ≤ 8) :
    Calls Try.prog 68 #[(.int .i64 (m : Int)), (.func (.func 19) #[(.pointer (some ⟨p, 0, none⟩))] #[])] w (Ret fun v w' => v = (.int .u64 (be (pad m bs) : Int)) ∧ Sat W w' (Src W p (bs.drop m) :: R)) := by
  refine C.enter (N := 16) Try.func68 rfl Try.ntmps68 rfl ?_
  show C _ _ _ [(0, (.int .i64 (m : Int))), (1, (.func (.func 19) #[(.pointer (some ⟨p, 0, none⟩))] #[]))] _ _
  refine C.seq ?_
  refine C.region ?_
  refine G.yl (yl_assign rfl) rfl rfl rfl ?_
  refine G.nil ?_
  refine QA.then_normal ?_
  refine C.seq ?_
  refine C.seq ?_
  refine C.region ?_
  refine G.yl (yl_move rfl) rfl rfl rfl ?_
  refine G.yl (yl_move rfl) rfl rfl rfl ?_
  refine G.nil ?_
  refine QA.then_normal ?_
  refine C.block ?_
  refine C.loop (fun (k : Nat) => [(1, (.func (.func 19) #[(.pointer (some ⟨p, 0, none⟩))] #[])), (4, (.int .u64 (be (pad k bs) : Int))), (5, (.int .i64 (m : Int))), (6, (.int .i64 (k : Int)))]) (fun (k : Nat) (ww : World) => (k ≤ m) ∧ Sat W ww (Src W p (bs.drop k) :: R)) (fun (k : Nat) => m - k) (0) (Sub.cons rfl (Sub.cons (look_int rfl (by first | rfl | omega | (simp; omega) | simp)) (Sub.cons rfl (Sub.cons (look_int rfl (by first | rfl | omega | (simp; omega) | simp)) (Sub.nil _))))) ⟨Nat.zero_le _, (sl_cast (by first | rfl | (simp; done) | (simp; omega)) h)⟩ ?_
  rintro k w1 ⟨hk, h2⟩
  show C _ _ _ [(1, (.func (.func 19) #[(.pointer (some ⟨p, 0, none⟩))] #[])), (4, (.int .u64 (be (pad k bs) : Int))), (5, (.int .i64 (m : Int))), (6, (.int .i64 (k : Int)))] _ _
  refine C.seq ?_
  refine C.region ?_
  refine G.yl (yl_cmp rfl rfl rfl) rfl rfl rfl ?_
  refine G.nil ?_
  refine QA.then_normal ?_
  refine C.seq ?_
  by_cases hc3 : ((k : Int) < (m : Int))
  · refine C.cond_t rfl (decide_eq_true hc3) ?_
    refine C.skip ?_
    refine QA.then_normal ?_
    refine C.seq ?_
    refine C.block ?_
    refine C.region ?_
    refine G.yl (yl_move rfl) rfl rfl rfl ?_
    refine G.yl (yl_shift rfl rfl (by decide) (shl8 (be_small bs (by omega)))) rfl rfl rfl ?_
    refine G.yl (yl_move rfl) rfl rfl rfl ?_
    refine G.does (does_call (F := 19) (args := [(.pointer (some ⟨p, 0, none⟩))]) rfl rfl rfl en19 (byte_src (p := p) (bs := bs.drop k) h2 )) rfl rfl rfl ?_
    rintro _ w4 ⟨rfl, h5⟩
    refine G.yl (yl_conv rfl Try.underlying112 rfl (IntWalk.u64_in _ (by have := UInt8.toNat_lt ((bs.drop k).headD 0); omega))) rfl rfl rfl ?_
    refine G.yl (yl_bits rfl rfl (or_byte (be_small bs (by omega)))) rfl rfl rfl ?_
    refine G.yl (yl_assign rfl) rfl rfl rfl ?_
    refine G.nil ?_
    refine QA.block_normal ?_
    refine QA.then_normal ?_
    refine C.region ?_
    refine G.yl (yl_arith rfl rfl (add64 (r := ((k + 1 : Nat) : Int)) (by first | omega | rfl | (simp only [bytesV_length, intsV_length, boolsV_length]; omega) | (simp [bytesV_length, intsV_length, boolsV_length]; done) | (simp [bytesV_length, intsV_length, boolsV_length]; omega) | (simp [maxLen, bytesV_length, intsV_length, boolsV_length] at *; omega)))) rfl rfl rfl ?_
    refine G.yl (yl_move rfl) rfl rfl rfl ?_
    refine G.nil ?_
    exact QA.again (k + 1) (Sub.cons rfl (Sub.cons (look_eq rfl (by rw [be_pad_succ, getD_drop])) (Sub.cons rfl (Sub.cons (look_int rfl (by first | rfl | omega | (simp; omega) | simp)) (Sub.nil _))))) ⟨(by omega), (sl_cast (by first | rfl | (simp; done) | (simp; omega)) h5)⟩ (by first | omega | (dsimp only; omega) | (simp; omega) | (simp; done))
  · refine C.cond_f rfl (decide_eq_false hc3) ?_
    refine C.exit ?_
    refine QA.then_exit ?_
    refine QA.then_exit ?_
    refine QA.block_here ?_
    refine QA.then_normal ?_
    refine C.seq ?_
    refine C.region ?_
    refine G.yl (yl_move rfl) rfl rfl rfl ?_
    refine G.yl (yl_assign rfl) rfl rfl rfl ?_
    refine G.nil ?_
    refine QA.then_normal ?_
    refine C.ret ?_
    refine QA.ret1 rfl rfl ?_
    obtain rfl : k = m := by omega
    exact ⟨rfl, (sl_cast (by first | rfl | (simp; done) | (simp; omega)) h2)⟩

theorem num_eq {n : Int} {bs : List UInt8} {k : Nat} (h2 : ¬ n < 2) (hk : nb 0 + k = nb (n.toNat - 1)) : ((be (pad k bs) : Nat) : Int) % n = numV n bs ∧ k = numK n := by
  rw [nb_zero, Nat.zero_add] at hk
  unfold numV numK
  rw [if_neg h2, if_neg h2, ← hk]
  refine ⟨?_, rfl⟩
  have h3 : n = ((n.toNat : Nat) : Int) := by omega
  have h4 : ((be (pad k bs) : Nat) : Int) % n = ((be (pad k bs) : Nat) : Int) % ((n.toNat : Nat) : Int) := by rw [← h3]
  rw [h4]; rfl
theorem nb_num {n : Int} (h : n ≤ 9223372036854775807) : nb (n.toNat - 1) ≤ 8 := nb_le8 (by omega)
theorem rem_range {a n : Int} (h : 2 ≤ n) (h' : n ≤ 9223372036854775807) : -9223372036854775808 ≤ a % n ∧ a % n ≤ 9223372036854775807 := by
  have h1 := Int.emod_lt_of_pos a (show 0 < n by omega)
  have h2 := Int.emod_nonneg a (show n ≠ 0 by omega)
  omega

set_option maxRecDepth 20000 in
theorem num_src {W w : World} {R : List Res} {p : Nat} {n : Int} {bs : List UInt8} (h : Sat W w (Src W p bs :: R)) (hn : n ≤ 9223372036854775807) :
    Calls Try.prog 16 #[(.pointer (some ⟨p, 0, none⟩)), (.int .i64 n)] w (Ret fun v w' => v = (.int .i64 (numV n bs)) ∧ Sat W w' (Src W p (bs.drop (numK n)) :: R)) := by
  refine C.enter (N := 27) Try.func16 rfl Try.ntmps16 rfl ?_
  show C _ _ _ [(0, (.pointer (some ⟨p, 0, none⟩))), (1, (.int .i64 n))] _ _
  refine C.seq ?_
  refine C.region ?_
  refine G.yl (yl_assign rfl) rfl rfl rfl ?_
  refine G.nil ?_
  refine QA.then_normal ?_
  refine C.seq ?_
  refine C.seq ?_
  refine C.region ?_
  refine G.yl (yl_move rfl) rfl rfl rfl ?_
  refine G.yl (yl_cmp rfl rfl rfl) rfl rfl rfl ?_
  refine G.nil ?_
  refine QA.then_normal ?_
  by_cases hc1 : (n < 2)
  · refine C.cond_t rfl (decide_eq_true hc1) ?_
    refine C.seq ?_
    refine C.region ?_
    refine G.yl (yl_assign rfl) rfl rfl rfl ?_
    refine G.nil ?_
    refine QA.then_normal ?_
    refine C.ret ?_
    refine QA.then_ret ?_
    refine QA.ret1 rfl rfl ?_
    exact ⟨(by unfold numV; rw [if_pos (by assumption)]), (sl_cast (by unfold numK; rw [if_pos (by assumption)]; rfl) h)⟩
  · refine C.cond_f rfl (decide_eq_false hc1) ?_
    refine C.skip ?_
    refine QA.then_normal ?_
    refine C.seq ?_
    refine C.region ?_
    refine G.yl (yl_assign rfl) rfl rfl rfl ?_
    refine G.nil ?_
    refine QA.then_normal ?_
    refine C.seq ?_
    refine C.seq ?_
    refine C.region ?_
    refine G.yl (yl_move rfl) rfl rfl rfl ?_
    refine G.yl (yl_arith rfl rfl (sub64 (r := n - 1) (by first | omega | rfl | (simp only [bytesV_length, intsV_length, boolsV_length]; omega) | (simp [bytesV_length, intsV_length, boolsV_length]; done) | (simp [bytesV_length, intsV_length, boolsV_length]; omega) | (simp [maxLen, bytesV_length, intsV_length, boolsV_length] at *; omega)))) rfl rfl rfl ?_
    refine G.yl (yl_assign rfl) rfl rfl rfl ?_
    refine G.nil ?_
    refine QA.then_normal ?_
    refine C.block ?_
    refine C.loop (fun (g : Nat × Nat) => match g with | (k, mm) => [(0, (.pointer (some ⟨p, 0, none⟩))), (1, (.int .i64 n)), (5, (.int .i64 (k : Int))), (6, (.int .i64 (mm : Int)))]) (fun (g : Nat × Nat) (ww : World) => match g with | (k, mm) => (nb mm + k = nb (n.toNat - 1)) ∧ (mm ≤ 9223372036854775807) ∧ (nb (n.toNat - 1) ≤ 8) ∧ Sat W ww (Src W p bs :: R)) (fun (g : Nat × Nat) => match g with | (k, mm) => mm) (0, n.toNat - 1) (Sub.cons rfl (Sub.cons rfl (Sub.cons (look_int rfl (by first | rfl | omega | (simp; omega) | simp)) (Sub.cons (look_int rfl (by first | rfl | omega | (simp; omega) | simp)) (Sub.nil _))))) ⟨(by omega), (by omega), (nb_num hn), (sl_cast (by first | rfl | (simp; done) | (simp; omega)) h)⟩ ?_
    rintro ⟨k, mm⟩ w2 ⟨hk, hmm, hk8, h3⟩
    show C _ _ _ [(0, (.pointer (some ⟨p, 0, none⟩))), (1, (.int .i64 n)), (5, (.int .i64 (k : Int))), (6, (.int .i64 (mm : Int)))] _ _
    refine C.seq ?_
    refine C.seq ?_
    refine C.region ?_
    refine G.yl (yl_move rfl) rfl rfl rfl ?_
    refine G.yl (yl_cmp rfl rfl rfl) rfl rfl rfl ?_
    refine G.nil ?_
    refine QA.then_normal ?_
    by_cases hc4 : ((mm : Int) > 0)
    · refine C.cond_t rfl (decide_eq_true hc4) ?_
      refine C.skip ?_
      refine QA.then_normal ?_
      refine C.seq ?_
      refine C.block ?_
      refine C.region ?_
      refine G.yl (yl_move rfl) rfl rfl rfl ?_
      refine G.yl (yl_arith rfl rfl (add64 (r := ((k + 1 : Nat) : Int)) (by first | omega | rfl | (simp only [bytesV_length, intsV_length, boolsV_length]; omega) | (simp [bytesV_length, intsV_length, boolsV_length]; done) | (simp [bytesV_length, intsV_length, boolsV_length]; omega) | (simp [maxLen, bytesV_length, intsV_length, boolsV_length] at *; omega)))) rfl rfl rfl ?_
      refine G.yl (yl_assign rfl) rfl rfl rfl ?_
      refine G.nil ?_
      refine QA.block_normal ?_
      refine QA.then_normal ?_
      refine C.region ?_
      refine G.yl (yl_move rfl) rfl rfl rfl ?_
      refine G.yl (yl_shift rfl rfl (by decide) shr8) rfl rfl rfl ?_
      refine G.yl (yl_assign rfl) rfl rfl rfl ?_
      refine G.nil ?_
      exact QA.again (k + 1, mm / 256) (Sub.cons rfl (Sub.cons rfl (Sub.cons (look_int rfl (by first | rfl | omega | (simp; omega) | simp)) (Sub.cons (look_int rfl (by first | rfl | omega | (simp; omega) | simp)) (Sub.nil _))))) ⟨(by have := nb_pos (m := mm) (by omega); omega), (by omega), hk8, (sl_cast (by first | rfl | (simp; done) | (simp; omega)) h3)⟩ (by first | omega | (dsimp only; omega) | (simp; omega) | (simp; done))
    · refine C.cond_f rfl (decide_eq_false hc4) ?_
      refine C.exit ?_
      refine QA.then_exit ?_
      refine QA.then_exit ?_
      refine QA.block_here ?_
      refine QA.then_normal ?_
      refine C.seq ?_
      refine C.region ?_
      refine G.yl (yl_move rfl) rfl rfl rfl ?_
      refine G.yl (yl_func rfl rfl) rfl rfl rfl ?_
      refine G.yl (yl_assign rfl) rfl rfl rfl ?_
      refine G.nil ?_
      refine QA.then_normal ?_
      refine C.seq ?_
      refine C.region ?_
      refine G.yl (yl_move rfl) rfl rfl rfl ?_
      refine G.yl (yl_move rfl) rfl rfl rfl ?_
      refine G.does (does_call (F := 68) (args := [(.int .i64 (k : Int)), (.func (.func 19) #[(.pointer (some ⟨p, 0, none⟩))] #[])]) rfl rfl rfl en68 (number_src (m := k) (p := p) (bs := bs) h3 (by first | omega | rfl | (simp only [bytesV_length, intsV_length, boolsV_length]; omega) | (simp [bytesV_length, intsV_length, boolsV_length]; done) | (simp [bytesV_length, intsV_length, boolsV_length]; omega) | (simp [maxLen, bytesV_length, intsV_length, boolsV_length] at *; omega)))) rfl rfl rfl ?_
      rintro _ w5 ⟨rfl, h6⟩
      refine G.yl (yl_move rfl) rfl rfl rfl ?_
      refine G.yl (yl_conv rfl Try.underlying112 rfl (IntWalk.u64_in _ (by first | omega | rfl | (simp only [bytesV_length, intsV_length, boolsV_length]; omega) | (simp [bytesV_length, intsV_length, boolsV_length]; done) | (simp [bytesV_length, intsV_length, boolsV_length]; omega) | (simp [maxLen, bytesV_length, intsV_length, boolsV_length] at *; omega)))) rfl rfl rfl ?_
      refine G.yl (yl_div rfl rfl (by first | omega | rfl | (simp only [bytesV_length, intsV_length, boolsV_length]; omega) | (simp [bytesV_length, intsV_length, boolsV_length]; done) | (simp [bytesV_length, intsV_length, boolsV_length]; omega) | (simp [maxLen, bytesV_length, intsV_length, boolsV_length] at *; omega)) (rem_nat (by first | omega | rfl | (simp only [bytesV_length, intsV_length, boolsV_length]; omega) | (simp [bytesV_length, intsV_length, boolsV_length]; done) | (simp [bytesV_length, intsV_length, boolsV_length]; omega) | (simp [maxLen, bytesV_length, intsV_length, boolsV_length] at *; omega)))) rfl rfl rfl ?_
      refine G.yl (yl_conv rfl Try.underlying3 rfl (IntWalk.i64_in _ (rem_range (by omega) (by omega)))) rfl rfl rfl ?_
      refine G.yl (yl_assign rfl) rfl rfl rfl ?_
      refine G.nil ?_
      refine QA.then_normal ?_
      refine C.ret ?_
      refine QA.ret1 rfl rfl ?_
      obtain rfl : mm = 0 := by omega
      obtain ⟨hv1, hv2⟩ := num_eq (bs := bs) (by assumption) hk
      exact ⟨(by rw [hv1]), (sl_cast (by rw [hv2]) h6)⟩
set_option maxRecDepth 20000 in
theorem num_ref {W w : World} {R : List Res} {p T : Nat} {n : Int} {bs : List UInt8} (h : Sat W w (RSrc W p T bs :: R)) (hn : n ≤ 9223372036854775807) :
    Calls Try.prog 21 #[(.pointer (some ⟨p, 0, none⟩)), (.int .i64 n)] w (Ret fun v w' => v = (.int .i64 (numV n bs)) ∧ Sat W w' (RSrc W p T (bs.drop (numK n)) :: R)) := by
  refine C.enter (N := 27) Try.func21 rfl Try.ntmps21 rfl ?_
  show C _ _ _ [(0, (.pointer (some ⟨p, 0, none⟩))), (1, (.int .i64 n))] _ _
  refine C.seq ?_
  refine C.region ?_
  refine G.yl (yl_assign rfl) rfl rfl rfl ?_
  refine G.nil ?_
  refine QA.then_normal ?_
  refine C.seq ?_
  refine C.seq ?_
  refine C.region ?_
  refine G.yl (yl_move rfl) rfl rfl rfl ?_
  refine G.yl (yl_cmp rfl rfl rfl) rfl rfl rfl ?_
  refine G.nil ?_
  refine QA.then_normal ?_
  by_cases hc1 : (n < 2)
  · refine C.cond_t rfl (decide_eq_true hc1) ?_
    refine C.seq ?_
    refine C.region ?_
    refine G.yl (yl_assign rfl) rfl rfl rfl ?_
    refine G.nil ?_
    refine QA.then_normal ?_
    refine C.ret ?_
    refine QA.then_ret ?_
    refine QA.ret1 rfl rfl ?_
    exact ⟨(by unfold numV; rw [if_pos (by assumption)]), (sl_cast (by unfold numK; rw [if_pos (by assumption)]; rfl) h)⟩
  · refine C.cond_f rfl (decide_eq_false hc1) ?_
    refine C.skip ?_
    refine QA.then_normal ?_
    refine C.seq ?_
    refine C.region ?_
    refine G.yl (yl_assign rfl) rfl rfl rfl ?_
    refine G.nil ?_
    refine QA.then_normal ?_
    refine C.seq ?_
    refine C.seq ?_
    refine C.region ?_
    refine G.yl (yl_move rfl) rfl rfl rfl ?_
    refine G.yl (yl_arith rfl rfl (sub64 (r := n - 1) (by first | omega | rfl | (simp only [bytesV_length, intsV_length, boolsV_length]; omega) | (simp [bytesV_length, intsV_length, boolsV_length]; done) | (simp [bytesV_length, intsV_length, boolsV_length]; omega) | (simp [maxLen, bytesV_length, intsV_length, boolsV_length] at *; omega)))) rfl rfl rfl ?_
    refine G.yl (yl_conv rfl Try.underlying112 rfl (IntWalk.u64_in _ (by first | omega | rfl | (simp only [bytesV_length, intsV_length, boolsV_length]; omega) | (simp [bytesV_length, intsV_length, boolsV_length]; done) | (simp [bytesV_length, intsV_length, boolsV_length]; omega) | (simp [maxLen, bytesV_length, intsV_length, boolsV_length] at *; omega)))) rfl rfl rfl ?_
    refine G.yl (yl_assign rfl) rfl rfl rfl ?_
    refine G.nil ?_
    refine QA.then_normal ?_
    refine C.block ?_
    refine C.loop (fun (g : Nat × Nat) => match g with | (k, mm) => [(0, (.pointer (some ⟨p, 0, none⟩))), (1, (.int .i64 n)), (5, (.int .u64 (be (pad k bs) : Int))), (6, (.int .u64 (mm : Int)))]) (fun (g : Nat × Nat) (ww : World) => match g with | (k, mm) => (nb mm + k = nb (n.toNat - 1)) ∧ (mm ≤ 9223372036854775807) ∧ (nb (n.toNat - 1) ≤ 8) ∧ Sat W ww (RSrc W p T (bs.drop k) :: R)) (fun (g : Nat × Nat) => match g with | (k, mm) => mm) (0, n.toNat - 1) (Sub.cons rfl (Sub.cons rfl (Sub.cons (look_int rfl (by first | rfl | omega | (simp; omega) | simp)) (Sub.cons (look_int rfl (by first | rfl | omega | (simp; omega) | simp)) (Sub.nil _))))) ⟨(by omega), (by omega), (nb_num hn), (sl_cast (by first | rfl | (simp; done) | (simp; omega)) h)⟩ ?_
    rintro ⟨k, mm⟩ w2 ⟨hk, hmm, hk8, h3⟩
    show C _ _ _ [(0, (.pointer (some ⟨p, 0, none⟩))), (1, (.int .i64 n)), (5, (.int .u64 (be (pad k bs) : Int))), (6, (.int .u64 (mm : Int)))] _ _
    refine C.seq ?_
    refine C.seq ?_
    refine C.region ?_
    refine G.yl (yl_move rfl) rfl rfl rfl ?_
    refine G.yl (yl_cmp rfl rfl rfl) rfl rfl rfl ?_
    refine G.nil ?_
    refine QA.then_normal ?_
    by_cases hc4 : ((mm : Int) > 0)
    · refine C.cond_t rfl (decide_eq_true hc4) ?_
      refine C.skip ?_
      refine QA.then_normal ?_
      refine C.seq ?_
      refine C.block ?_
      refine C.region ?_
      refine G.yl (yl_move rfl) rfl rfl rfl ?_
      have hk7 : k ≤ 7 := by have := nb_pos (m := mm) (by omega); omega
      have hbs := be_small bs hk7
      refine G.yl (yl_arith rfl rfl (mulu64 (r := ((be (pad k bs) * 256 : Nat) : Int)) (by omega) (by omega))) rfl rfl rfl ?_
      refine G.yl (yl_move rfl) rfl rfl rfl ?_
      refine G.does (does_call (F := 20) (args := [(.pointer (some ⟨p, 0, none⟩))]) rfl rfl rfl en20 (byte_ref (p := p) (T := T) (bs := bs.drop k) h3 )) rfl rfl rfl ?_
      rintro _ w5 ⟨rfl, h6⟩
      refine G.yl (yl_conv rfl Try.underlying112 rfl (IntWalk.u64_in _ (by have := UInt8.toNat_lt ((bs.drop k).headD 0); omega))) rfl rfl rfl ?_
      refine G.yl (yl_arith rfl rfl (addu64 (r := ((be (pad k bs) * 256 + ((bs.drop k).headD 0).toNat : Nat) : Int)) (by have := UInt8.toNat_lt ((bs.drop k).headD 0); omega))) rfl rfl rfl ?_
      refine G.yl (yl_assign rfl) rfl rfl rfl ?_
      refine G.nil ?_
      refine QA.block_normal ?_
      refine QA.then_normal ?_
      refine C.region ?_
      refine G.yl (yl_move rfl) rfl rfl rfl ?_
      refine G.yl (yl_div rfl rfl (by first | omega | rfl | (simp only [bytesV_length, intsV_length, boolsV_length]; omega) | (simp [bytesV_length, intsV_length, boolsV_length]; done) | (simp [bytesV_length, intsV_length, boolsV_length]; omega) | (simp [maxLen, bytesV_length, intsV_length, boolsV_length] at *; omega)) (quo_u64 (by first | omega | rfl | (simp only [bytesV_length, intsV_length, boolsV_length]; omega) | (simp [bytesV_length, intsV_length, boolsV_length]; done) | (simp [bytesV_length, intsV_length, boolsV_length]; omega) | (simp [maxLen, bytesV_length, intsV_length, boolsV_length] at *; omega)) (r := ((mm / 256 : Nat) : Int)) (by first | omega | rfl | (simp only [bytesV_length, intsV_length, boolsV_length]; omega) | (simp [bytesV_length, intsV_length, boolsV_length]; done) | (simp [bytesV_length, intsV_length, boolsV_length]; omega) | (simp [maxLen, bytesV_length, intsV_length, boolsV_length] at *; omega)))) rfl rfl rfl ?_
      refine G.yl (yl_assign rfl) rfl rfl rfl ?_
      refine G.nil ?_
      exact QA.again (k + 1, mm / 256) (Sub.cons rfl (Sub.cons rfl (Sub.cons (look_eq rfl (by rw [be_pad_succ, getD_drop])) (Sub.cons (look_int rfl (by first | rfl | omega | (simp; omega) | simp)) (Sub.nil _))))) ⟨(by have := nb_pos (m := mm) (by omega); omega), (by omega), hk8, (sl_cast (by first | rfl | (simp; done) | (simp; omega)) h6)⟩ (by first | omega | (dsimp only; omega) | (simp; omega) | (simp; done))
    · refine C.cond_f rfl (decide_eq_false hc4) ?_
      refine C.exit ?_
      refine QA.then_exit ?_
      refine QA.then_exit ?_
      refine QA.block_here ?_
      refine QA.then_normal ?_
      refine C.seq ?_
      refine C.region ?_
      refine G.yl (yl_move rfl) rfl rfl rfl ?_
      refine G.yl (yl_move rfl) rfl rfl rfl ?_
      refine G.yl (yl_conv rfl Try.underlying112 rfl (IntWalk.u64_in _ (by first | omega | rfl | (simp only [bytesV_length, intsV_length, boolsV_length]; omega) | (simp [bytesV_length, intsV_length, boolsV_length]; done) | (simp [bytesV_length, intsV_length, boolsV_length]; omega) | (simp [maxLen, bytesV_length, intsV_length, boolsV_length] at *; omega)))) rfl rfl rfl ?_
      refine G.yl (yl_div rfl rfl (by first | omega | rfl | (simp only [bytesV_length, intsV_length, boolsV_length]; omega) | (simp [bytesV_length, intsV_length, boolsV_length]; done) | (simp [bytesV_length, intsV_length, boolsV_length]; omega) | (simp [maxLen, bytesV_length, intsV_length, boolsV_length] at *; omega)) (rem_nat (by first | omega | rfl | (simp only [bytesV_length, intsV_length, boolsV_length]; omega) | (simp [bytesV_length, intsV_length, boolsV_length]; done) | (simp [bytesV_length, intsV_length, boolsV_length]; omega) | (simp [maxLen, bytesV_length, intsV_length, boolsV_length] at *; omega)))) rfl rfl rfl ?_
      refine G.yl (yl_conv rfl Try.underlying3 rfl (IntWalk.i64_in _ (rem_range (by omega) (by omega)))) rfl rfl rfl ?_
      refine G.yl (yl_assign rfl) rfl rfl rfl ?_
      refine G.nil ?_
      refine QA.then_normal ?_
      refine C.ret ?_
      refine QA.ret1 rfl rfl ?_
      obtain rfl : mm = 0 := by omega
      obtain ⟨hv1, hv2⟩ := num_eq (bs := bs) (by assumption) hk
      exact ⟨(by rw [hv1]), (sl_cast (by rw [hv2]) h3)⟩
set_option maxRecDepth 20000 in
theorem word_src {W w : World} {R : List Res} {p : Nat} {bs : List UInt8} (h : Sat W w (Src W p bs :: R)) :
    Calls Try.prog 22 #[(.pointer (some ⟨p, 0, none⟩))] w (Ret fun v w' => v = (.int .u32 (be (pad 4 bs) : Int)) ∧ Sat W w' (Src W p (bs.drop 4) :: R)) := by
  refine C.enter (N := 7) Try.func22 rfl Try.ntmps22 rfl ?_
  show C _ _ _ [(0, (.pointer (some ⟨p, 0, none⟩)))] _ _
  refine C.seq ?_
  refine C.region ?_
  refine G.yl (yl_assign rfl) rfl rfl rfl ?_
  refine G.nil ?_
  refine QA.then_normal ?_
  refine C.seq ?_
  refine C.region ?_
  refine G.yl (yl_move rfl) rfl rfl rfl ?_
  refine G.yl (yl_func rfl rfl) rfl rfl rfl ?_
  refine G.does (does_call (F := 68) (args := [(.int .i64 4), (.func (.func 19) #[(.pointer (some ⟨p, 0, none⟩))] #[])]) rfl rfl rfl en68 (number_src (m := 4) (p := p) (bs := bs) h (by first | omega | rfl | (simp only [bytesV_length, intsV_length, boolsV_length]; omega) | (simp [bytesV_length, intsV_length, boolsV_length]; done) | (simp [bytesV_length, intsV_length, boolsV_length]; omega) | (simp [maxLen, bytesV_length, intsV_length, boolsV_length] at *; omega)))) rfl rfl rfl ?_
  rintro _ w1 ⟨rfl, h2⟩
  refine G.yl (yl_conv rfl Try.underlying41 rfl (IntWalk.u32_in _ (by have := be_small4 (k := 4) bs (by omega); omega))) rfl rfl rfl ?_
  refine G.yl (yl_assign rfl) rfl rfl rfl ?_
  refine G.nil ?_
  refine QA.then_normal ?_
  refine C.ret ?_
  refine QA.ret1 rfl rfl ?_
  exact ⟨rfl, (sl_cast (by first | rfl | (simp; done) | (simp; omega)) h2)⟩
set_option maxRecDepth 20000 in
theorem word_ref {W w : World} {R : List Res} {p T : Nat} {bs : List UInt8} (h : Sat W w (RSrc W p T bs :: R)) :
    Calls Try.prog 23 #[(.pointer (some ⟨p, 0, none⟩))] w (Ret fun v w' => v = (.int .u32 (be (pad 4 bs) : Int)) ∧ Sat W w' (RSrc W p T (bs.drop 4) :: R)) := by
  refine C.enter (N := 16) Try.func23 rfl Try.ntmps23 rfl ?_
  show C _ _ _ [(0, (.pointer (some ⟨p, 0, none⟩)))] _ _
  refine C.seq ?_
  refine C.region ?_
  refine G.yl (yl_assign rfl) rfl rfl rfl ?_
  refine G.nil ?_
  refine QA.then_normal ?_
  refine C.seq ?_
  refine C.region ?_
  refine G.yl (yl_assign rfl) rfl rfl rfl ?_
  refine G.nil ?_
  refine QA.then_normal ?_
  refine C.seq ?_
  refine C.seq ?_
  refine C.region ?_
  refine G.yl (yl_assign rfl) rfl rfl rfl ?_
  refine G.nil ?_
  refine QA.then_normal ?_
  refine C.block ?_
  refine C.loop (fun (k : Nat) => [(0, (.pointer (some ⟨p, 0, none⟩))), (3, (.int .u32 (be (pad k bs) : Int))), (4, (.int .i64 (k : Int)))]) (fun (k : Nat) (ww : World) => (k ≤ 4) ∧ Sat W ww (RSrc W p T (bs.drop k) :: R)) (fun (k : Nat) => 4 - k) (0) (Sub.cons rfl (Sub.cons (look_int rfl (by first | rfl | omega | (simp; omega) | simp)) (Sub.cons (look_int rfl (by first | rfl | omega | (simp; omega) | simp)) (Sub.nil _)))) ⟨(by omega), (sl_cast (by first | rfl | (simp; done) | (simp; omega)) h)⟩ ?_
  rintro k w1 ⟨hk, h2⟩
  show C _ _ _ [(0, (.pointer (some ⟨p, 0, none⟩))), (3, (.int .u32 (be (pad k bs) : Int))), (4, (.int .i64 (k : Int)))] _ _
  refine C.seq ?_
  refine C.seq ?_
  refine C.region ?_
  refine G.yl (yl_move rfl) rfl rfl rfl ?_
  refine G.yl (yl_cmp rfl rfl rfl) rfl rfl rfl ?_
  refine G.nil ?_
  refine QA.then_normal ?_
  by_cases hc3 : ((k : Int) < 4)
  · refine C.cond_t rfl (decide_eq_true hc3) ?_
    refine C.skip ?_
    refine QA.then_normal ?_
    refine C.seq ?_
    refine C.block ?_
    refine C.region ?_
    refine G.yl (yl_move rfl) rfl rfl rfl ?_
    have hbs := be_small4 (k := k + 1) bs (by omega)
    rw [be_pad_succ, ← getD_drop] at hbs
    refine G.yl (yl_arith rfl rfl (mulu32 (r := ((be (pad k bs) * 256 : Nat) : Int)) (by omega) (by omega))) rfl rfl rfl ?_
    refine G.yl (yl_move rfl) rfl rfl rfl ?_
    refine G.does (does_call (F := 20) (args := [(.pointer (some ⟨p, 0, none⟩))]) rfl rfl rfl en20 (byte_ref (p := p) (T := T) (bs := bs.drop k) h2 )) rfl rfl rfl ?_
    rintro _ w4 ⟨rfl, h5⟩
    refine G.yl (yl_conv rfl Try.underlying41 rfl (IntWalk.u32_in _ (by have := UInt8.toNat_lt ((bs.drop k).headD 0); omega))) rfl rfl rfl ?_
    refine G.yl (yl_arith rfl rfl (addu32 (r := ((be (pad k bs) * 256 + ((bs.drop k).headD 0).toNat : Nat) : Int)) (by omega))) rfl rfl rfl ?_
    refine G.yl (yl_assign rfl) rfl rfl rfl ?_
    refine G.nil ?_
    refine QA.block_normal ?_
    refine QA.then_normal ?_
    refine C.region ?_
    refine G.yl (yl_move rfl) rfl rfl rfl ?_
    refine G.yl (yl_arith rfl rfl (add64 (r := ((k + 1 : Nat) : Int)) (by first | omega | rfl | (simp only [bytesV_length, intsV_length, boolsV_length]; omega) | (simp [bytesV_length, intsV_length, boolsV_length]; done) | (simp [bytesV_length, intsV_length, boolsV_length]; omega) | (simp [maxLen, bytesV_length, intsV_length, boolsV_length] at *; omega)))) rfl rfl rfl ?_
    refine G.yl (yl_assign rfl) rfl rfl rfl ?_
    refine G.nil ?_
    exact QA.again (k + 1) (Sub.cons rfl (Sub.cons (look_eq rfl (by rw [be_pad_succ, getD_drop])) (Sub.cons (look_int rfl (by first | rfl | omega | (simp; omega) | simp)) (Sub.nil _)))) ⟨(by omega), (sl_cast (by first | rfl | (simp; done) | (simp; omega)) h5)⟩ (by first | omega | (dsimp only; omega) | (simp; omega) | (simp; done))
  · refine C.cond_f rfl (decide_eq_false hc3) ?_
    refine C.exit ?_
    refine QA.then_exit ?_
    refine QA.then_exit ?_
    refine QA.block_here ?_
    refine QA.then_normal ?_
    refine C.seq ?_
    refine C.region ?_
    refine G.yl (yl_move rfl) rfl rfl rfl ?_
    refine G.yl (yl_assign rfl) rfl rfl rfl ?_
    refine G.nil ?_
    refine QA.then_normal ?_
    refine C.ret ?_
    refine QA.ret1 rfl rfl ?_
    obtain rfl : k = 4 := by omega
    exact ⟨rfl, (sl_cast (by first | rfl | (simp; done) | (simp; omega)) h2)⟩
set_option maxRecDepth 20000 in
theorem take_src {W w : World} {R : List Res} {p : Nat} {n : Int} {bs : List UInt8} (h : Sat W w (Src W p bs :: R)) :
    Calls Try.prog 24 #[(.pointer (some ⟨p, 0, none⟩)), (.int .i64 n)] w (Ret fun v w' => ∃ a : Option Addr, ∃ c : Nat, v = (.slice a ((min n 1024).toNat) c) ∧ Sat W w' (arr a ((min n 1024).toNat) c 1 5 (bytesV (pad (min n 1024).toNat bs)) :: Src W p (bs.drop (min n 1024).toNat) :: R)) := by
  refine C.enter (N := 16) Try.func24 rfl Try.ntmps24 rfl ?_
  show C _ _ _ [(0, (.pointer (some ⟨p, 0, none⟩))), (1, (.int .i64 n))] _ _
  refine C.seq ?_
  refine C.region ?_
  refine G.yl (yl_assign rfl) rfl rfl rfl ?_
  refine G.nil ?_
  refine QA.then_normal ?_
  refine C.seq ?_
  refine C.seq ?_
  refine C.region ?_
  refine G.yl (yl_move rfl) rfl rfl rfl ?_
  refine G.yl (yl_min rfl rfl (r := min n 1024) (by first | omega | rfl | (simp only [bytesV_length, intsV_length, boolsV_length]; omega) | (simp [bytesV_length, intsV_length, boolsV_length]; done) | (simp [bytesV_length, intsV_length, boolsV_length]; omega) | (simp [maxLen, bytesV_length, intsV_length, boolsV_length] at *; omega))) rfl rfl rfl ?_
  refine G.yl (yl_move rfl) rfl rfl rfl ?_
  refine G.nil ?_
  refine QA.then_normal ?_
  refine C.block ?_
  have h1 : Sat W w (arr none 0 0 1 5 (bytesV (pad 0 bs)) :: Src W p bs :: R) := h.arr_nil 1 5
  refine C.loop (fun (g : Nat × Option Addr × Nat) => match g with | (k, a, c) => [(0, (.pointer (some ⟨p, 0, none⟩))), (4, (.slice a k c)), (7, (.int .i64 (k : Int))), (6, (.int .i64 (min n 1024)))]) (fun (g : Nat × Option Addr × Nat) (ww : World) => match g with | (k, a, c) => ((k : Int) ≤ max 0 (min n 1024)) ∧ Sat W ww (arr a k c 1 5 (bytesV (pad k bs)) :: Src W p (bs.drop k) :: R)) (fun (g : Nat × Option Addr × Nat) => match g with | (k, a, c) => (max 0 (min n 1024)).toNat - k) (0, none, 0) (Sub.cons rfl (Sub.cons rfl (Sub.cons (look_int rfl (by first | rfl | omega | (simp; omega) | simp)) (Sub.cons rfl (Sub.nil _))))) ⟨(by omega), (sl_cast (by first | rfl | (simp; done) | (simp; omega)) ((h1.f1).f1))⟩ ?_
  rintro ⟨k, a, c⟩ w2 ⟨hk, h3⟩
  show C _ _ _ [(0, (.pointer (some ⟨p, 0, none⟩))), (4, (.slice a k c)), (7, (.int .i64 (k : Int))), (6, (.int .i64 (min n 1024)))] _ _
  refine C.seq ?_
  refine C.region ?_
  refine G.yl (yl_cmp rfl rfl rfl) rfl rfl rfl ?_
  refine G.nil ?_
  refine QA.then_normal ?_
  refine C.seq ?_
  by_cases hc4 : ((k : Int) < min n 1024)
  · refine C.cond_t rfl (decide_eq_true hc4) ?_
    refine C.skip ?_
    refine QA.then_normal ?_
    refine C.seq ?_
    refine C.block ?_
    refine C.region ?_
    refine G.yl (yl_move rfl) rfl rfl rfl ?_
    refine G.yl (yl_move rfl) rfl rfl rfl ?_
    refine G.does (does_call (F := 19) (args := [(.pointer (some ⟨p, 0, none⟩))]) rfl rfl rfl en19 (byte_src (p := p) (bs := bs.drop k) (h3.f1) )) rfl rfl rfl ?_
    rintro _ w5 ⟨rfl, h6⟩
    refine G.does (does_buildSlice (vs := [(.int .u8 (((bs.drop k).headD 0).toNat : Int))]) (cs := [(.int .u8 (((bs.drop k).headD 0).toNat : Int))]) (e := 5) h6 rfl (by kernel_rfl)) rfl rfl rfl ?_
    rintro _ w8 ⟨b7, rfl, h9⟩
    refine G.does (does_append (ys := [(.int .u8 (((bs.drop k).headD 0).toNat : Int))]) (e := 5) (s := 1) (bytes := 1) Try.underlying22 (by kernel_rfl) (h9.f2) rfl rfl (h9.isBlk.view 0) rfl (by simp [Value.oneCell']) (by first | omega | rfl | (simp only [bytesV_length, intsV_length, boolsV_length]; omega) | (simp [bytesV_length, intsV_length, boolsV_length]; done) | (simp [bytesV_length, intsV_length, boolsV_length]; omega) | (simp [maxLen, bytesV_length, intsV_length, boolsV_length] at *; omega)) (by first | omega | rfl | (simp only [bytesV_length, intsV_length, boolsV_length]; omega) | (simp [bytesV_length, intsV_length, boolsV_length]; done) | (simp [bytesV_length, intsV_length, boolsV_length]; omega) | (simp [maxLen, bytesV_length, intsV_length, boolsV_length] at *; omega)) (fun e => by cases e) (r := (k + 1)) (by omega)) rfl rfl rfl ?_
    rintro _ w12 ⟨a10, c11, rfl, _, h14⟩
    have h13 : Sat W w12 (arr a10 (k + 1) c11 1 5 (bytesV (pad k bs ++ [(bs.drop k).headD 0])) :: blk b7 [(.int .u8 (((bs.drop k).headD 0).toNat : Int))] 5 :: Src W p ((bs.drop k).drop 1) :: R) := sl_cast (by simp [bytesV, byteV]) h14
    refine G.yl (yl_assign rfl) rfl rfl rfl ?_
    refine G.nil ?_
    refine QA.block_normal ?_
    refine QA.then_normal ?_
    refine C.region ?_
    refine G.yl (yl_arith rfl rfl (add64 (r := ((k + 1 : Nat) : Int)) (by first | omega | rfl | (simp only [bytesV_length, intsV_length, boolsV_length]; omega) | (simp [bytesV_length, intsV_length, boolsV_length]; done) | (simp [bytesV_length, intsV_length, boolsV_length]; omega) | (simp [maxLen, bytesV_length, intsV_length, boolsV_length] at *; omega)))) rfl rfl rfl ?_
    refine G.yl (yl_move rfl) rfl rfl rfl ?_
    refine G.nil ?_
    exact QA.again (k + 1, a10, c11) (Sub.cons rfl (Sub.cons rfl (Sub.cons (look_int rfl (by first | rfl | omega | (simp; omega) | simp)) (Sub.cons rfl (Sub.nil _))))) ⟨(by omega), (sl_cast (by rw [pad_succ, ← getD_drop, List.drop_drop] <;> rfl) (Sat.keep 2 1 ((h13.f2).f1)))⟩ (by first | omega | (dsimp only; omega) | (simp; omega) | (simp; done))
  · refine C.cond_f rfl (decide_eq_false hc4) ?_
    refine C.exit ?_
    refine QA.then_exit ?_
    refine QA.then_exit ?_
    refine QA.block_here ?_
    refine QA.then_normal ?_
    refine C.seq ?_
    refine C.region ?_
    refine G.yl (yl_move rfl) rfl rfl rfl ?_
    refine G.yl (yl_assign rfl) rfl rfl rfl ?_
    refine G.nil ?_
    refine QA.then_normal ?_
    refine C.ret ?_
    refine QA.ret1 rfl rfl ?_
    obtain rfl : k = (min n 1024).toNat := by omega
    exact ⟨a, c, rfl, (sl_cast (by first | rfl | (simp; done) | (simp; omega)) ((h3.f1).f1))⟩
set_option maxRecDepth 20000 in
theorem take_ref {W w : World} {R : List Res} {p T : Nat} {n : Int} {bs : List UInt8} (h : Sat W w (RSrc W p T bs :: R)) :
    Calls Try.prog 25 #[(.pointer (some ⟨p, 0, none⟩)), (.int .i64 n)] w (Ret fun v w' => ∃ a : Option Addr, ∃ c : Nat, v = (.slice a ((min n 1024).toNat) c) ∧ Sat W w' (arr a ((min n 1024).toNat) c 1 5 (bytesV (pad (min n 1024).toNat bs)) :: RSrc W p T (bs.drop (min n 1024).toNat) :: R)) := by
  refine C.enter (N := 19) Try.func25 rfl Try.ntmps25 rfl ?_
  show C _ _ _ [(0, (.pointer (some ⟨p, 0, none⟩))), (1, (.int .i64 n))] _ _
  refine C.seq ?_
  refine C.region ?_
  refine G.yl (yl_assign rfl) rfl rfl rfl ?_
  refine G.nil ?_
  refine QA.then_normal ?_
  refine C.seq ?_
  refine C.region ?_
  refine G.yl (yl_assign rfl) rfl rfl rfl ?_
  refine G.nil ?_
  refine QA.then_normal ?_
  refine C.seq ?_
  refine C.seq ?_
  refine C.region ?_
  refine G.yl (yl_assign rfl) rfl rfl rfl ?_
  refine G.nil ?_
  refine QA.then_normal ?_
  refine C.block ?_
  have h1 : Sat W w (arr none 0 0 1 5 (bytesV (pad 0 bs)) :: RSrc W p T bs :: R) := h.arr_nil 1 5
  refine C.loop (fun (g : Nat × Option Addr × Nat) => match g with | (k, a, c) => [(0, (.pointer (some ⟨p, 0, none⟩))), (5, (.slice a k c)), (6, (.int .i64 (k : Int))), (1, (.int .i64 n))]) (fun (g : Nat × Option Addr × Nat) (ww : World) => match g with | (k, a, c) => ((k : Int) ≤ max 0 (min n 1024)) ∧ Sat W ww (arr a k c 1 5 (bytesV (pad k bs)) :: RSrc W p T (bs.drop k) :: R)) (fun (g : Nat × Option Addr × Nat) => match g with | (k, a, c) => (max 0 (min n 1024)).toNat - k) (0, none, 0) (Sub.cons rfl (Sub.cons rfl (Sub.cons (look_int rfl (by first | rfl | omega | (simp; omega) | simp)) (Sub.cons rfl (Sub.nil _))))) ⟨(by omega), (sl_cast (by first | rfl | (simp; done) | (simp; omega)) ((h1.f1).f1))⟩ ?_
  rintro ⟨k, a, c⟩ w2 ⟨hk, h3⟩
  show C _ _ _ [(0, (.pointer (some ⟨p, 0, none⟩))), (5, (.slice a k c)), (6, (.int .i64 (k : Int))), (1, (.int .i64 n))] _ _
  refine C.seq ?_
  refine C.seq ?_
  refine C.region ?_
  refine G.yl (yl_move rfl) rfl rfl rfl ?_
  refine G.yl (yl_move rfl) rfl rfl rfl ?_
  refine G.yl (yl_min rfl rfl (r := min n 1024) (by first | omega | rfl | (simp only [bytesV_length, intsV_length, boolsV_length]; omega) | (simp [bytesV_length, intsV_length, boolsV_length]; done) | (simp [bytesV_length, intsV_length, boolsV_length]; omega) | (simp [maxLen, bytesV_length, intsV_length, boolsV_length] at *; omega))) rfl rfl rfl ?_
  refine G.yl (yl_cmp rfl rfl rfl) rfl rfl rfl ?_
  refine G.nil ?_
  refine QA.then_normal ?_
  by_cases hc4 : ((k : Int) < min n 1024)
  · refine C.cond_t rfl (decide_eq_true hc4) ?_
    refine C.skip ?_
    refine QA.then_normal ?_
    refine C.seq ?_
    refine C.block ?_
    refine C.region ?_
    refine G.yl (yl_move rfl) rfl rfl rfl ?_
    refine G.yl (yl_move rfl) rfl rfl rfl ?_
    refine G.does (does_call (F := 20) (args := [(.pointer (some ⟨p, 0, none⟩))]) rfl rfl rfl en20 (byte_ref (p := p) (T := T) (bs := bs.drop k) (h3.f1) )) rfl rfl rfl ?_
    rintro _ w5 ⟨rfl, h6⟩
    refine G.does (does_buildSlice (vs := [(.int .u8 (((bs.drop k).headD 0).toNat : Int))]) (cs := [(.int .u8 (((bs.drop k).headD 0).toNat : Int))]) (e := 5) h6 rfl (by kernel_rfl)) rfl rfl rfl ?_
    rintro _ w8 ⟨b7, rfl, h9⟩
    refine G.does (does_append (ys := [(.int .u8 (((bs.drop k).headD 0).toNat : Int))]) (e := 5) (s := 1) (bytes := 1) Try.underlying22 (by kernel_rfl) (h9.f2) rfl rfl (h9.isBlk.view 0) rfl (by simp [Value.oneCell']) (by first | omega | rfl | (simp only [bytesV_length, intsV_length, boolsV_length]; omega) | (simp [bytesV_length, intsV_length, boolsV_length]; done) | (simp [bytesV_length, intsV_length, boolsV_length]; omega) | (simp [maxLen, bytesV_length, intsV_length, boolsV_length] at *; omega)) (by first | omega | rfl | (simp only [bytesV_length, intsV_length, boolsV_length]; omega) | (simp [bytesV_length, intsV_length, boolsV_length]; done) | (simp [bytesV_length, intsV_length, boolsV_length]; omega) | (simp [maxLen, bytesV_length, intsV_length, boolsV_length] at *; omega)) (fun e => by cases e) (r := (k + 1)) (by omega)) rfl rfl rfl ?_
    rintro _ w12 ⟨a10, c11, rfl, _, h14⟩
    have h13 : Sat W w12 (arr a10 (k + 1) c11 1 5 (bytesV (pad k bs ++ [(bs.drop k).headD 0])) :: blk b7 [(.int .u8 (((bs.drop k).headD 0).toNat : Int))] 5 :: RSrc W p T ((bs.drop k).drop 1) :: R) := sl_cast (by simp [bytesV, byteV]) h14
    refine G.yl (yl_assign rfl) rfl rfl rfl ?_
    refine G.nil ?_
    refine QA.block_normal ?_
    refine QA.then_normal ?_
    refine C.region ?_
    refine G.yl (yl_move rfl) rfl rfl rfl ?_
    refine G.yl (yl_arith rfl rfl (add64 (r := ((k + 1 : Nat) : Int)) (by first | omega | rfl | (simp only [bytesV_length, intsV_length, boolsV_length]; omega) | (simp [bytesV_length, intsV_length, boolsV_length]; done) | (simp [bytesV_length, intsV_length, boolsV_length]; omega) | (simp [maxLen, bytesV_length, intsV_length, boolsV_length] at *; omega)))) rfl rfl rfl ?_
    refine G.yl (yl_assign rfl) rfl rfl rfl ?_
    refine G.nil ?_
    exact QA.again (k + 1, a10, c11) (Sub.cons rfl (Sub.cons rfl (Sub.cons (look_int rfl (by first | rfl | omega | (simp; omega) | simp)) (Sub.cons rfl (Sub.nil _))))) ⟨(by omega), (sl_cast (by rw [pad_succ, ← getD_drop, List.drop_drop] <;> rfl) (Sat.keep 2 1 ((h13.f2).f1)))⟩ (by first | omega | (dsimp only; omega) | (simp; omega) | (simp; done))
  · refine C.cond_f rfl (decide_eq_false hc4) ?_
    refine C.exit ?_
    refine QA.then_exit ?_
    refine QA.then_exit ?_
    refine QA.block_here ?_
    refine QA.then_normal ?_
    refine C.seq ?_
    refine C.region ?_
    refine G.yl (yl_move rfl) rfl rfl rfl ?_
    refine G.yl (yl_assign rfl) rfl rfl rfl ?_
    refine G.nil ?_
    refine QA.then_normal ?_
    refine C.ret ?_
    refine QA.ret1 rfl rfl ?_
    obtain rfl : k = (min n 1024).toNat := by omega
    exact ⟨a, c, rfl, (sl_cast (by first | rfl | (simp; done) | (simp; omega)) ((h3.f1).f1))⟩
set_option maxRecDepth 20000 in
theorem left_src {W w : World} {R : List Res} {p : Nat} {bs : List UInt8} (h : Sat W w (Src W p bs :: R)) :
    Calls Try.prog 29 #[(.pointer (some ⟨p, 0, none⟩))] w (Ret fun v w' => v = (.int .i64 (bs.length : Int)) ∧ Sat W w' (Src W p bs :: R)) := by
  refine C.enter (N := 10) Try.func29 rfl Try.ntmps29 rfl ?_
  show C _ _ _ [(0, (.pointer (some ⟨p, 0, none⟩)))] _ _
  refine C.seq ?_
  refine C.region ?_
  refine G.yl (yl_assign rfl) rfl rfl rfl ?_
  refine G.nil ?_
  refine QA.then_normal ?_
  refine C.seq ?_
  refine C.seq ?_
  refine C.region ?_
  refine G.yl (yl_move rfl) rfl rfl rfl ?_
  refine G.does (does_call (F := 69) (args := [(.pointer (some ⟨p, 0, none⟩))]) rfl rfl rfl en69 (none_src (p := p) (bs := bs) h )) rfl rfl rfl ?_
  rintro _ w1 ⟨rfl, h2⟩
  refine G.nil ?_
  refine QA.then_normal ?_
  refine C.cond_f rfl rfl ?_
  refine C.skip ?_
  refine QA.then_normal ?_
  refine C.seq ?_
  refine C.region ?_
  refine G.yl (yl_move rfl) rfl rfl rfl ?_
  obtain ⟨a3, n4, c5, ho7, ho8, h6⟩ := Src.open h2
  refine G.yl (yl_nilCheck rfl) rfl rfl rfl ?_
  refine G.yl (yl_fieldAddr (off := 1) (by kernel_rfl) rfl) rfl rfl rfl ?_
  refine G.yl (yl_load (by kernel_rfl) rfl (h6.isBlk.cell rfl)) rfl rfl rfl ?_
  refine G.yl (yl_len Try.underlying22 rfl) rfl rfl rfl ?_
  refine G.yl (yl_assign rfl) rfl rfl rfl ?_
  refine G.nil ?_
  refine QA.then_normal ?_
  refine C.ret ?_
  refine QA.ret1 rfl rfl ?_
  exact ⟨(by first | rfl | (simp; done) | (simp; omega)), Src.shut (sl_cast (by first | rfl | (simp; done) | (simp; omega)) ((h6.f1).f1)) (by first | omega | rfl | (simp only [bytesV_length, intsV_length, boolsV_length]; omega) | (simp [bytesV_length, intsV_length, boolsV_length]; done) | (simp [bytesV_length, intsV_length, boolsV_length]; omega) | (simp [maxLen, bytesV_length, intsV_length, boolsV_length] at *; omega)) (by first | omega | rfl | (simp only [bytesV_length, intsV_length, boolsV_length]; omega) | (simp [bytesV_length, intsV_length, boolsV_length]; done) | (simp [bytesV_length, intsV_length, boolsV_length]; omega) | (simp [maxLen, bytesV_length, intsV_length, boolsV_length] at *; omega))⟩
set_option maxRecDepth 20000 in
theorem left_ref {W w : World} {R : List Res} {p T : Nat} {bs : List UInt8} (h : Sat W w (RSrc W p T bs :: R)) :
    Calls Try.prog 30 #[(.pointer (some ⟨p, 0, none⟩))] w (Ret fun v w' => v = (.int .i64 (bs.length : Int)) ∧ Sat W w' (RSrc W p T bs :: R)) := by
  refine C.enter (N := 13) Try.func30 rfl Try.ntmps30 rfl ?_
  show C _ _ _ [(0, (.pointer (some ⟨p, 0, none⟩)))] _ _
  obtain ⟨a1, n2, c3, al5, k6, ho7, ho8, ho9, ho10, ho11, h4⟩ := RSrc.open h
  refine C.seq ?_
  refine C.region ?_
  refine G.yl (yl_assign rfl) rfl rfl rfl ?_
  refine G.nil ?_
  refine QA.then_normal ?_
  refine C.seq ?_
  refine C.draw (S := fun w' => w'.cell? ⟨p, 0, none⟩ = some (.slice a1 n2 c3) ∧ w'.cell? ⟨p, 1, none⟩ = some (.int .i64 (k6 : Int)) ∧ View w' a1 (bytesV al5)) (n := 11) rfl h4 rfl rfl ?_
  intro w13 h14
  have hS15 : w13.cell? ⟨p, 0, none⟩ = some (.slice a1 n2 c3) ∧ w13.cell? ⟨p, 1, none⟩ = some (.int .i64 (k6 : Int)) ∧ View w13 a1 (bytesV al5) := ⟨h14.isBlk.cell rfl, h14.isBlk.cell rfl, (h14.f1).rd_view⟩
  refine GH.yl (i := 0) (listed' := #[true, false, false, false, false, false, false, false, false, false, false]) rfl (by kernel_rfl) (by kernel_rfl) (by kernel_rfl) rfl (NP.next NP.body) rfl rfl rfl (fun w' hw' => yl_move rfl) hS15 ?_
  refine GH.yl (i := 1) (listed' := #[true, true, false, false, false, false, false, false, false, false, false]) rfl (by kernel_rfl) (by kernel_rfl) (by kernel_rfl) rfl (NP.next NP.body) rfl rfl rfl (fun w' hw' => yl_nilCheck rfl) hS15 ?_
  refine GH.yl (i := 2) (listed' := #[true, true, true, false, false, false, false, false, false, false, false]) rfl (by kernel_rfl) (by kernel_rfl) (by kernel_rfl) rfl (NP.next NP.body) rfl rfl rfl (fun w' hw' => yl_fieldAddr (off := 0) (by kernel_rfl) rfl) hS15 ?_
  refine GH.yl (i := 3) (listed' := #[true, true, true, true, false, false, false, false, false, false, false]) rfl (by kernel_rfl) (by kernel_rfl) (by kernel_rfl) rfl (NP.next NP.body) rfl rfl rfl (fun w' hw' => yl_load (v := (.slice a1 n2 c3)) (by kernel_rfl) rfl hw'.1) hS15 ?_
  refine GH.yl (i := 4) (listed' := #[true, true, true, true, true, false, false, false, false, false, false]) rfl (by kernel_rfl) (by kernel_rfl) (by kernel_rfl) rfl (NP.next NP.body) rfl rfl rfl (fun w' hw' => yl_len Try.underlying22 rfl) hS15 ?_
  refine GH.yl (i := 5) (listed' := #[true, true, true, true, true, true, false, false, false, false, false]) rfl (by kernel_rfl) (by kernel_rfl) (by kernel_rfl) rfl (NP.next NP.body) rfl rfl rfl (fun w' hw' => yl_move rfl) hS15 ?_
  refine GH.yl (i := 6) (listed' := #[true, true, true, true, true, true, true, false, false, false, false]) rfl (by kernel_rfl) (by kernel_rfl) (by kernel_rfl) rfl (NP.next NP.body) rfl rfl rfl (fun w' hw' => yl_nilCheck rfl) hS15 ?_
  refine GH.yl (i := 7) (listed' := #[true, true, true, true, true, true, true, true, false, false, false]) rfl (by kernel_rfl) (by kernel_rfl) (by kernel_rfl) rfl (NP.next NP.body) rfl rfl rfl (fun w' hw' => yl_fieldAddr (off := 1) (by kernel_rfl) rfl) hS15 ?_
  refine GH.yl (i := 8) (listed' := #[true, true, true, true, true, true, true, true, true, false, false]) rfl (by kernel_rfl) (by kernel_rfl) (by kernel_rfl) rfl (NP.next NP.body) rfl rfl rfl (fun w' hw' => yl_load (v := (.int .i64 (k6 : Int))) (by kernel_rfl) rfl hw'.2.1) hS15 ?_
  refine GH.yl (i := 9) (listed' := #[true, true, true, true, true, true, true, true, true, true, false]) rfl (by kernel_rfl) (by kernel_rfl) (by kernel_rfl) rfl (NP.next NP.body) rfl rfl rfl (fun w' hw' => yl_arith rfl rfl (sub64 (r := (n2 : Int) - (k6 : Int)) (by first | omega | rfl | (simp only [bytesV_length, intsV_length, boolsV_length]; omega) | (simp [bytesV_length, intsV_length, boolsV_length]; done) | (simp [bytesV_length, intsV_length, boolsV_length]; omega) | (simp [maxLen, bytesV_length, intsV_length, boolsV_length] at *; omega)))) hS15 ?_
  refine GH.yl (i := 10) (listed' := #[true, true, true, true, true, true, true, true, true, true, true]) rfl (by kernel_rfl) (by kernel_rfl) (by kernel_rfl) rfl (NP.next NP.body) rfl rfl rfl (fun w' hw' => yl_assign rfl) hS15 ?_
  refine GH.done (by kernel_rfl) ?_
  refine QA.then_normal ?_
  refine C.ret ?_
  refine QA.ret1 rfl rfl ?_
  exact ⟨(by rw [ho10]; simp; omega), RSrc.shut (sl_cast (by first | rfl | (simp; done) | (simp; omega)) ((h14.f1).f1)) (by first | omega | rfl | (simp only [bytesV_length, intsV_length, boolsV_length]; omega) | (simp [bytesV_length, intsV_length, boolsV_length]; done) | (simp [bytesV_length, intsV_length, boolsV_length]; omega) | (simp [maxLen, bytesV_length, intsV_length, boolsV_length] at *; omega)) (by first | omega | rfl | (simp only [bytesV_length, intsV_length, boolsV_length]; omega) | (simp [bytesV_length, intsV_length, boolsV_length]; done) | (simp [bytesV_length, intsV_length, boolsV_length]; omega) | (simp [maxLen, bytesV_length, intsV_length, boolsV_length] at *; omega)) (by first | omega | rfl | (simp only [bytesV_length, intsV_length, boolsV_length]; omega) | (simp [bytesV_length, intsV_length, boolsV_length]; done) | (simp [bytesV_length, intsV_length, boolsV_length]; omega) | (simp [maxLen, bytesV_length, intsV_length, boolsV_length] at *; omega)) ho10 (by first | omega | rfl | (simp only [bytesV_length, intsV_length, boolsV_length]; omega) | (simp [bytesV_length, intsV_length, boolsV_length]; done) | (simp [bytesV_length, intsV_length, boolsV_length]; omega) | (simp [maxLen, bytesV_length, intsV_length, boolsV_length] at *; omega))⟩
set_option maxRecDepth 20000 in
theorem clone_bytes {W w : World} {R : List Res} {a : Option Addr} {n c : Nat} {xs : List UInt8} (h : Sat W w (rd W a (bytesV xs) :: R)) (hn : n = xs.length) (hm : xs.length ≤ 140737488355328) :
    Calls Try.prog 66 #[(.slice a n c)] w (Ret fun v w' => ∃ a' : Option Addr, ∃ c' : Nat, v = (.slice a' n c') ∧ Sat W w' (arr a' n c' 1 5 (bytesV xs) :: rd W a (bytesV xs) :: R)) := by
  refine C.enter (N := 8) Try.func66 rfl Try.ntmps66 rfl ?_
  show C _ _ _ [(0, (.slice a n c))] _ _
  refine C.seq ?_
  refine C.region ?_
  refine G.yl (yl_assign rfl) rfl rfl rfl ?_
  refine G.nil ?_
  refine QA.then_normal ?_
  refine C.seq ?_
  refine C.seq ?_
  refine C.region ?_
  refine G.yl (yl_move rfl) rfl rfl rfl ?_
  refine G.yl (yl_eq_slnil Try.underlying22 rfl rfl) rfl rfl rfl ?_
  refine G.nil ?_
  refine QA.then_normal ?_
  rcases Bool.eq_false_or_eq_true (Option.isNone a) with hc1 | hc1
  · refine C.cond_t rfl (hc1) ?_
    refine C.seq ?_
    refine C.region ?_
    refine G.yl (yl_assign rfl) rfl rfl rfl ?_
    refine G.nil ?_
    refine QA.then_normal ?_
    refine C.ret ?_
    refine QA.then_ret ?_
    refine QA.ret1 rfl rfl ?_
    have hn0 := Option.isNone_iff_eq_none.1 hc1
    subst hn0
    have hx0 : xs = [] := bytesV_nil (View.none_nil h.rd_view)
    subst hx0
    have h2 : Sat W w (arr none 0 0 1 5 (bytesV []) :: rd W none (bytesV []) :: R) := h.arr_nil 1 5
    exact ⟨none, 0, (by simp [hn]), (sl_cast (by simp [hn]) h2)⟩
  · refine C.cond_f rfl (hc1) ?_
    refine C.skip ?_
    refine QA.then_normal ?_
    refine C.seq ?_
    refine C.region ?_
    refine G.does (does_buildSlice (vs := []) (cs := []) (e := 5) h rfl (by kernel_rfl)) rfl rfl rfl ?_
    rintro _ w4 ⟨b3, rfl, h5⟩
    refine G.yl (yl_move rfl) rfl rfl rfl ?_
    refine G.does (does_append (ys := bytesV xs) (e := 5) (s := 1) (bytes := 1) Try.underlying22 (by kernel_rfl) (Sat.arr_of_blk (n := 0) (c := 0) (s := 1) (xs := []) h5 rfl (Nat.le_refl _) (by decide) (fun _ hh => by cases hh) (by simp) rfl) rfl rfl (h5.f1).rd_view (by first | omega | rfl | (simp only [bytesV_length, intsV_length, boolsV_length]; omega) | (simp [bytesV_length, intsV_length, boolsV_length]; done) | (simp [bytesV_length, intsV_length, boolsV_length]; omega) | (simp [maxLen, bytesV_length, intsV_length, boolsV_length] at *; omega)) (bytesV_one _) (by first | omega | rfl | (simp only [bytesV_length, intsV_length, boolsV_length]; omega) | (simp [bytesV_length, intsV_length, boolsV_length]; done) | (simp [bytesV_length, intsV_length, boolsV_length]; omega) | (simp [maxLen, bytesV_length, intsV_length, boolsV_length] at *; omega)) (by first | omega | rfl | (simp only [bytesV_length, intsV_length, boolsV_length]; omega) | (simp [bytesV_length, intsV_length, boolsV_length]; done) | (simp [bytesV_length, intsV_length, boolsV_length]; omega) | (simp [maxLen, bytesV_length, intsV_length, boolsV_length] at *; omega)) (fun e => by (subst e; have hz := bytesV_nil (View.none_nil (h5.f1).rd_view); have hl : xs.length = 0 := (by rw [hz]; rfl); first | omega | (simp only [List.length_drop, List.length_take, List.length_append] at hl; omega) | (simp only [List.length_drop, List.length_take, List.length_append] at hl; done) | (simp at hl; done) | (simp at hl; omega))) (r := n) (by omega)) rfl rfl rfl ?_
    rintro _ w8 ⟨a6, c7, rfl, _, h10⟩
    have h9 : Sat W w8 (arr a6 n c7 1 5 (bytesV xs) :: rd W a (bytesV xs) :: R) := sl_cast (by simp [bytesV, byteV]) h10
    refine G.yl (yl_assign rfl) rfl rfl rfl ?_
    refine G.nil ?_
    refine QA.then_normal ?_
    refine C.ret ?_
    refine QA.ret1 rfl rfl ?_
    exact ⟨a6, c7, (by first | rfl | (simp; done) | (simp; omega)), (sl_cast (by first | rfl | (simp; done) | (simp; omega)) ((h9.f1).f1))⟩
set_option maxRecDepth 20000 in
theorem new_src {W w : World} {R : List Res} {a : Option Addr} {n c : Nat} {xs : List UInt8} (h : Sat W w (rd W a (bytesV xs) :: R)) (hn : n = xs.length) (hm : xs.length ≤ 140737488355328) :
    Calls Try.prog 14 #[(.slice a n c)] w (Ret fun v w' => ∃ p : Nat, v = (.pointer (some ⟨p, 0, none⟩)) ∧ Sat W w' (Src W p xs :: rd W a (bytesV xs) :: R)) := by
  refine C.enter (N := 7) Try.func14 rfl Try.ntmps14 rfl ?_
  show C _ _ _ [(0, (.slice a n c))] _ _
  refine C.seq ?_
  refine C.region ?_
  refine G.yl (yl_assign rfl) rfl rfl rfl ?_
  refine G.nil ?_
  refine QA.then_normal ?_
  refine C.seq ?_
  refine C.region ?_
  refine G.yl (yl_move rfl) rfl rfl rfl ?_
  refine G.does (does_call (F := 66) (args := [(.slice a n c)]) rfl rfl rfl en66 (clone_bytes (a := a) (n := n) (c := c) h (by first | omega | rfl | (simp only [bytesV_length, intsV_length, boolsV_length]; omega) | (simp [bytesV_length, intsV_length, boolsV_length]; done) | (simp [bytesV_length, intsV_length, boolsV_length]; omega) | (simp [maxLen, bytesV_length, intsV_length, boolsV_length] at *; omega)) (by first | omega | rfl | (simp only [bytesV_length, intsV_length, boolsV_length]; omega) | (simp [bytesV_length, intsV_length, boolsV_length]; done) | (simp [bytesV_length, intsV_length, boolsV_length]; omega) | (simp [maxLen, bytesV_length, intsV_length, boolsV_length] at *; omega)))) rfl rfl rfl ?_
  rintro _ w1 ⟨a'3, c'4, rfl, h2⟩
  refine G.yl (yl_build (vs := [(.bool true), (.slice a'3 n c'4)]) (cells := #[(.bool true), (.slice a'3 n c'4)]) rfl (by kernel_rfl)) rfl rfl rfl ?_
  refine G.does (does_box (cs := [(.bool true), (.slice a'3 n c'4)]) h2 rfl rfl) rfl rfl rfl ?_
  rintro _ w6 ⟨b5, rfl, h7⟩
  refine G.yl (yl_assign rfl) rfl rfl rfl ?_
  refine G.nil ?_
  refine QA.then_normal ?_
  refine C.ret ?_
  refine QA.ret1 rfl rfl ?_
  have hcl := (h7.f1).arr_len
  rw [bytesV_length] at hcl
  have h8 : Sat W w6 (rd W a'3 (bytesV xs) :: blk b5 [(.bool true), (.slice a'3 n c'4)] 51 :: rd W a (bytesV xs) :: R) := Sat.rd_of_arr (h7.f1)
  exact ⟨b5, rfl, Src.shut (sl_cast (by first | rfl | (simp; done) | (simp; omega)) (((h8.f2).f1).f2)) (by first | omega | rfl | (simp only [bytesV_length, intsV_length, boolsV_length]; omega) | (simp [bytesV_length, intsV_length, boolsV_length]; done) | (simp [bytesV_length, intsV_length, boolsV_length]; omega) | (simp [maxLen, bytesV_length, intsV_length, boolsV_length] at *; omega)) (by omega)⟩
set_option maxRecDepth 20000 in
theorem clone_src {W w : World} {R : List Res} {p : Nat} {bs : List UInt8} (h : Sat W w (Src W p bs :: R)) (hm : bs.length ≤ 140737488355328) :
    Calls Try.prog 28 #[(.pointer (some ⟨p, 0, none⟩))] w (Ret fun v w' => ∃ q : Nat, v = (.pointer (some ⟨q, 0, none⟩)) ∧ Sat W w' (Src W q bs :: Src W p bs :: R)) := by
  refine C.enter (N := 15) Try.func28 rfl Try.ntmps28 rfl ?_
  show C _ _ _ [(0, (.pointer (some ⟨p, 0, none⟩)))] _ _
  obtain ⟨a1, n2, c3, ho5, ho6, h4⟩ := Src.open h
  refine C.seq ?_
  refine C.region ?_
  refine G.yl (yl_assign rfl) rfl rfl rfl ?_
  refine G.nil ?_
  refine QA.then_normal ?_
  refine C.seq ?_
  refine C.seq ?_
  refine C.region ?_
  refine G.yl (yl_move rfl) rfl rfl rfl ?_
  refine G.yl (yl_eq_nil (by kernel_rfl) rfl rfl) rfl rfl rfl ?_
  refine G.nil ?_
  refine QA.then_normal ?_
  refine C.cond_f rfl rfl ?_
  refine C.skip ?_
  refine QA.then_normal ?_
  refine C.seq ?_
  refine C.region ?_
  refine G.yl (yl_move rfl) rfl rfl rfl ?_
  refine G.yl (yl_nilCheck rfl) rfl rfl rfl ?_
  refine G.yl (yl_loadN (n := 2) (vs := [(.bool true), (.slice a1 n2 c3)]) (by kernel_rfl) (by kernel_rfl) rfl rfl ((h4.isBlk.view 0).take 2)) rfl rfl rfl ?_
  refine G.does (does_alloc (cs := [(.bool false), (.slice none 0 0)]) (z := (.agg #[(.bool false), (.slice none 0 0)])) h4 (by kernel_rfl) rfl) rfl rfl rfl ?_
  rintro _ w8 ⟨b7, rfl, h9⟩
  refine G.unit (does_store (n := 2) (vs := [(.bool true), (.slice a1 n2 c3)]) h9 (by kernel_rfl) rfl rfl rfl rfl (by simp [Value.oneCell']) (Nat.le_of_ble_eq_true rfl)) rfl rfl ?_
  rintro _ w10 h12
  have h11 : Sat W w10 (blk b7 [(.bool true), (.slice a1 n2 c3)] 51 :: blk p [(.bool true), (.slice a1 n2 c3)] 51 :: rd W a1 (bytesV bs) :: R) := h12
  refine G.nil ?_
  refine QA.then_normal ?_
  refine C.seq ?_
  refine C.region ?_
  refine G.yl (yl_move rfl) rfl rfl rfl ?_
  refine G.yl (yl_nilCheck rfl) rfl rfl rfl ?_
  refine G.yl (yl_fieldAddr (off := 1) (by kernel_rfl) rfl) rfl rfl rfl ?_
  refine G.yl (yl_load (by kernel_rfl) rfl ((h11.f1).isBlk.cell rfl)) rfl rfl rfl ?_
  refine G.does (does_call (F := 66) (args := [(.slice a1 n2 c3)]) rfl rfl rfl en66 (clone_bytes (a := a1) (n := n2) (c := c3) (xs := bs) (h11.f2) (by first | omega | rfl | (simp only [bytesV_length, intsV_length, boolsV_length]; omega) | (simp [bytesV_length, intsV_length, boolsV_length]; done) | (simp [bytesV_length, intsV_length, boolsV_length]; omega) | (simp [maxLen, bytesV_length, intsV_length, boolsV_length] at *; omega)) (by first | omega | rfl | (simp only [bytesV_length, intsV_length, boolsV_length]; omega) | (simp [bytesV_length, intsV_length, boolsV_length]; done) | (simp [bytesV_length, intsV_length, boolsV_length]; omega) | (simp [maxLen, bytesV_length, intsV_length, boolsV_length] at *; omega)))) rfl rfl rfl ?_
  rintro _ w13 ⟨a'15, c'16, rfl, h14⟩
  refine G.yl (yl_fieldAddr (off := 1) (by kernel_rfl) rfl) rfl rfl rfl ?_
  refine G.unit (does_store (n := 1) (vs := [(.slice a'15 n2 c'16)]) (h14.f2) (by kernel_rfl) rfl rfl rfl rfl (by simp [Value.oneCell']) (Nat.le_of_ble_eq_true rfl)) rfl rfl ?_
  rintro _ w17 h19
  have h18 : Sat W w17 (blk b7 [(.bool true), (.slice a'15 n2 c'16)] 51 :: arr a'15 n2 c'16 1 5 (bytesV bs) :: rd W a1 (bytesV bs) :: blk p [(.bool true), (.slice a1 n2 c3)] 51 :: R) := h19
  refine G.nil ?_
  refine QA.then_normal ?_
  refine C.seq ?_
  refine C.region ?_
  refine G.yl (yl_assign rfl) rfl rfl rfl ?_
  refine G.nil ?_
  refine QA.then_normal ?_
  refine C.ret ?_
  refine QA.ret1 rfl rfl ?_
  have hcl := (h18.f1).arr_len
  rw [bytesV_length] at hcl
  have h20 : Sat W w17 (Src W p bs :: blk b7 [(.bool true), (.slice a'15 n2 c'16)] 51 :: arr a'15 n2 c'16 1 5 (bytesV bs) :: R) := Src.shut (sl_cast (by first | rfl | (simp; done) | (simp; omega)) ((((h18.f1).f1).f2).f3)) (by first | omega | rfl | (simp only [bytesV_length, intsV_length, boolsV_length]; omega) | (simp [bytesV_length, intsV_length, boolsV_length]; done) | (simp [bytesV_length, intsV_length, boolsV_length]; omega) | (simp [maxLen, bytesV_length, intsV_length, boolsV_length] at *; omega)) (by first | omega | rfl | (simp only [bytesV_length, intsV_length, boolsV_length]; omega) | (simp [bytesV_length, intsV_length, boolsV_length]; done) | (simp [bytesV_length, intsV_length, boolsV_length]; omega) | (simp [maxLen, bytesV_length, intsV_length, boolsV_length] at *; omega))
  have h21 : Sat W w17 (rd W a'15 (bytesV bs) :: Src W p bs :: blk b7 [(.bool true), (.slice a'15 n2 c'16)] 51 :: R) := Sat.rd_of_arr (h20.f2)
  exact ⟨b7, rfl, Src.shut (sl_cast (by first | rfl | (simp; done) | (simp; omega)) (((h21.f1).f1).f2)) (by first | omega | rfl | (simp only [bytesV_length, intsV_length, boolsV_length]; omega) | (simp [bytesV_length, intsV_length, boolsV_length]; done) | (simp [bytesV_length, intsV_length, boolsV_length]; omega) | (simp [maxLen, bytesV_length, intsV_length, boolsV_length] at *; omega)) (by omega)⟩
set_option maxRecDepth 20000 in
theorem grow_bytes {W w : World} {R : List Res} {n : Nat} (h : Sat W w (R)) (hn : n ≤ 140737488355328) :
    Calls Try.prog 106 #[(.slice none 0 0), (.int .i64 (n : Int))] w (Ret fun v w' => ∃ a : Option Addr, ∃ c : Nat, v = (.slice a 0 c) ∧ Sat W w' (arr a 0 c 1 5 (bytesV []) :: R)) := by
  refine C.enter (N := 27) Try.func106 rfl Try.ntmps106 rfl ?_
  show C _ _ _ [(0, (.slice none 0 0)), (1, (.int .i64 (n : Int)))] _ _
  refine C.seq ?_
  refine C.region ?_
  refine G.yl (yl_assign rfl) rfl rfl rfl ?_
  refine G.nil ?_
  refine QA.then_normal ?_
  refine C.seq ?_
  refine C.seq ?_
  refine C.region ?_
  refine G.yl (yl_move rfl) rfl rfl rfl ?_
  refine G.yl (yl_cmp rfl rfl rfl) rfl rfl rfl ?_
  refine G.nil ?_
  refine QA.then_normal ?_
  refine C.cond_f rfl (decide_eq_false (by first | omega | rfl | (simp only [bytesV_length, intsV_length, boolsV_length]; omega) | (simp [bytesV_length, intsV_length, boolsV_length]; done) | (simp [bytesV_length, intsV_length, boolsV_length]; omega) | (simp [maxLen, bytesV_length, intsV_length, boolsV_length] at *; omega))) ?_
  refine C.skip ?_
  refine QA.then_normal ?_
  refine C.seq ?_
  refine C.seq ?_
  refine C.region ?_
  refine G.yl (yl_move rfl) rfl rfl rfl ?_
  refine G.yl (yl_move rfl) rfl rfl rfl ?_
  refine G.yl (yl_cap Try.underlying22 rfl) rfl rfl rfl ?_
  refine G.yl (yl_move rfl) rfl rfl rfl ?_
  refine G.yl (yl_len Try.underlying22 rfl) rfl rfl rfl ?_
  refine G.yl (yl_arith rfl rfl (sub64 (r := (0 : Int) - 0) (by first | omega | rfl | (simp only [bytesV_length, intsV_length, boolsV_length]; omega) | (simp [bytesV_length, intsV_length, boolsV_length]; done) | (simp [bytesV_length, intsV_length, boolsV_length]; omega) | (simp [maxLen, bytesV_length, intsV_length, boolsV_length] at *; omega)))) rfl rfl rfl ?_
  refine G.yl (yl_arith rfl rfl (sub64 (r := (n : Int)) (by first | omega | rfl | (simp only [bytesV_length, intsV_length, boolsV_length]; omega) | (simp [bytesV_length, intsV_length, boolsV_length]; done) | (simp [bytesV_length, intsV_length, boolsV_length]; omega) | (simp [maxLen, bytesV_length, intsV_length, boolsV_length] at *; omega)))) rfl rfl rfl ?_
  refine G.yl (yl_assign rfl) rfl rfl rfl ?_
  refine G.nil ?_
  refine QA.then_normal ?_
  refine C.seq ?_
  refine C.region ?_
  refine G.yl (yl_move rfl) rfl rfl rfl ?_
  refine G.yl (yl_cmp rfl rfl rfl) rfl rfl rfl ?_
  refine G.nil ?_
  refine QA.then_normal ?_
  by_cases hc1 : ((n : Int) > 0)
  · refine C.cond_t rfl (decide_eq_true hc1) ?_
    refine C.region ?_
    refine G.yl (yl_move rfl) rfl rfl rfl ?_
    refine G.yl (yl_move rfl) rfl rfl rfl ?_
    refine G.yl (yl_cap Try.underlying22 rfl) rfl rfl rfl ?_
    refine G.yl (yl_slice_h (by kernel_rfl) (by kernel_rfl) rfl rfl (h := 0) (by first | omega | rfl | (simp only [bytesV_length, intsV_length, boolsV_length]; omega) | (simp [bytesV_length, intsV_length, boolsV_length]; done) | (simp [bytesV_length, intsV_length, boolsV_length]; omega) | (simp [maxLen, bytesV_length, intsV_length, boolsV_length] at *; omega)) (by first | omega | rfl | (simp only [bytesV_length, intsV_length, boolsV_length]; omega) | (simp [bytesV_length, intsV_length, boolsV_length]; done) | (simp [bytesV_length, intsV_length, boolsV_length]; omega) | (simp [maxLen, bytesV_length, intsV_length, boolsV_length] at *; omega))) rfl rfl rfl ?_
    refine G.yl (yl_move rfl) rfl rfl rfl ?_
    have h2 : Sat W w (arr none 0 0 1 5 (bytesV []) :: R) := h.arr_nil 1 5
    refine G.does (does_appendZeros (e := 5) (bytes := 1) (zz := (.int .u8 0)) (m := n) Try.underlying22 Try.underlying3 (by kernel_rfl) (by kernel_rfl) rfl rfl h2 rfl rfl (by first | omega | rfl | (simp only [bytesV_length, intsV_length, boolsV_length]; omega) | (simp [bytesV_length, intsV_length, boolsV_length]; done) | (simp [bytesV_length, intsV_length, boolsV_length]; omega) | (simp [maxLen, bytesV_length, intsV_length, boolsV_length] at *; omega)) (by first | omega | rfl | (simp only [bytesV_length, intsV_length, boolsV_length]; omega) | (simp [bytesV_length, intsV_length, boolsV_length]; done) | (simp [bytesV_length, intsV_length, boolsV_length]; omega) | (simp [maxLen, bytesV_length, intsV_length, boolsV_length] at *; omega)) (by first | omega | rfl | (simp only [bytesV_length, intsV_length, boolsV_length]; omega) | (simp [bytesV_length, intsV_length, boolsV_length]; done) | (simp [bytesV_length, intsV_length, boolsV_length]; omega) | (simp [maxLen, bytesV_length, intsV_length, boolsV_length] at *; omega)) (r := n) (by omega)) rfl rfl rfl ?_
    rintro _ w5 ⟨a3, c4, rfl, h7⟩
    have h6 : Sat W w5 (arr a3 n c4 1 5 (bytesV (List.replicate n 0)) :: R) := sl_cast (by simp [bytesV, byteV]) h7
    refine G.yl (yl_move rfl) rfl rfl rfl ?_
    refine G.yl (yl_len Try.underlying22 rfl) rfl rfl rfl ?_
    have hal8 := h6.arr_len
    rw [bytesV_length] at hal8
    refine G.yl (yl_slice_h (by kernel_rfl) (by kernel_rfl) rfl rfl (h := 0) (by first | omega | rfl | (simp only [bytesV_length, intsV_length, boolsV_length]; omega) | (simp [bytesV_length, intsV_length, boolsV_length]; done) | (simp [bytesV_length, intsV_length, boolsV_length]; omega) | (simp [maxLen, bytesV_length, intsV_length, boolsV_length] at *; omega)) (by first | omega | rfl | (simp only [bytesV_length, intsV_length, boolsV_length]; omega) | (simp [bytesV_length, intsV_length, boolsV_length]; done) | (simp [bytesV_length, intsV_length, boolsV_length]; omega) | (simp [maxLen, bytesV_length, intsV_length, boolsV_length] at *; omega))) rfl rfl rfl ?_
    refine G.yl (yl_assign rfl) rfl rfl rfl ?_
    refine G.nil ?_
    refine QA.then_normal ?_
    refine C.seq ?_
    refine C.region ?_
    refine G.yl (yl_move rfl) rfl rfl rfl ?_
    refine G.yl (yl_assign rfl) rfl rfl rfl ?_
    refine G.nil ?_
    refine QA.then_normal ?_
    refine C.ret ?_
    refine QA.ret1 rfl rfl ?_
    have h9 : Sat W w5 (arr a3 0 c4 1 5 (bytesV []) :: R) := sl_cast (by simp [bytesV]) (Sat.arr_take h6 0 (Nat.zero_le _))
    exact ⟨a3, c4, rfl, (sl_cast (by first | rfl | (simp; done) | (simp; omega)) h9)⟩
  · refine C.cond_f rfl (decide_eq_false hc1) ?_
    refine C.skip ?_
    refine QA.then_normal ?_
    refine C.seq ?_
    refine C.region ?_
    refine G.yl (yl_move rfl) rfl rfl rfl ?_
    refine G.yl (yl_assign rfl) rfl rfl rfl ?_
    refine G.nil ?_
    refine QA.then_normal ?_
    refine C.ret ?_
    refine QA.ret1 rfl rfl ?_
    have h10 : Sat W w (arr none 0 0 1 5 (bytesV []) :: R) := h.arr_nil 1 5
    exact ⟨none, 0, rfl, (sl_cast (by first | rfl | (simp; done) | (simp; omega)) h10)⟩

def pick3 (a b c : Nat) : Nat → Nat
  | 0 => a
  | 1 => b
  | _ => c
def pick3L (a b c : List UInt8) : Nat → List UInt8
  | 0 => a
  | 1 => b
  | _ => c

set_option maxRecDepth 20000 in
theorem concat_two {W w : World} {R : List Res} {q : Nat} {a1 a2 : Option Addr} {n1 n2 c1 c2 : Nat} {xs ys : List UInt8} (h : Sat W w (blk q [(.slice a1 n1 c1), (.slice a2 n2 c2)] 22 :: rd W a1 (bytesV xs) :: rd W a2 (bytesV ys) :: R)) (hn1 : n1 = xs.length) (hn2 : n2 = ys.length) (hm : xs.length + ys.length ≤ 140737488355328) :
    Calls Try.prog 70 #[(.slice (some ⟨q, 0, none⟩) 2 2)] w (Ret fun v w' => ∃ a : Option Addr, ∃ c : Nat, v = (.slice a (n1 + n2) c) ∧ Sat W w' (arr a (n1 + n2) c 1 5 (bytesV (xs ++ ys)) :: rd W a1 (bytesV xs) :: rd W a2 (bytesV ys) :: R)) := by
  refine C.enter (N := 36) Try.func70 rfl Try.ntmps70 rfl ?_
  show C _ _ _ [(0, (.slice (some ⟨q, 0, none⟩) 2 2))] _ _
  refine C.seq ?_
  refine C.region ?_
  refine G.yl (yl_assign rfl) rfl rfl rfl ?_
  refine G.nil ?_
  refine QA.then_normal ?_
  refine C.seq ?_
  refine C.region ?_
  refine G.yl (yl_assign rfl) rfl rfl rfl ?_
  refine G.nil ?_
  refine QA.then_normal ?_
  refine C.seq ?_
  refine C.seq ?_
  refine C.region ?_
  refine G.yl (yl_move rfl) rfl rfl rfl ?_
  refine G.yl (yl_len Try.underlying150 rfl) rfl rfl rfl ?_
  refine G.yl (yl_move rfl) rfl rfl rfl ?_
  refine G.nil ?_
  refine QA.then_normal ?_
  refine C.block ?_
  refine C.loop (fun (k : Nat) => [(0, (.slice (some ⟨q, 0, none⟩) 2 2)), (3, (.int .i64 ((pick3 0 n1 (n1 + n2) k : Nat) : Int))), (9, (.slice (some ⟨q, 0, none⟩) 2 2)), (10, (.int .i64 2)), (11, (.int .i64 (k : Int)))]) (fun (k : Nat) (ww : World) => (k ≤ 2) ∧ Sat W ww (blk q [(.slice a1 n1 c1), (.slice a2 n2 c2)] 22 :: rd W a1 (bytesV xs) :: rd W a2 (bytesV ys) :: R)) (fun (k : Nat) => 2 - k) (0) (Sub.cons rfl (Sub.cons (look_int rfl (by first | rfl | omega | (simp; omega) | simp)) (Sub.cons rfl (Sub.cons rfl (Sub.cons (look_int rfl (by first | rfl | omega | (simp; omega) | simp)) (Sub.nil _)))))) ⟨(by omega), (sl_cast (by first | rfl | (simp; done) | (simp; omega)) (((h.f2).f2).f2))⟩ ?_
  rintro k w1 ⟨hk, h2⟩
  show C _ _ _ [(0, (.slice (some ⟨q, 0, none⟩) 2 2)), (3, (.int .i64 ((pick3 0 n1 (n1 + n2) k : Nat) : Int))), (9, (.slice (some ⟨q, 0, none⟩) 2 2)), (10, (.int .i64 2)), (11, (.int .i64 (k : Int)))] _ _
  obtain rfl | rfl | rfl : k = 0 ∨ k = 1 ∨ k = 2 := by omega
  · show C _ _ _ [(0, (.slice (some ⟨q, 0, none⟩) 2 2)), (3, (.int .i64 0)), (9, (.slice (some ⟨q, 0, none⟩) 2 2)), (10, (.int .i64 2)), (11, (.int .i64 0))] _ _
    have h3 : Sat W w1 (blk q [(.slice a1 n1 c1), (.slice a2 n2 c2)] 22 :: rd W a1 (bytesV xs) :: rd W a2 (bytesV ys) :: R) := h2
    refine C.seq ?_
    refine C.region ?_
    refine G.yl (yl_cmp rfl rfl rfl) rfl rfl rfl ?_
    refine G.nil ?_
    refine QA.then_normal ?_
    refine C.seq ?_
    refine C.cond_t rfl (by decide) ?_
    refine C.skip ?_
    refine QA.then_normal ?_
    refine C.seq ?_
    refine C.block ?_
    refine C.seq ?_
    refine C.region ?_
    refine G.yl (yl_indexAddr (s := 1) (off := 0) (by kernel_rfl) (by kernel_rfl) rfl rfl (by first | omega | rfl | (simp only [bytesV_length, intsV_length, boolsV_length]; omega) | (simp [bytesV_length, intsV_length, boolsV_length]; done) | (simp [bytesV_length, intsV_length, boolsV_length]; omega) | (simp [maxLen, bytesV_length, intsV_length, boolsV_length] at *; omega)) (by first | omega | rfl | (simp only [bytesV_length, intsV_length, boolsV_length]; omega) | (simp [bytesV_length, intsV_length, boolsV_length]; done) | (simp [bytesV_length, intsV_length, boolsV_length]; omega) | (simp [maxLen, bytesV_length, intsV_length, boolsV_length] at *; omega))) rfl rfl rfl ?_
    refine G.yl (yl_load (by kernel_rfl) rfl (h3.isBlk.cell rfl)) rfl rfl rfl ?_
    refine G.yl (yl_assign rfl) rfl rfl rfl ?_
    refine G.nil ?_
    refine QA.then_normal ?_
    refine C.seq ?_
    refine C.region ?_
    refine G.yl (yl_move rfl) rfl rfl rfl ?_
    refine G.yl (yl_move rfl) rfl rfl rfl ?_
    refine G.yl (yl_len Try.underlying22 rfl) rfl rfl rfl ?_
    refine G.yl (yl_arith rfl rfl (add64 (r := ((0 + n1 : Nat) : Int)) (by first | omega | rfl | (simp only [bytesV_length, intsV_length, boolsV_length]; omega) | (simp [bytesV_length, intsV_length, boolsV_length]; done) | (simp [bytesV_length, intsV_length, boolsV_length]; omega) | (simp [maxLen, bytesV_length, intsV_length, boolsV_length] at *; omega)))) rfl rfl rfl ?_
    refine G.yl (yl_assign rfl) rfl rfl rfl ?_
    refine G.nil ?_
    refine QA.then_normal ?_
    refine C.seq ?_
    refine C.region ?_
    refine G.yl (yl_move rfl) rfl rfl rfl ?_
    refine G.yl (yl_cmp rfl rfl rfl) rfl rfl rfl ?_
    refine G.nil ?_
    refine QA.then_normal ?_
    refine C.cond_f rfl (decide_eq_false (by first | omega | rfl | (simp only [bytesV_length, intsV_length, boolsV_length]; omega) | (simp [bytesV_length, intsV_length, boolsV_length]; done) | (simp [bytesV_length, intsV_length, boolsV_length]; omega) | (simp [maxLen, bytesV_length, intsV_length, boolsV_length] at *; omega))) ?_
    refine C.skip ?_
    refine QA.block_normal ?_
    refine QA.then_normal ?_
    refine C.region ?_
    refine G.yl (yl_arith rfl rfl (add64 (r := 1) (by first | omega | rfl | (simp only [bytesV_length, intsV_length, boolsV_length]; omega) | (simp [bytesV_length, intsV_length, boolsV_length]; done) | (simp [bytesV_length, intsV_length, boolsV_length]; omega) | (simp [maxLen, bytesV_length, intsV_length, boolsV_length] at *; omega)))) rfl rfl rfl ?_
    refine G.yl (yl_move rfl) rfl rfl rfl ?_
    refine G.nil ?_
    exact QA.again (1) (Sub.cons rfl (Sub.cons (look_eq rfl (by simp [pick3])) (Sub.cons rfl (Sub.cons rfl (Sub.cons (look_int rfl (by first | rfl | omega | (simp; omega) | simp)) (Sub.nil _)))))) ⟨(by omega), (sl_cast (by first | rfl | (simp; done) | (simp; omega)) (((h3.f2).f2).f2))⟩ (by first | omega | (dsimp only; omega) | (simp; omega) | (simp; done))
  · show C _ _ _ [(0, (.slice (some ⟨q, 0, none⟩) 2 2)), (3, (.int .i64 (n1 : Int))), (9, (.slice (some ⟨q, 0, none⟩) 2 2)), (10, (.int .i64 2)), (11, (.int .i64 1))] _ _
    have h4 : Sat W w1 (blk q [(.slice a1 n1 c1), (.slice a2 n2 c2)] 22 :: rd W a1 (bytesV xs) :: rd W a2 (bytesV ys) :: R) := h2
    refine C.seq ?_
    refine C.region ?_
    refine G.yl (yl_cmp rfl rfl rfl) rfl rfl rfl ?_
    refine G.nil ?_
    refine QA.then_normal ?_
    refine C.seq ?_
    refine C.cond_t rfl (by decide) ?_
    refine C.skip ?_
    refine QA.then_normal ?_
    refine C.seq ?_
    refine C.block ?_
    refine C.seq ?_
    refine C.region ?_
    refine G.yl (yl_indexAddr (s := 1) (off := 1) (by kernel_rfl) (by kernel_rfl) rfl rfl (by first | omega | rfl | (simp only [bytesV_length, intsV_length, boolsV_length]; omega) | (simp [bytesV_length, intsV_length, boolsV_length]; done) | (simp [bytesV_length, intsV_length, boolsV_length]; omega) | (simp [maxLen, bytesV_length, intsV_length, boolsV_length] at *; omega)) (by first | omega | rfl | (simp only [bytesV_length, intsV_length, boolsV_length]; omega) | (simp [bytesV_length, intsV_length, boolsV_length]; done) | (simp [bytesV_length, intsV_length, boolsV_length]; omega) | (simp [maxLen, bytesV_length, intsV_length, boolsV_length] at *; omega))) rfl rfl rfl ?_
    refine G.yl (yl_load (by kernel_rfl) rfl (h4.isBlk.cell rfl)) rfl rfl rfl ?_
    refine G.yl (yl_assign rfl) rfl rfl rfl ?_
    refine G.nil ?_
    refine QA.then_normal ?_
    refine C.seq ?_
    refine C.region ?_
    refine G.yl (yl_move rfl) rfl rfl rfl ?_
    refine G.yl (yl_move rfl) rfl rfl rfl ?_
    refine G.yl (yl_len Try.underlying22 rfl) rfl rfl rfl ?_
    refine G.yl (yl_arith rfl rfl (add64 (r := ((n1 + n2 : Nat) : Int)) (by first | omega | rfl | (simp only [bytesV_length, intsV_length, boolsV_length]; omega) | (simp [bytesV_length, intsV_length, boolsV_length]; done) | (simp [bytesV_length, intsV_length, boolsV_length]; omega) | (simp [maxLen, bytesV_length, intsV_length, boolsV_length] at *; omega)))) rfl rfl rfl ?_
    refine G.yl (yl_assign rfl) rfl rfl rfl ?_
    refine G.nil ?_
    refine QA.then_normal ?_
    refine C.seq ?_
    refine C.region ?_
    refine G.yl (yl_move rfl) rfl rfl rfl ?_
    refine G.yl (yl_cmp rfl rfl rfl) rfl rfl rfl ?_
    refine G.nil ?_
    refine QA.then_normal ?_
    refine C.cond_f rfl (decide_eq_false (by first | omega | rfl | (simp only [bytesV_length, intsV_length, boolsV_length]; omega) | (simp [bytesV_length, intsV_length, boolsV_length]; done) | (simp [bytesV_length, intsV_length, boolsV_length]; omega) | (simp [maxLen, bytesV_length, intsV_length, boolsV_length] at *; omega))) ?_
    refine C.skip ?_
    refine QA.block_normal ?_
    refine QA.then_normal ?_
    refine C.region ?_
    refine G.yl (yl_arith rfl rfl (add64 (r := 2) (by first | omega | rfl | (simp only [bytesV_length, intsV_length, boolsV_length]; omega) | (simp [bytesV_length, intsV_length, boolsV_length]; done) | (simp [bytesV_length, intsV_length, boolsV_length]; omega) | (simp [maxLen, bytesV_length, intsV_length, boolsV_length] at *; omega)))) rfl rfl rfl ?_
    refine G.yl (yl_move rfl) rfl rfl rfl ?_
    refine G.nil ?_
    exact QA.again (2) (Sub.cons rfl (Sub.cons (look_eq rfl (by simp [pick3])) (Sub.cons rfl (Sub.cons rfl (Sub.cons (look_int rfl (by first | rfl | omega | (simp; omega) | simp)) (Sub.nil _)))))) ⟨(by omega), (sl_cast (by first | rfl | (simp; done) | (simp; omega)) (((h4.f2).f2).f2))⟩ (by first | omega | (dsimp only; omega) | (simp; omega) | (simp; done))
  · show C _ _ _ [(0, (.slice (some ⟨q, 0, none⟩) 2 2)), (3, (.int .i64 ((n1 + n2 : Nat) : Int))), (9, (.slice (some ⟨q, 0, none⟩) 2 2)), (10, (.int .i64 2)), (11, (.int .i64 2))] _ _
    have h5 : Sat W w1 (blk q [(.slice a1 n1 c1), (.slice a2 n2 c2)] 22 :: rd W a1 (bytesV xs) :: rd W a2 (bytesV ys) :: R) := h2
    refine C.seq ?_
    refine C.region ?_
    refine G.yl (yl_cmp rfl rfl rfl) rfl rfl rfl ?_
    refine G.nil ?_
    refine QA.then_normal ?_
    refine C.seq ?_
    refine C.cond_f rfl (by decide) ?_
    refine C.exit ?_
    refine QA.then_exit ?_
    refine QA.then_exit ?_
    refine QA.block_here ?_
    refine QA.then_normal ?_
    refine C.seq ?_
    refine C.region ?_
    refine G.yl (yl_move rfl) rfl rfl rfl ?_
    refine G.does (does_call (F := 106) (args := [(.slice none 0 0), (.int .i64 ((n1 + n2 : Nat) : Int))]) rfl rfl rfl en106 (grow_bytes (n := n1 + n2) h5 (by first | omega | rfl | (simp only [bytesV_length, intsV_length, boolsV_length]; omega) | (simp [bytesV_length, intsV_length, boolsV_length]; done) | (simp [bytesV_length, intsV_length, boolsV_length]; omega) | (simp [maxLen, bytesV_length, intsV_length, boolsV_length] at *; omega)))) rfl rfl rfl ?_
    rintro _ w6 ⟨a8, c9, rfl, h7⟩
    refine G.yl (yl_assign rfl) rfl rfl rfl ?_
    refine G.nil ?_
    refine QA.then_normal ?_
    refine C.seq ?_
    refine C.seq ?_
    refine C.region ?_
    refine G.yl (yl_move rfl) rfl rfl rfl ?_
    refine G.yl (yl_len Try.underlying150 rfl) rfl rfl rfl ?_
    refine G.yl (yl_move rfl) rfl rfl rfl ?_
    refine G.nil ?_
    refine QA.then_normal ?_
    refine C.block ?_
    refine C.loop (fun (g : Nat × Option Addr × Nat) => match g with | (k, a, c) => [(0, (.slice (some ⟨q, 0, none⟩) 2 2)), (6, (.slice a (pick3 0 n1 (n1 + n2) k) c)), (25, (.slice (some ⟨q, 0, none⟩) 2 2)), (26, (.int .i64 2)), (27, (.int .i64 (k : Int)))]) (fun (g : Nat × Option Addr × Nat) (ww : World) => match g with | (k, a, c) => (k ≤ 2) ∧ Sat W ww (blk q [(.slice a1 n1 c1), (.slice a2 n2 c2)] 22 :: rd W a1 (bytesV xs) :: rd W a2 (bytesV ys) :: arr a (pick3 0 n1 (n1 + n2) k) c 1 5 (bytesV (pick3L [] xs (xs ++ ys) k)) :: R)) (fun (g : Nat × Option Addr × Nat) => match g with | (k, a, c) => 2 - k) (0, a8, c9) (Sub.cons rfl (Sub.cons (look_eq rfl (by first | rfl | (simp; done) | (simp; omega))) (Sub.cons rfl (Sub.cons rfl (Sub.cons (look_int rfl (by first | rfl | omega | (simp; omega) | simp)) (Sub.nil _)))))) ⟨(by omega), (sl_cast (by first | rfl | (simp; done) | (simp; omega)) (((h7.f3).f3).f3))⟩ ?_
    rintro ⟨k, a, c⟩ w10 ⟨hk, h11⟩
    show C _ _ _ [(0, (.slice (some ⟨q, 0, none⟩) 2 2)), (6, (.slice a (pick3 0 n1 (n1 + n2) k) c)), (25, (.slice (some ⟨q, 0, none⟩) 2 2)), (26, (.int .i64 2)), (27, (.int .i64 (k : Int)))] _ _
    obtain rfl | rfl | rfl : k = 0 ∨ k = 1 ∨ k = 2 := by omega
    · show C _ _ _ [(0, (.slice (some ⟨q, 0, none⟩) 2 2)), (6, (.slice a 0 c)), (25, (.slice (some ⟨q, 0, none⟩) 2 2)), (26, (.int .i64 2)), (27, (.int .i64 0))] _ _
      have h12 : Sat W w10 (blk q [(.slice a1 n1 c1), (.slice a2 n2 c2)] 22 :: rd W a1 (bytesV xs) :: rd W a2 (bytesV ys) :: arr a 0 c 1 5 (bytesV ([])) :: R) := h11
      refine C.seq ?_
      refine C.region ?_
      refine G.yl (yl_cmp rfl rfl rfl) rfl rfl rfl ?_
      refine G.nil ?_
      refine QA.then_normal ?_
      refine C.seq ?_
      refine C.cond_t rfl (by decide) ?_
      refine C.skip ?_
      refine QA.then_normal ?_
      refine C.seq ?_
      refine C.block ?_
      refine C.seq ?_
      refine C.region ?_
      refine G.yl (yl_indexAddr (s := 1) (off := 0) (by kernel_rfl) (by kernel_rfl) rfl rfl (by first | omega | rfl | (simp only [bytesV_length, intsV_length, boolsV_length]; omega) | (simp [bytesV_length, intsV_length, boolsV_length]; done) | (simp [bytesV_length, intsV_length, boolsV_length]; omega) | (simp [maxLen, bytesV_length, intsV_length, boolsV_length] at *; omega)) (by first | omega | rfl | (simp only [bytesV_length, intsV_length, boolsV_length]; omega) | (simp [bytesV_length, intsV_length, boolsV_length]; done) | (simp [bytesV_length, intsV_length, boolsV_length]; omega) | (simp [maxLen, bytesV_length, intsV_length, boolsV_length] at *; omega))) rfl rfl rfl ?_
      refine G.yl (yl_load (by kernel_rfl) rfl (h12.isBlk.cell rfl)) rfl rfl rfl ?_
      refine G.yl (yl_assign rfl) rfl rfl rfl ?_
      refine G.nil ?_
      refine QA.then_normal ?_
      refine C.region ?_
      refine G.yl (yl_move rfl) rfl rfl rfl ?_
      refine G.yl (yl_move rfl) rfl rfl rfl ?_
      refine G.does (does_append (ys := bytesV xs) (e := 5) (s := 1) (bytes := 1) Try.underlying22 (by kernel_rfl) (h12.f3) rfl rfl (h12.f1).rd_view (by first | omega | rfl | (simp only [bytesV_length, intsV_length, boolsV_length]; omega) | (simp [bytesV_length, intsV_length, boolsV_length]; done) | (simp [bytesV_length, intsV_length, boolsV_length]; omega) | (simp [maxLen, bytesV_length, intsV_length, boolsV_length] at *; omega)) (bytesV_one _) (by first | omega | rfl | (simp only [bytesV_length, intsV_length, boolsV_length]; omega) | (simp [bytesV_length, intsV_length, boolsV_length]; done) | (simp [bytesV_length, intsV_length, boolsV_length]; omega) | (simp [maxLen, bytesV_length, intsV_length, boolsV_length] at *; omega)) (by first | omega | rfl | (simp only [bytesV_length, intsV_length, boolsV_length]; omega) | (simp [bytesV_length, intsV_length, boolsV_length]; done) | (simp [bytesV_length, intsV_length, boolsV_length]; omega) | (simp [maxLen, bytesV_length, intsV_length, boolsV_length] at *; omega)) (fun e => by (subst e; have hz := bytesV_nil (View.none_nil (h12.f1).rd_view); have hl : xs.length = 0 := (by rw [hz]; rfl); first | omega | (simp only [List.length_drop, List.length_take, List.length_append] at hl; omega) | (simp only [List.length_drop, List.length_take, List.length_append] at hl; done) | (simp at hl; done) | (simp at hl; omega))) (r := n1) (by omega)) rfl rfl rfl ?_
      rintro _ w15 ⟨a13, c14, rfl, _, h17⟩
      have h16 : Sat W w15 (arr a13 n1 c14 1 5 (bytesV xs) :: blk q [(.slice a1 n1 c1), (.slice a2 n2 c2)] 22 :: rd W a1 (bytesV xs) :: rd W a2 (bytesV ys) :: R) := sl_cast (by simp [bytesV, byteV]) h17
      refine G.yl (yl_assign rfl) rfl rfl rfl ?_
      refine G.nil ?_
      refine QA.block_normal ?_
      refine QA.then_normal ?_
      refine C.region ?_
      refine G.yl (yl_arith rfl rfl (add64 (r := 1) (by first | omega | rfl | (simp only [bytesV_length, intsV_length, boolsV_length]; omega) | (simp [bytesV_length, intsV_length, boolsV_length]; done) | (simp [bytesV_length, intsV_length, boolsV_length]; omega) | (simp [maxLen, bytesV_length, intsV_length, boolsV_length] at *; omega)))) rfl rfl rfl ?_
      refine G.yl (yl_move rfl) rfl rfl rfl ?_
      refine G.nil ?_
      exact QA.again (1, a13, c14) (Sub.cons rfl (Sub.cons (look_eq rfl (by simp [pick3])) (Sub.cons rfl (Sub.cons rfl (Sub.cons (look_int rfl (by first | rfl | omega | (simp; omega) | simp)) (Sub.nil _)))))) ⟨(by omega), (sl_cast (by simp [pick3, pick3L]) (((h16.f3).f3).f3))⟩ (by first | omega | (dsimp only; omega) | (simp; omega) | (simp; done))
    · show C _ _ _ [(0, (.slice (some ⟨q, 0, none⟩) 2 2)), (6, (.slice a n1 c)), (25, (.slice (some ⟨q, 0, none⟩) 2 2)), (26, (.int .i64 2)), (27, (.int .i64 1))] _ _
      have h18 : Sat W w10 (blk q [(.slice a1 n1 c1), (.slice a2 n2 c2)] 22 :: rd W a1 (bytesV xs) :: rd W a2 (bytesV ys) :: arr a n1 c 1 5 (bytesV (xs)) :: R) := h11
      refine C.seq ?_
      refine C.region ?_
      refine G.yl (yl_cmp rfl rfl rfl) rfl rfl rfl ?_
      refine G.nil ?_
      refine QA.then_normal ?_
      refine C.seq ?_
      refine C.cond_t rfl (by decide) ?_
      refine C.skip ?_
      refine QA.then_normal ?_
      refine C.seq ?_
      refine C.block ?_
      refine C.seq ?_
      refine C.region ?_
      refine G.yl (yl_indexAddr (s := 1) (off := 1) (by kernel_rfl) (by kernel_rfl) rfl rfl (by first | omega | rfl | (simp only [bytesV_length, intsV_length, boolsV_length]; omega) | (simp [bytesV_length, intsV_length, boolsV_length]; done) | (simp [bytesV_length, intsV_length, boolsV_length]; omega) | (simp [maxLen, bytesV_length, intsV_length, boolsV_length] at *; omega)) (by first | omega | rfl | (simp only [bytesV_length, intsV_length, boolsV_length]; omega) | (simp [bytesV_length, intsV_length, boolsV_length]; done) | (simp [bytesV_length, intsV_length, boolsV_length]; omega) | (simp [maxLen, bytesV_length, intsV_length, boolsV_length] at *; omega))) rfl rfl rfl ?_
      refine G.yl (yl_load (by kernel_rfl) rfl (h18.isBlk.cell rfl)) rfl rfl rfl ?_
      refine G.yl (yl_assign rfl) rfl rfl rfl ?_
      refine G.nil ?_
      refine QA.then_normal ?_
      refine C.region ?_
      refine G.yl (yl_move rfl) rfl rfl rfl ?_
      refine G.yl (yl_move rfl) rfl rfl rfl ?_
      refine G.does (does_append (ys := bytesV ys) (e := 5) (s := 1) (bytes := 1) Try.underlying22 (by kernel_rfl) (h18.f3) rfl rfl (h18.f2).rd_view (by first | omega | rfl | (simp only [bytesV_length, intsV_length, boolsV_length]; omega) | (simp [bytesV_length, intsV_length, boolsV_length]; done) | (simp [bytesV_length, intsV_length, boolsV_length]; omega) | (simp [maxLen, bytesV_length, intsV_length, boolsV_length] at *; omega)) (bytesV_one _) (by first | omega | rfl | (simp only [bytesV_length, intsV_length, boolsV_length]; omega) | (simp [bytesV_length, intsV_length, boolsV_length]; done) | (simp [bytesV_length, intsV_length, boolsV_length]; omega) | (simp [maxLen, bytesV_length, intsV_length, boolsV_length] at *; omega)) (by first | omega | rfl | (simp only [bytesV_length, intsV_length, boolsV_length]; omega) | (simp [bytesV_length, intsV_length, boolsV_length]; done) | (simp [bytesV_length, intsV_length, boolsV_length]; omega) | (simp [maxLen, bytesV_length, intsV_length, boolsV_length] at *; omega)) (fun e => by (subst e; have hz := bytesV_nil (View.none_nil (h18.f2).rd_view); have hl : ys.length = 0 := (by rw [hz]; rfl); first | omega | (simp only [List.length_drop, List.length_take, List.length_append] at hl; omega) | (simp only [List.length_drop, List.length_take, List.length_append] at hl; done) | (simp at hl; done) | (simp at hl; omega))) (r := (n1 + n2)) (by omega)) rfl rfl rfl ?_
      rintro _ w21 ⟨a19, c20, rfl, _, h23⟩
      have h22 : Sat W w21 (arr a19 (n1 + n2) c20 1 5 (bytesV (xs ++ ys)) :: blk q [(.slice a1 n1 c1), (.slice a2 n2 c2)] 22 :: rd W a1 (bytesV xs) :: rd W a2 (bytesV ys) :: R) := sl_cast (by simp [bytesV, byteV]) h23
      refine G.yl (yl_assign rfl) rfl rfl rfl ?_
      refine G.nil ?_
      refine QA.block_normal ?_
      refine QA.then_normal ?_
      refine C.region ?_
      refine G.yl (yl_arith rfl rfl (add64 (r := 2) (by first | omega | rfl | (simp only [bytesV_length, intsV_length, boolsV_length]; omega) | (simp [bytesV_length, intsV_length, boolsV_length]; done) | (simp [bytesV_length, intsV_length, boolsV_length]; omega) | (simp [maxLen, bytesV_length, intsV_length, boolsV_length] at *; omega)))) rfl rfl rfl ?_
      refine G.yl (yl_move rfl) rfl rfl rfl ?_
      refine G.nil ?_
      exact QA.again (2, a19, c20) (Sub.cons rfl (Sub.cons (look_eq rfl (by simp [pick3])) (Sub.cons rfl (Sub.cons rfl (Sub.cons (look_int rfl (by first | rfl | omega | (simp; omega) | simp)) (Sub.nil _)))))) ⟨(by omega), (sl_cast (by simp [pick3, pick3L]) (((h22.f3).f3).f3))⟩ (by first | omega | (dsimp only; omega) | (simp; omega) | (simp; done))
    · show C _ _ _ [(0, (.slice (some ⟨q, 0, none⟩) 2 2)), (6, (.slice a (n1 + n2) c)), (25, (.slice (some ⟨q, 0, none⟩) 2 2)), (26, (.int .i64 2)), (27, (.int .i64 2))] _ _
      have h24 : Sat W w10 (blk q [(.slice a1 n1 c1), (.slice a2 n2 c2)] 22 :: rd W a1 (bytesV xs) :: rd W a2 (bytesV ys) :: arr a (n1 + n2) c 1 5 (bytesV (xs ++ ys)) :: R) := h11
      refine C.seq ?_
      refine C.region ?_
      refine G.yl (yl_cmp rfl rfl rfl) rfl rfl rfl ?_
      refine G.nil ?_
      refine QA.then_normal ?_
      refine C.seq ?_
      refine C.cond_f rfl (by decide) ?_
      refine C.exit ?_
      refine QA.then_exit ?_
      refine QA.then_exit ?_
      refine QA.block_here ?_
      refine QA.then_normal ?_
      refine C.seq ?_
      refine C.region ?_
      refine G.yl (yl_move rfl) rfl rfl rfl ?_
      refine G.yl (yl_assign rfl) rfl rfl rfl ?_
      refine G.nil ?_
      refine QA.then_normal ?_
      refine C.ret ?_
      refine QA.ret1 rfl rfl ?_
      exact ⟨a, c, rfl, (sl_cast (by first | rfl | (simp; done) | (simp; omega)) (Sat.keep 3 1 (((h24.f2).f2).f3)))⟩

def addE (bs xs : List UInt8) : Int := if (xs.length : Int) > 65536 - bs.length then 31 else 0
def addB (bs xs : List UInt8) : List UInt8 := if (xs.length : Int) > 65536 - bs.length then bs else bs ++ xs

set_option maxRecDepth 20000 in
theorem add_src {W w : World} {R : List Res} {p : Nat} {bs : List UInt8} {a : Option Addr} {n c : Nat} {xs : List UInt8} (h : Sat W w (Src W p bs :: R)) (hv : View W a (bytesV xs)) (hn : n = xs.length) (hm : xs.length ≤ 140737488355328) (hb : bs.length ≤ 65536) :
    Calls Try.prog 26 #[(.pointer (some ⟨p, 0, none⟩)), (.slice a n c)] w (Ret fun v w' => v = (.int .i64 (addE bs xs)) ∧ Sat W w' (Src W p (addB bs xs) :: R)) := by
  refine C.enter (N := 28) Try.func26 rfl Try.ntmps26 rfl ?_
  show C _ _ _ [(0, (.pointer (some ⟨p, 0, none⟩))), (1, (.slice a n c))] _ _
  refine C.seq ?_
  refine C.region ?_
  refine G.yl (yl_assign rfl) rfl rfl rfl ?_
  refine G.nil ?_
  refine QA.then_normal ?_
  refine C.seq ?_
  refine C.block ?_
  refine C.seq ?_
  refine C.region ?_
  refine G.yl (yl_move rfl) rfl rfl rfl ?_
  refine G.does (does_call (F := 69) (args := [(.pointer (some ⟨p, 0, none⟩))]) rfl rfl rfl en69 (none_src (p := p) (bs := bs) h )) rfl rfl rfl ?_
  rintro _ w1 ⟨rfl, h2⟩
  refine G.yl (yl_assign rfl) rfl rfl rfl ?_
  refine G.nil ?_
  refine QA.then_normal ?_
  refine C.cond_f rfl rfl ?_
  refine C.seq ?_
  refine C.region ?_
  refine G.yl (yl_move rfl) rfl rfl rfl ?_
  refine G.yl (yl_len Try.underlying22 rfl) rfl rfl rfl ?_
  refine G.yl (yl_move rfl) rfl rfl rfl ?_
  obtain ⟨a3, n4, c5, ho7, ho8, h6⟩ := Src.open h2
  refine G.yl (yl_nilCheck rfl) rfl rfl rfl ?_
  refine G.yl (yl_fieldAddr (off := 1) (by kernel_rfl) rfl) rfl rfl rfl ?_
  refine G.yl (yl_load (by kernel_rfl) rfl (h6.isBlk.cell rfl)) rfl rfl rfl ?_
  refine G.yl (yl_len Try.underlying22 rfl) rfl rfl rfl ?_
  refine G.yl (yl_arith rfl rfl (sub64 (r := (65536 : Int) - (n4 : Int)) (by first | omega | rfl | (simp only [bytesV_length, intsV_length, boolsV_length]; omega) | (simp [bytesV_length, intsV_length, boolsV_length]; done) | (simp [bytesV_length, intsV_length, boolsV_length]; omega) | (simp [maxLen, bytesV_length, intsV_length, boolsV_length] at *; omega)))) rfl rfl rfl ?_
  refine G.yl (yl_cmp rfl rfl rfl) rfl rfl rfl ?_
  refine G.yl (yl_assign rfl) rfl rfl rfl ?_
  refine G.nil ?_
  refine QA.then_normal ?_
  by_cases hc9 : ((n : Int) > (65536 : Int) - (n4 : Int))
  · refine C.cond_t rfl (decide_eq_true hc9) ?_
    refine C.seq ?_
    refine C.region ?_
    refine G.yl (yl_assign rfl) rfl rfl rfl ?_
    refine G.nil ?_
    refine QA.then_normal ?_
    refine C.ret ?_
    refine QA.block_ret ?_
    refine QA.then_ret ?_
    refine QA.ret1 rfl rfl ?_
    exact ⟨(by unfold addE; rw [if_pos (by omega)]), (sl_cast (by unfold addB; rw [if_pos (by omega)]) (Src.shut (sl_cast (by first | rfl | (simp; done) | (simp; omega)) ((h6.f1).f1)) (by first | omega | rfl | (simp only [bytesV_length, intsV_length, boolsV_length]; omega) | (simp [bytesV_length, intsV_length, boolsV_length]; done) | (simp [bytesV_length, intsV_length, boolsV_length]; omega) | (simp [maxLen, bytesV_length, intsV_length, boolsV_length] at *; omega)) (by first | omega | rfl | (simp only [bytesV_length, intsV_length, boolsV_length]; omega) | (simp [bytesV_length, intsV_length, boolsV_length]; done) | (simp [bytesV_length, intsV_length, boolsV_length]; omega) | (simp [maxLen, bytesV_length, intsV_length, boolsV_length] at *; omega))))⟩
  · refine C.cond_f rfl (decide_eq_false hc9) ?_
    refine C.skip ?_
    refine QA.block_normal ?_
    refine QA.then_normal ?_
    refine C.seq ?_
    refine C.region ?_
    refine G.yl (yl_move rfl) rfl rfl rfl ?_
    refine G.yl (yl_move rfl) rfl rfl rfl ?_
    refine G.yl (yl_nilCheck rfl) rfl rfl rfl ?_
    refine G.yl (yl_fieldAddr (off := 1) (by kernel_rfl) rfl) rfl rfl rfl ?_
    refine G.yl (yl_load (by kernel_rfl) rfl (h6.isBlk.cell rfl)) rfl rfl rfl ?_
    have h10 : Sat W w1 (rd W a (bytesV xs) :: blk p [(.bool true), (.slice a3 n4 c5)] 51 :: rd W a3 (bytesV bs) :: R) := Sat.rd_old hv h6
    refine G.yl (yl_move rfl) rfl rfl rfl ?_
    refine G.does (does_buildSlice (vs := [(.slice a3 n4 c5), (.slice a n c)]) (cs := [(.slice a3 n4 c5), (.slice a n c)]) (e := 22) h10 rfl (by kernel_rfl)) rfl rfl rfl ?_
    rintro _ w12 ⟨b11, rfl, h13⟩
    refine G.does (does_call (F := 70) (args := [(.slice (some ⟨b11, 0, none⟩) 2 2)]) rfl rfl rfl en70 (concat_two (q := b11) (a1 := a3) (n1 := n4) (c1 := c5) (a2 := a) (n2 := n) (c2 := c) (xs := bs) (ys := xs) (((h13.f1).f3).f2) (by first | omega | rfl | (simp only [bytesV_length, intsV_length, boolsV_length]; omega) | (simp [bytesV_length, intsV_length, boolsV_length]; done) | (simp [bytesV_length, intsV_length, boolsV_length]; omega) | (simp [maxLen, bytesV_length, intsV_length, boolsV_length] at *; omega)) (by first | omega | rfl | (simp only [bytesV_length, intsV_length, boolsV_length]; omega) | (simp [bytesV_length, intsV_length, boolsV_length]; done) | (simp [bytesV_length, intsV_length, boolsV_length]; omega) | (simp [maxLen, bytesV_length, intsV_length, boolsV_length] at *; omega)) (by first | omega | rfl | (simp only [bytesV_length, intsV_length, boolsV_length]; omega) | (simp [bytesV_length, intsV_length, boolsV_length]; done) | (simp [bytesV_length, intsV_length, boolsV_length]; omega) | (simp [maxLen, bytesV_length, intsV_length, boolsV_length] at *; omega)))) rfl rfl rfl ?_
    rintro _ w14 ⟨a16, c17, rfl, h15⟩
    refine G.yl (yl_nilCheck rfl) rfl rfl rfl ?_
    refine G.yl (yl_fieldAddr (off := 1) (by kernel_rfl) rfl) rfl rfl rfl ?_
    refine G.unit (does_store (n := 1) (vs := [(.slice a16 (n4 + n) c17)]) (h15.f3) (by kernel_rfl) rfl rfl rfl rfl (by simp [Value.oneCell']) (Nat.le_of_ble_eq_true rfl)) rfl rfl ?_
    rintro _ w18 h20
    have h19 : Sat W w18 (blk p [(.bool true), (.slice a16 (n4 + n) c17)] 51 :: arr a16 (n4 + n) c17 1 5 (bytesV (bs ++ xs)) :: rd W a3 (bytesV bs) :: rd W a (bytesV xs) :: R) := h20
    refine G.nil ?_
    refine QA.then_normal ?_
    refine C.seq ?_
    refine C.region ?_
    refine G.yl (yl_assign rfl) rfl rfl rfl ?_
    refine G.nil ?_
    refine QA.then_normal ?_
    refine C.ret ?_
    refine QA.ret1 rfl rfl ?_
    have hcl := (h19.f1).arr_len
    rw [bytesV_length] at hcl
    have h21 : Sat W w18 (rd W a16 (bytesV (bs ++ xs)) :: blk p [(.bool true), (.slice a16 (n4 + n) c17)] 51 :: rd W a3 (bytesV bs) :: rd W a (bytesV xs) :: R) := Sat.rd_of_arr (h19.f1)
    exact ⟨(by unfold addE; rw [if_neg (by omega)]), (sl_cast (by unfold addB; rw [if_neg (by omega)]) (Src.shut (sl_cast (by first | rfl | (simp; done) | (simp; omega)) (Sat.keep 2 2 (h21.f1))) (by simp; omega) (by omega)))⟩

theorem rs_more {W w : World} {R : List Res} {p T T' : Nat} {bs : List UInt8} (hT : T ≤ T' ∧ T' ≤ 140737488355328) (h : Sat W w (RSrc W p T bs :: R)) : Sat W w (RSrc W p T' bs :: R) := by
  obtain ⟨a, n, c, all, k, h1, h2, h3, h4, h5, h⟩ := RSrc.open h
  exact RSrc.shut h h1 h2 h3 h4 (by omega)

set_option maxRecDepth 20000 in
theorem add_ref {W w : World} {R : List Res} {p T : Nat} {bs : List UInt8} {a : Option Addr} {n c : Nat} {xs : List UInt8} (h : Sat W w (RSrc W p T bs :: R)) (hv : View W a (bytesV xs)) (hn : n = xs.length) (hm : T + xs.length ≤ 140737488355328) (hb : bs.length ≤ 65536) :
    Calls Try.prog 27 #[(.pointer (some ⟨p, 0, none⟩)), (.slice a n c)] w (Ret fun v w' => v = (.int .i64 (addE bs xs)) ∧ Sat W w' (RSrc W p (T + xs.length) (addB bs xs) :: R)) := by
  refine C.enter (N := 27) Try.func27 rfl Try.ntmps27 rfl ?_
  show C _ _ _ [(0, (.pointer (some ⟨p, 0, none⟩))), (1, (.slice a n c))] _ _
  refine C.seq ?_
  refine C.region ?_
  refine G.yl (yl_assign rfl) rfl rfl rfl ?_
  refine G.nil ?_
  refine QA.then_normal ?_
  refine C.seq ?_
  refine C.seq ?_
  refine C.region ?_
  refine G.yl (yl_move rfl) rfl rfl rfl ?_
  refine G.yl (yl_len Try.underlying22 rfl) rfl rfl rfl ?_
  refine G.yl (yl_cmp rfl rfl rfl) rfl rfl rfl ?_
  refine G.yl (yl_move rfl) rfl rfl rfl ?_
  by_cases hc1 : ((n : Int) > 65536)
  · refine G.offU rfl rfl (decide_eq_true hc1) rfl ?_
    refine G.offU rfl rfl (decide_eq_true hc1) rfl ?_
    refine G.offU rfl rfl (decide_eq_true hc1) rfl ?_
    refine G.offU rfl rfl (decide_eq_true hc1) rfl ?_
    refine G.offU rfl rfl (decide_eq_true hc1) rfl ?_
    refine G.offU rfl rfl (decide_eq_true hc1) rfl ?_
    refine G.yl (yl_pick_t rfl (decide_eq_true hc1) rfl) rfl rfl rfl ?_
    refine G.nil ?_
    refine QA.then_normal ?_
    refine C.cond_t rfl rfl ?_
    refine C.seq ?_
    refine C.region ?_
    refine G.yl (yl_assign rfl) rfl rfl rfl ?_
    refine G.nil ?_
    refine QA.then_normal ?_
    refine C.ret ?_
    refine QA.then_ret ?_
    refine QA.ret1 rfl rfl ?_
    exact ⟨(by unfold addE; rw [if_pos (by omega)]), (rs_more (T := T) (by omega) (sl_cast (by unfold addB; rw [if_pos (by omega)]) (sl_cast (by rfl) h)))⟩
  · refine G.on rfl rfl (decide_eq_false hc1) ?_
    refine G.yl (yl_move rfl) rfl rfl rfl ?_
    refine G.on rfl rfl (decide_eq_false hc1) ?_
    refine G.does (does_call (F := 30) (args := [(.pointer (some ⟨p, 0, none⟩))]) rfl rfl rfl en30 (left_ref (p := p) (T := T) (bs := bs) h )) rfl rfl rfl ?_
    rintro _ w2 ⟨rfl, h3⟩
    refine G.on rfl rfl (decide_eq_false hc1) ?_
    refine G.yl (yl_move rfl) rfl rfl rfl ?_
    refine G.on rfl rfl (decide_eq_false hc1) ?_
    refine G.yl (yl_len Try.underlying22 rfl) rfl rfl rfl ?_
    refine G.on rfl rfl (decide_eq_false hc1) ?_
    refine G.yl (yl_arith rfl rfl (sub64 (r := (65536 : Int) - (n : Int)) (by first | omega | rfl | (simp only [bytesV_length, intsV_length, boolsV_length]; omega) | (simp [bytesV_length, intsV_length, boolsV_length]; done) | (simp [bytesV_length, intsV_length, boolsV_length]; omega) | (simp [maxLen, bytesV_length, intsV_length, boolsV_length] at *; omega)))) rfl rfl rfl ?_
    refine G.on rfl rfl (decide_eq_false hc1) ?_
    refine G.yl (yl_cmp rfl rfl rfl) rfl rfl rfl ?_
    refine G.yl (yl_pick_f rfl (decide_eq_false hc1) rfl) rfl rfl rfl ?_
    refine G.nil ?_
    refine QA.then_normal ?_
    by_cases hc4 : ((bs.length : Int) > (65536 : Int) - (n : Int))
    · refine C.cond_t rfl (decide_eq_true hc4) ?_
      refine C.seq ?_
      refine C.region ?_
      refine G.yl (yl_assign rfl) rfl rfl rfl ?_
      refine G.nil ?_
      refine QA.then_normal ?_
      refine C.ret ?_
      refine QA.then_ret ?_
      refine QA.ret1 rfl rfl ?_
      exact ⟨(by unfold addE; rw [if_pos (by omega)]), (rs_more (T := T) (by omega) (sl_cast (by unfold addB; rw [if_pos (by omega)]) (sl_cast (by rfl) h3)))⟩
    · refine C.cond_f rfl (decide_eq_false hc4) ?_
      refine C.skip ?_
      refine QA.then_normal ?_
      refine C.seq ?_
      refine C.region ?_
      refine G.yl (yl_move rfl) rfl rfl rfl ?_
      refine G.does (does_buildSlice (vs := []) (cs := []) (e := 5) h3 rfl (by kernel_rfl)) rfl rfl rfl ?_
      rintro _ w6 ⟨b5, rfl, h7⟩
      refine G.yl (yl_move rfl) rfl rfl rfl ?_
      refine G.yl (yl_nilCheck rfl) rfl rfl rfl ?_
      obtain ⟨a8, n9, c10, al12, k13, ho14, ho15, ho16, ho17, ho18, h11⟩ := RSrc.open (h7.f1)
      refine G.yl (yl_fieldAddr (off := 0) (by kernel_rfl) rfl) rfl rfl rfl ?_
      refine G.yl (yl_load (by kernel_rfl) rfl (h11.isBlk.cell rfl)) rfl rfl rfl ?_
      refine G.does (does_append (ys := bytesV al12) (e := 5) (s := 1) (bytes := 1) Try.underlying22 (by kernel_rfl) (Sat.arr_of_blk (n := 0) (c := 0) (s := 1) (xs := []) (h11.f2) rfl (Nat.le_refl _) (by decide) (fun _ hh => by cases hh) (by simp) rfl) rfl rfl (h11.f1).rd_view (by first | omega | rfl | (simp only [bytesV_length, intsV_length, boolsV_length]; omega) | (simp [bytesV_length, intsV_length, boolsV_length]; done) | (simp [bytesV_length, intsV_length, boolsV_length]; omega) | (simp [maxLen, bytesV_length, intsV_length, boolsV_length] at *; omega)) (bytesV_one _) (by first | omega | rfl | (simp only [bytesV_length, intsV_length, boolsV_length]; omega) | (simp [bytesV_length, intsV_length, boolsV_length]; done) | (simp [bytesV_length, intsV_length, boolsV_length]; omega) | (simp [maxLen, bytesV_length, intsV_length, boolsV_length] at *; omega)) (by first | omega | rfl | (simp only [bytesV_length, intsV_length, boolsV_length]; omega) | (simp [bytesV_length, intsV_length, boolsV_length]; done) | (simp [bytesV_length, intsV_length, boolsV_length]; omega) | (simp [maxLen, bytesV_length, intsV_length, boolsV_length] at *; omega)) (fun e => by (subst e; have hz := bytesV_nil (View.none_nil (h11.f1).rd_view); have hl : al12.length = 0 := (by rw [hz]; rfl); first | omega | (simp only [List.length_drop, List.length_take, List.length_append] at hl; omega) | (simp only [List.length_drop, List.length_take, List.length_append] at hl; done) | (simp at hl; done) | (simp at hl; omega))) (r := n9) (by omega)) rfl rfl rfl ?_
      rintro _ w21 ⟨a19, c20, rfl, _, h23⟩
      have h22 : Sat W w21 (arr a19 n9 c20 1 5 (bytesV al12) :: blk p [(.slice a8 n9 c10), (.int .i64 (k13 : Int))] 34 :: rd W a8 (bytesV al12) :: R) := sl_cast (by simp [bytesV, byteV]) h23
      refine G.yl (yl_move rfl) rfl rfl rfl ?_
      refine G.does (does_append (ys := bytesV xs) (e := 5) (s := 1) (bytes := 1) Try.underlying22 (by kernel_rfl) h22 rfl rfl (hv.old h22) (by first | omega | rfl | (simp only [bytesV_length, intsV_length, boolsV_length]; omega) | (simp [bytesV_length, intsV_length, boolsV_length]; done) | (simp [bytesV_length, intsV_length, boolsV_length]; omega) | (simp [maxLen, bytesV_length, intsV_length, boolsV_length] at *; omega)) (bytesV_one _) (by first | omega | rfl | (simp only [bytesV_length, intsV_length, boolsV_length]; omega) | (simp [bytesV_length, intsV_length, boolsV_length]; done) | (simp [bytesV_length, intsV_length, boolsV_length]; omega) | (simp [maxLen, bytesV_length, intsV_length, boolsV_length] at *; omega)) (by first | omega | rfl | (simp only [bytesV_length, intsV_length, boolsV_length]; omega) | (simp [bytesV_length, intsV_length, boolsV_length]; done) | (simp [bytesV_length, intsV_length, boolsV_length]; omega) | (simp [maxLen, bytesV_length, intsV_length, boolsV_length] at *; omega)) (fun e => by (subst e; have hz := bytesV_nil (View.none_nil (hv.old h22)); have hl : xs.length = 0 := (by rw [hz]; rfl); first | omega | (simp only [List.length_drop, List.length_take, List.length_append] at hl; omega) | (simp only [List.length_drop, List.length_take, List.length_append] at hl; done) | (simp at hl; done) | (simp at hl; omega))) (r := (n9 + n)) (by omega)) rfl rfl rfl ?_
      rintro _ w26 ⟨a24, c25, rfl, _, h28⟩
      have h27 : Sat W w26 (arr a24 (n9 + n) c25 1 5 (bytesV (al12 ++ xs)) :: blk p [(.slice a8 n9 c10), (.int .i64 (k13 : Int))] 34 :: rd W a8 (bytesV al12) :: R) := sl_cast (by simp [bytesV, byteV]) h28
      refine G.yl (yl_nilCheck rfl) rfl rfl rfl ?_
      refine G.yl (yl_fieldAddr (off := 0) (by kernel_rfl) rfl) rfl rfl rfl ?_
      refine G.unit (does_store (n := 1) (vs := [(.slice a24 (n9 + n) c25)]) (h27.f1) (by kernel_rfl) rfl rfl rfl rfl (by simp [Value.oneCell']) (Nat.le_of_ble_eq_true rfl)) rfl rfl ?_
      rintro _ w29 h31
      have h30 : Sat W w29 (blk p [(.slice a24 (n9 + n) c25), (.int .i64 (k13 : Int))] 34 :: arr a24 (n9 + n) c25 1 5 (bytesV (al12 ++ xs)) :: rd W a8 (bytesV al12) :: R) := h31
      refine G.nil ?_
      refine QA.then_normal ?_
      refine C.seq ?_
      refine C.region ?_
      refine G.yl (yl_assign rfl) rfl rfl rfl ?_
      refine G.nil ?_
      refine QA.then_normal ?_
      refine C.ret ?_
      refine QA.ret1 rfl rfl ?_
      have hcl := (h30.f1).arr_len
      rw [bytesV_length, List.length_append] at hcl
      have h32 : Sat W w29 (rd W a24 (bytesV (al12 ++ xs)) :: blk p [(.slice a24 (n9 + n) c25), (.int .i64 (k13 : Int))] 34 :: rd W a8 (bytesV al12) :: R) := Sat.rd_of_arr (h30.f1)
      exact ⟨(by unfold addE; rw [if_neg (by omega)]), (sl_cast (by unfold addB; rw [if_neg (by omega)]) (RSrc.shut (bs := bs ++ xs) (sl_cast (by first | rfl | (simp; done) | (simp; omega)) (Sat.keep 2 1 (h32.f1))) (by simp; omega) (by simp; omega) (by simp; omega) (by rw [ho17, List.drop_append_of_le_length (by omega)]) (by simp; omega)))⟩

theorem eraseIdx_take_drop (zs : List Int) (i : Nat) : zs.take i ++ zs.drop (i + 1) = zs.eraseIdx i := (List.eraseIdx_eq_take_drop_succ zs i).symm
theorem arr_take_ints {W w : World} {R : List Res} {a : Option Addr} {n c : Nat} {e : TypeId} {zs : List Int} (h : Sat W w (arr a n c 1 e (intsV zs) :: R)) (m : Nat) (hm : m ≤ n) : Sat W w (arr a m c 1 e (intsV (zs.take m)) :: R) := by
  have := h.arr_take m hm
  rw [Nat.mul_one] at this
  simpa [intsV, List.map_take] using this

set_option maxRecDepth 20000 in
theorem delete_ints {W w : World} {R : List Res} {b o n c i : Nat} {zs : List Int} (h : Sat W w (arr (some ⟨b, o, none⟩) n c 1 3 (intsV zs) :: R)) (hn : n = zs.length) (hi : i < n) (hcm : n ≤ 10000000000) :
    Calls Try.prog 67 #[(.slice (some ⟨b, o, none⟩) n c), (.int .i64 (i : Int)), (.int .i64 ((i + 1 : Nat) : Int))] w (Ret fun v w' => v = (.slice (some ⟨b, o, none⟩) (n - 1) c) ∧ Sat W w' (arr (some ⟨b, o, none⟩) (n - 1) c 1 3 (intsV (zs.eraseIdx i)) :: R)) := by
  refine C.enter (N := 33) Try.func67 rfl Try.ntmps67 rfl ?_
  show C _ _ _ [(0, (.slice (some ⟨b, o, none⟩) n c)), (1, (.int .i64 (i : Int))), (2, (.int .i64 ((i + 1 : Nat) : Int)))] _ _
  refine C.seq ?_
  refine C.region ?_
  refine G.yl (yl_assign rfl) rfl rfl rfl ?_
  refine G.nil ?_
  refine QA.then_normal ?_
  refine C.seq ?_
  refine C.region ?_
  refine G.yl (yl_move rfl) rfl rfl rfl ?_
  refine G.yl (yl_move rfl) rfl rfl rfl ?_
  refine G.yl (yl_move rfl) rfl rfl rfl ?_
  refine G.yl (yl_move rfl) rfl rfl rfl ?_
  refine G.yl (yl_len Try.underlying26 rfl) rfl rfl rfl ?_
  have hal1 := h.arr_len
  rw [intsV_length] at hal1
  obtain ⟨a2, hcut3⟩ : ∃ p', Cut p' (some ⟨b, o, none⟩) n i 1 := Cut.mk _ _ _ _
  refine G.yl (yl_slice_lhm (s := 1) (by kernel_rfl) (by kernel_rfl) rfl rfl rfl rfl (l := i) (h := (i + 1)) (m := n) (by first | omega | rfl | (simp only [bytesV_length, intsV_length, boolsV_length]; omega) | (simp [bytesV_length, intsV_length, boolsV_length]; done) | (simp [bytesV_length, intsV_length, boolsV_length]; omega) | (simp [maxLen, bytesV_length, intsV_length, boolsV_length] at *; omega)) (by first | omega | rfl | (simp only [bytesV_length, intsV_length, boolsV_length]; omega) | (simp [bytesV_length, intsV_length, boolsV_length]; done) | (simp [bytesV_length, intsV_length, boolsV_length]; omega) | (simp [maxLen, bytesV_length, intsV_length, boolsV_length] at *; omega)) (by first | omega | rfl | (simp only [bytesV_length, intsV_length, boolsV_length]; omega) | (simp [bytesV_length, intsV_length, boolsV_length]; done) | (simp [bytesV_length, intsV_length, boolsV_length]; omega) | (simp [maxLen, bytesV_length, intsV_length, boolsV_length] at *; omega)) (by first | omega | rfl | (simp only [bytesV_length, intsV_length, boolsV_length]; omega) | (simp [bytesV_length, intsV_length, boolsV_length]; done) | (simp [bytesV_length, intsV_length, boolsV_length]; omega) | (simp [maxLen, bytesV_length, intsV_length, boolsV_length] at *; omega)) (by first | omega | rfl | (simp only [bytesV_length, intsV_length, boolsV_length]; omega) | (simp [bytesV_length, intsV_length, boolsV_length]; done) | (simp [bytesV_length, intsV_length, boolsV_length]; omega) | (simp [maxLen, bytesV_length, intsV_length, boolsV_length] at *; omega)) (by first | omega | rfl | (simp only [bytesV_length, intsV_length, boolsV_length]; omega) | (simp [bytesV_length, intsV_length, boolsV_length]; done) | (simp [bytesV_length, intsV_length, boolsV_length]; omega) | (simp [maxLen, bytesV_length, intsV_length, boolsV_length] at *; omega)) hcut3) rfl rfl rfl ?_
  refine G.nil ?_
  refine QA.then_normal ?_
  refine C.seq ?_
  refine C.seq ?_
  refine C.region ?_
  refine G.yl (yl_move rfl) rfl rfl rfl ?_
  refine G.yl (yl_move rfl) rfl rfl rfl ?_
  refine G.yl (yl_cmp rfl rfl rfl) rfl rfl rfl ?_
  refine G.nil ?_
  refine QA.then_normal ?_
  refine C.cond_f rfl (beq_f (by omega)) ?_
  refine C.skip ?_
  refine QA.then_normal ?_
  refine C.seq ?_
  refine C.region ?_
  refine G.yl (yl_move rfl) rfl rfl rfl ?_
  refine G.yl (yl_len Try.underlying26 rfl) rfl rfl rfl ?_
  refine G.yl (yl_assign rfl) rfl rfl rfl ?_
  refine G.nil ?_
  refine QA.then_normal ?_
  refine C.seq ?_
  refine C.draw (S := fun w' => True) (n := 8) rfl h rfl rfl ?_
  intro w5 h6
  have hS7 : True := trivial
  refine GH.yl (i := 0) (listed' := #[true, false, false, false, false, false, false, false]) rfl (by kernel_rfl) (by kernel_rfl) (by kernel_rfl) rfl (NP.next NP.body) rfl rfl rfl (fun w' hw' => yl_move rfl) hS7 ?_
  refine GH.yl (i := 1) (listed' := #[true, true, false, false, false, false, false, false]) rfl (by kernel_rfl) (by kernel_rfl) (by kernel_rfl) rfl (NP.next NP.body) rfl rfl rfl (fun w' hw' => yl_move rfl) hS7 ?_
  have hal8 := h6.arr_len
  rw [intsV_length] at hal8
  refine GH.yl (i := 2) (listed' := #[true, true, true, false, false, false, false, false]) rfl (by kernel_rfl) (by kernel_rfl) (by kernel_rfl) rfl (NP.next NP.body) rfl rfl rfl (fun w' hw' => yl_slice_h (by kernel_rfl) (by kernel_rfl) rfl rfl (h := i) (by first | omega | rfl | (simp only [bytesV_length, intsV_length, boolsV_length]; omega) | (simp [bytesV_length, intsV_length, boolsV_length]; done) | (simp [bytesV_length, intsV_length, boolsV_length]; omega) | (simp [maxLen, bytesV_length, intsV_length, boolsV_length] at *; omega)) (by first | omega | rfl | (simp only [bytesV_length, intsV_length, boolsV_length]; omega) | (simp [bytesV_length, intsV_length, boolsV_length]; done) | (simp [bytesV_length, intsV_length, boolsV_length]; omega) | (simp [maxLen, bytesV_length, intsV_length, boolsV_length] at *; omega))) hS7 ?_
  refine GH.yl (i := 3) (listed' := #[true, true, true, true, false, false, false, false]) rfl (by kernel_rfl) (by kernel_rfl) (by kernel_rfl) rfl (NP.next NP.body) rfl rfl rfl (fun w' hw' => yl_move rfl) hS7 ?_
  refine GH.yl (i := 4) (listed' := #[true, true, true, true, true, false, false, false]) rfl (by kernel_rfl) (by kernel_rfl) (by kernel_rfl) rfl (NP.next NP.body) rfl rfl rfl (fun w' hw' => yl_move rfl) hS7 ?_
  have hal9 := h6.arr_len
  rw [intsV_length] at hal9
  obtain ⟨a10, hcut11⟩ : ∃ p', Cut p' (some ⟨b, o, none⟩) c (i + 1) 1 := Cut.mk _ _ _ _
  refine GH.yl (i := 5) (listed' := #[true, true, true, true, true, true, false, false]) rfl (by kernel_rfl) (by kernel_rfl) (by kernel_rfl) rfl (NP.next NP.body) rfl rfl rfl (fun w' hw' => yl_slice_l (s := 1) (by kernel_rfl) (by kernel_rfl) rfl rfl (l := (i + 1)) (by first | omega | rfl | (simp only [bytesV_length, intsV_length, boolsV_length]; omega) | (simp [bytesV_length, intsV_length, boolsV_length]; done) | (simp [bytesV_length, intsV_length, boolsV_length]; omega) | (simp [maxLen, bytesV_length, intsV_length, boolsV_length] at *; omega)) (by first | omega | rfl | (simp only [bytesV_length, intsV_length, boolsV_length]; omega) | (simp [bytesV_length, intsV_length, boolsV_length]; done) | (simp [bytesV_length, intsV_length, boolsV_length]; omega) | (simp [maxLen, bytesV_length, intsV_length, boolsV_length] at *; omega)) hcut11) hS7 ?_
  have hv12 := cut_ints hcut11 h6.arr_view (by first | omega | rfl | (simp only [bytesV_length, intsV_length, boolsV_length]; omega) | (simp [bytesV_length, intsV_length, boolsV_length]; done) | (simp [bytesV_length, intsV_length, boolsV_length]; omega) | (simp [maxLen, bytesV_length, intsV_length, boolsV_length] at *; omega))
  have h13 : Sat W w5 (arr (some ⟨b, o, none⟩) i c 1 3 (intsV (zs.take i)) :: R) := arr_take_ints h6 i (by omega)
  refine GH.does (i := 6) (listed' := #[true, true, true, true, true, true, true, false]) rfl (by kernel_rfl) rfl rfl rfl rfl (does_append (ys := intsV (zs.drop (i + 1))) (e := 3) (s := 1) (bytes := 8) Try.underlying26 (by kernel_rfl) h13 rfl rfl hv12 (by first | omega | rfl | (simp only [bytesV_length, intsV_length, boolsV_length]; omega) | (simp [bytesV_length, intsV_length, boolsV_length]; done) | (simp [bytesV_length, intsV_length, boolsV_length]; omega) | (simp [maxLen, bytesV_length, intsV_length, boolsV_length] at *; omega)) (intsV_one _) (by first | omega | rfl | (simp only [bytesV_length, intsV_length, boolsV_length]; omega) | (simp [bytesV_length, intsV_length, boolsV_length]; done) | (simp [bytesV_length, intsV_length, boolsV_length]; omega) | (simp [maxLen, bytesV_length, intsV_length, boolsV_length] at *; omega)) (by first | omega | rfl | (simp only [bytesV_length, intsV_length, boolsV_length]; omega) | (simp [bytesV_length, intsV_length, boolsV_length]; done) | (simp [bytesV_length, intsV_length, boolsV_length]; omega) | (simp [maxLen, bytesV_length, intsV_length, boolsV_length] at *; omega)) (fun e => by (subst e; have hz := intsV_nil (View.none_nil hv12); have hl : (zs.drop (i + 1)).length = 0 := (by rw [hz]; rfl); first | omega | (simp only [List.length_drop, List.length_take, List.length_append] at hl; omega) | (simp only [List.length_drop, List.length_take, List.length_append] at hl; done) | (simp at hl; done) | (simp at hl; omega))) (r := (i + (n - (i + 1)))) (by omega)) ?_
  rintro _ w16 ⟨a14, c15, rfl, hr19, h18⟩
  obtain ⟨rfl, rfl⟩ := hr19 (by first | omega | rfl | (simp only [bytesV_length, intsV_length, boolsV_length]; omega) | (simp [bytesV_length, intsV_length, boolsV_length]; done) | (simp [bytesV_length, intsV_length, boolsV_length]; omega) | (simp [maxLen, bytesV_length, intsV_length, boolsV_length] at *; omega))
  have h17 : Sat W w16 (arr (some ⟨b, o, none⟩) (i + (n - (i + 1))) c 1 3 (intsV (zs.take i ++ (zs.drop (i + 1)))) :: R) := sl_cast (by simp [intsV, intV]) h18
  have hS20 : True := trivial
  refine ⟨hS20, ?_⟩
  refine GH.yl (i := 7) (listed' := #[true, true, true, true, true, true, true, true]) rfl (by kernel_rfl) (by kernel_rfl) (by kernel_rfl) rfl (NP.next NP.body) rfl rfl rfl (fun w' hw' => yl_assign rfl) hS20 ?_
  refine GH.done (by kernel_rfl) ?_
  refine QA.then_normal ?_
  refine C.seq ?_
  refine C.region ?_
  refine G.yl (yl_move rfl) rfl rfl rfl ?_
  refine G.yl (yl_move rfl) rfl rfl rfl ?_
  refine G.yl (yl_len Try.underlying26 rfl) rfl rfl rfl ?_
  refine G.yl (yl_move rfl) rfl rfl rfl ?_
  have hal21 := h17.arr_len
  rw [intsV_length] at hal21
  obtain ⟨a22, hcut23⟩ : ∃ p', Cut p' (some ⟨b, o, none⟩) c (i + (n - (i + 1))) 1 := Cut.mk _ _ _ _
  refine G.yl (yl_slice_lh (s := 1) (by kernel_rfl) (by kernel_rfl) rfl rfl rfl (l := (i + (n - (i + 1)))) (h := n) (by first | omega | rfl | (simp only [bytesV_length, intsV_length, boolsV_length]; omega) | (simp [bytesV_length, intsV_length, boolsV_length]; done) | (simp [bytesV_length, intsV_length, boolsV_length]; omega) | (simp [maxLen, bytesV_length, intsV_length, boolsV_length] at *; omega)) (by first | omega | rfl | (simp only [bytesV_length, intsV_length, boolsV_length]; omega) | (simp [bytesV_length, intsV_length, boolsV_length]; done) | (simp [bytesV_length, intsV_length, boolsV_length]; omega) | (simp [maxLen, bytesV_length, intsV_length, boolsV_length] at *; omega)) (by first | omega | rfl | (simp only [bytesV_length, intsV_length, boolsV_length]; omega) | (simp [bytesV_length, intsV_length, boolsV_length]; done) | (simp [bytesV_length, intsV_length, boolsV_length]; omega) | (simp [maxLen, bytesV_length, intsV_length, boolsV_length] at *; omega)) (by first | omega | rfl | (simp only [bytesV_length, intsV_length, boolsV_length]; omega) | (simp [bytesV_length, intsV_length, boolsV_length]; done) | (simp [bytesV_length, intsV_length, boolsV_length]; omega) | (simp [maxLen, bytesV_length, intsV_length, boolsV_length] at *; omega)) hcut23) rfl rfl rfl ?_
  refine G.unit (does_clear_tail (e := 3) (s := 1) (bytes := 8) (zz := (.int .i64 0)) Try.underlying26 (by kernel_rfl) (by kernel_rfl) (by simp [Value.oneCell', Value.cells]) (by decide) h17 rfl hcut23 (by first | omega | rfl | (simp only [bytesV_length, intsV_length, boolsV_length]; omega) | (simp [bytesV_length, intsV_length, boolsV_length]; done) | (simp [bytesV_length, intsV_length, boolsV_length]; omega) | (simp [maxLen, bytesV_length, intsV_length, boolsV_length] at *; omega))) rfl rfl ?_
  rintro _ w24 h25
  refine G.nil ?_
  refine QA.then_normal ?_
  refine C.seq ?_
  refine C.region ?_
  refine G.yl (yl_move rfl) rfl rfl rfl ?_
  refine G.yl (yl_assign rfl) rfl rfl rfl ?_
  refine G.nil ?_
  refine QA.then_normal ?_
  refine C.ret ?_
  refine QA.ret1 rfl rfl ?_
  have hnn : i + (n - (i + 1)) = n - 1 := by omega
  exact ⟨(by rw [hnn]), (sl_cast (by rw [hnn, eraseIdx_take_drop] <;> rfl) h25)⟩

/-! ### orders -/
def iota (n : Nat) : List Int := (List.range n).map fun (i : Nat) => (i : Int)
def iotaF (n k : Nat) : List Int := (List.range n).map fun (i : Nat) => if i < k then (i : Int) else 0
theorem iotaF_zero (n : Nat) : iotaF n 0 = List.replicate n 0 := by
  apply List.ext_getElem
  · simp [iotaF]
  · intro i h1 h2; simp [iotaF]
theorem iotaF_full (n : Nat) : iotaF n n = iota n := by
  apply List.ext_getElem
  · simp [iotaF, iota]
  · intro i h1 h2
    simp [iotaF] at h1
    simp [iotaF, iota, h1]
theorem iotaF_set (n k : Nat) : (iotaF n k).set k (k : Int) = iotaF n (k + 1) := by
  apply List.ext_getElem
  · simp [iotaF]
  · intro i h1 h2
    simp only [iotaF, List.getElem_set, List.getElem_map, List.getElem_range]
    by_cases h : k = i
    · subst h; simp
    · rw [if_neg h]
      by_cases h3 : i < k
      · rw [if_pos h3, if_pos (by omega)]
      · rw [if_neg h3, if_neg (by omega)]
theorem iotaF_length (n k : Nat) : (iotaF n k).length = n := by simp [iotaF]
theorem iota_length (n : Nat) : (iota n).length = n := by simp [iota]
theorem iota_succ (n : Nat) : iota (n + 1) = iota n ++ [(n : Int)] := by simp [iota, List.range_succ]
theorem numV_range {n : Int} (bs : List UInt8) (h : 0 < n) : 0 ≤ numV n bs ∧ numV n bs < n := by
  unfold numV
  split
  · omega
  · have h1 := Nat.mod_lt (be (pad (numK n) bs)) (show 0 < n.toNat by omega)
    generalize be (pad (numK n) bs) % n.toNat = x at h1
    omega
def drawAt (l : List Int) (bs : List UInt8) : Nat := (numV (l.length : Int) bs).toNat
theorem drawAt_lt {l : List Int} (bs : List UInt8) (h : 0 < l.length) : drawAt l bs < l.length := by
  have := numV_range bs (show (0 : Int) < (l.length : Int) by omega)
  unfold drawAt; omega
def drawL : Nat → List Int → List UInt8 → List Int
  | 0, _, _ => []
  | k + 1, l, bs => l.getD (drawAt l bs) 0 :: drawL k (l.eraseIdx (drawAt l bs)) (bs.drop (numK (l.length : Int)))
def drawB : Nat → List Int → List UInt8 → List UInt8
  | 0, _, bs => bs
  | k + 1, l, bs => drawB k (l.eraseIdx (drawAt l bs)) (bs.drop (numK (l.length : Int)))
def ordL (n : Int) (bs : List UInt8) : List Int := if n < 1 ∨ n > 1024 then [] else drawL n.toNat (iota n.toNat) bs
def ordB (n : Int) (bs : List UInt8) : List UInt8 := if n < 1 ∨ n > 1024 then bs else drawB n.toNat (iota n.toNat) bs
/-- What has come, and what is left: all of it. -/
def OrdI (n : Nat) (bs0 : List UInt8) (out l : List Int) (bs : List UInt8) : Prop :=
  out ++ drawL l.length l bs = drawL n (iota n) bs0 ∧ drawB l.length l bs = drawB n (iota n) bs0 ∧ l.length ≤ n ∧ out.length + l.length = n
theorem OrdI.start (n : Nat) (bs : List UInt8) : OrdI n bs [] (iota n) bs := by
  unfold OrdI
  rw [iota_length]
  simp
theorem OrdI.step {n : Nat} {bs0 bs : List UInt8} {out l : List Int} {x : Int} (h : OrdI n bs0 out l bs) (hl : 0 < l.length) (hx : l[drawAt l bs]? = some x) :
    OrdI n bs0 (out ++ [x]) (l.eraseIdx (drawAt l bs)) (bs.drop (numK (l.length : Int))) := by
  obtain ⟨h1, h2, h3, h4⟩ := h
  have hlt := drawAt_lt bs hl
  have e1 : (l.eraseIdx (drawAt l bs)).length = l.length - 1 := List.length_eraseIdx_of_lt hlt
  obtain ⟨m, hm⟩ : ∃ m, l.length = m + 1 := ⟨l.length - 1, by omega⟩
  have hg : l.getD (drawAt l bs) 0 = x := by rw [List.getD_eq_getElem?_getD, hx]; rfl
  refine ⟨?_, ?_, by omega, by simp; omega⟩
  · rw [e1, ← h1, hm, Nat.add_sub_cancel]
    simp only [drawL, hg, List.append_assoc, List.singleton_append]
    rw [hm]
  · rw [e1, ← h2, hm, Nat.add_sub_cancel]
    simp only [drawB]
    rw [hm]
theorem OrdI.done {n : Nat} {bs0 bs : List UInt8} {out : List Int} (h : OrdI n bs0 out [] bs) : out = drawL n (iota n) bs0 ∧ bs = drawB n (iota n) bs0 := by
  obtain ⟨h1, h2, _, _⟩ := h
  simp [drawL, drawB] at h1 h2
  exact ⟨h1, h2⟩


theorem num_at_src {W w : World} {R : List Res} {p : Nat} {zs : List Int} {bs : List UInt8} (h : Sat W w (Src W p bs :: R)) (hz : 0 < zs.length ∧ zs.length ≤ 9223372036854775807) :
    Calls Try.prog 16 #[(.pointer (some ⟨p, 0, none⟩)), (.int .i64 (zs.length : Int))] w (Ret fun v w' => v = (.int .i64 (drawAt zs bs : Int)) ∧ drawAt zs bs < zs.length ∧ Sat W w' (Src W p (bs.drop (numK (zs.length : Int))) :: R)) :=
  call_mono (num_src h (by omega)) (fun v w' hh => by
    obtain ⟨rfl, hs⟩ := hh
    have hnr := numV_range bs (show (0 : Int) < (zs.length : Int) by omega)
    exact ⟨by unfold drawAt; rw [Int.toNat_of_nonneg hnr.1], drawAt_lt bs hz.1, hs⟩)


theorem num_at_ref {W w : World} {R : List Res} {p T : Nat} {zs : List Int} {bs : List UInt8} (h : Sat W w (RSrc W p T bs :: R)) (hz : 0 < zs.length ∧ zs.length ≤ 9223372036854775807) :
    Calls Try.prog 21 #[(.pointer (some ⟨p, 0, none⟩)), (.int .i64 (zs.length : Int))] w (Ret fun v w' => v = (.int .i64 (drawAt zs bs : Int)) ∧ drawAt zs bs < zs.length ∧ Sat W w' (RSrc W p T (bs.drop (numK (zs.length : Int))) :: R)) :=
  call_mono (num_ref h (by omega)) (fun v w' hh => by
    obtain ⟨rfl, hs⟩ := hh
    have hnr := numV_range bs (show (0 : Int) < (zs.length : Int) by omega)
    exact ⟨by unfold drawAt; rw [Int.toNat_of_nonneg hnr.1], drawAt_lt bs hz.1, hs⟩)

set_option maxRecDepth 20000 in
theorem order_src {W w : World} {R : List Res} {p : Nat} {n : Int} {bs : List UInt8} (h : Sat W w (Src W p bs :: R)) (hn : n ≤ 9223372036854775807) :
    Calls Try.prog 15 #[(.pointer (some ⟨p, 0, none⟩)), (.int .i64 n)] w (Ret fun v w' => ∃ a : Option Addr, ∃ c : Nat, v = (.slice a ((ordL n bs).length) c) ∧ Sat W w' (arr a ((ordL n bs).length) c 1 3 (intsV (ordL n bs)) :: Src W p (ordB n bs) :: R)) := by
  refine C.enter (N := 46) Try.func15 rfl Try.ntmps15 rfl ?_
  show C _ _ _ [(0, (.pointer (some ⟨p, 0, none⟩))), (1, (.int .i64 n))] _ _
  refine C.seq ?_
  refine C.region ?_
  refine G.yl (yl_assign rfl) rfl rfl rfl ?_
  refine G.nil ?_
  refine QA.then_normal ?_
  refine C.seq ?_
  refine C.seq ?_
  refine C.region ?_
  refine G.yl (yl_move rfl) rfl rfl rfl ?_
  refine G.yl (yl_cmp rfl rfl rfl) rfl rfl rfl ?_
  refine G.yl (yl_move rfl) rfl rfl rfl ?_
  by_cases hc1 : (n < 1)
  · refine G.offU rfl rfl (decide_eq_true hc1) rfl ?_
    refine G.offU rfl rfl (decide_eq_true hc1) rfl ?_
    refine G.yl (yl_pick_t rfl (decide_eq_true hc1) rfl) rfl rfl rfl ?_
    refine G.nil ?_
    refine QA.then_normal ?_
    refine C.cond_t rfl rfl ?_
    refine C.seq ?_
    refine C.region ?_
    refine G.yl (yl_assign rfl) rfl rfl rfl ?_
    refine G.nil ?_
    refine QA.then_normal ?_
    refine C.ret ?_
    refine QA.then_ret ?_
    refine QA.ret1 rfl rfl ?_
    have h2 : Sat W w (arr none 0 0 1 3 (intsV []) :: Src W p bs :: R) := h.arr_nil 1 3
    exact ⟨none, 0, (by unfold ordL; rw [if_pos (by omega)] <;> rfl), (sl_cast (by unfold ordL ordB; rw [if_pos (by omega), if_pos (by omega)] <;> rfl) (sl_cast (by rfl) ((h2.f1).f1)))⟩
  · refine G.on rfl rfl (decide_eq_false hc1) ?_
    refine G.yl (yl_move rfl) rfl rfl rfl ?_
    refine G.on rfl rfl (decide_eq_false hc1) ?_
    refine G.yl (yl_cmp rfl rfl rfl) rfl rfl rfl ?_
    refine G.yl (yl_pick_f rfl (decide_eq_false hc1) rfl) rfl rfl rfl ?_
    refine G.nil ?_
    refine QA.then_normal ?_
    by_cases hc3 : (n > 1024)
    · refine C.cond_t rfl (decide_eq_true hc3) ?_
      refine C.seq ?_
      refine C.region ?_
      refine G.yl (yl_assign rfl) rfl rfl rfl ?_
      refine G.nil ?_
      refine QA.then_normal ?_
      refine C.ret ?_
      refine QA.then_ret ?_
      refine QA.ret1 rfl rfl ?_
      have h4 : Sat W w (arr none 0 0 1 3 (intsV []) :: Src W p bs :: R) := h.arr_nil 1 3
      exact ⟨none, 0, (by unfold ordL; rw [if_pos (by omega)] <;> rfl), (sl_cast (by unfold ordL ordB; rw [if_pos (by omega), if_pos (by omega)] <;> rfl) (sl_cast (by rfl) ((h4.f1).f1)))⟩
    · refine C.cond_f rfl (decide_eq_false hc3) ?_
      refine C.skip ?_
      refine QA.then_normal ?_
      refine C.seq ?_
      refine C.region ?_
      refine G.yl (yl_move rfl) rfl rfl rfl ?_
      refine G.does (does_make (e := 3) (bytes := 8) (z := (.int .i64 0)) (n := ((n).toNat)) (m := ((n).toNat)) h Try.underlying26 (by kernel_rfl) (by kernel_rfl) rfl rfl rfl (by first | omega | (simp only [bytesV_length, intsV_length, boolsV_length, iotaF_length, iota_length]; omega) | (first | omega | rfl | (simp only [bytesV_length, intsV_length, boolsV_length]; omega) | (simp [bytesV_length, intsV_length, boolsV_length]; done) | (simp [bytesV_length, intsV_length, boolsV_length]; omega) | (simp [maxLen, bytesV_length, intsV_length, boolsV_length] at *; omega))) (by first | omega | (simp only [bytesV_length, intsV_length, boolsV_length, iotaF_length, iota_length]; omega) | (first | omega | rfl | (simp only [bytesV_length, intsV_length, boolsV_length]; omega) | (simp [bytesV_length, intsV_length, boolsV_length]; done) | (simp [bytesV_length, intsV_length, boolsV_length]; omega) | (simp [maxLen, bytesV_length, intsV_length, boolsV_length] at *; omega))) (by first | omega | (simp only [bytesV_length, intsV_length, boolsV_length, iotaF_length, iota_length]; omega) | (first | omega | rfl | (simp only [bytesV_length, intsV_length, boolsV_length]; omega) | (simp [bytesV_length, intsV_length, boolsV_length]; done) | (simp [bytesV_length, intsV_length, boolsV_length]; omega) | (simp [maxLen, bytesV_length, intsV_length, boolsV_length] at *; omega))) (by first | omega | (simp only [bytesV_length, intsV_length, boolsV_length, iotaF_length, iota_length]; omega) | (first | omega | rfl | (simp only [bytesV_length, intsV_length, boolsV_length]; omega) | (simp [bytesV_length, intsV_length, boolsV_length]; done) | (simp [bytesV_length, intsV_length, boolsV_length]; omega) | (simp [maxLen, bytesV_length, intsV_length, boolsV_length] at *; omega))) (by first | omega | (simp only [bytesV_length, intsV_length, boolsV_length, iotaF_length, iota_length]; omega) | (first | omega | rfl | (simp only [bytesV_length, intsV_length, boolsV_length]; omega) | (simp [bytesV_length, intsV_length, boolsV_length]; done) | (simp [bytesV_length, intsV_length, boolsV_length]; omega) | (simp [maxLen, bytesV_length, intsV_length, boolsV_length] at *; omega))) rfl) rfl rfl rfl ?_
      rintro _ w6 ⟨b5, rfl, h8⟩
      have h7 : Sat W w6 (arr (some ⟨b5, 0, none⟩) ((n).toNat) ((n).toNat) 1 3 (intsV (List.replicate ((n).toNat) 0)) :: Src W p bs :: R) := sl_cast (by simp [intsV, intV]) h8
      refine G.yl (yl_assign rfl) rfl rfl rfl ?_
      refine G.nil ?_
      refine QA.then_normal ?_
      refine C.seq ?_
      refine C.seq ?_
      refine C.region ?_
      refine G.yl (yl_move rfl) rfl rfl rfl ?_
      refine G.yl (yl_len Try.underlying26 rfl) rfl rfl rfl ?_
      refine G.yl (yl_move rfl) rfl rfl rfl ?_
      refine G.nil ?_
      refine QA.then_normal ?_
      refine C.block ?_
      refine C.loop (fun (k : Nat) => [(0, (.pointer (some ⟨p, 0, none⟩))), (4, (.slice none 0 0)), (5, (.slice (some ⟨b5, 0, none⟩) n.toNat n.toNat)), (17, (.int .i64 (n.toNat : Int))), (18, (.int .i64 (k : Int)))]) (fun (k : Nat) (ww : World) => (k ≤ n.toNat) ∧ Sat W ww (arr (some ⟨b5, 0, none⟩) n.toNat n.toNat 1 3 (intsV (iotaF n.toNat k)) :: Src W p bs :: R)) (fun (k : Nat) => n.toNat - k) (0) (Sub.cons rfl (Sub.cons rfl (Sub.cons (look_eq rfl (by first | rfl | (simp; done) | (simp; omega))) (Sub.cons (look_int rfl (by first | rfl | omega | (simp; omega) | simp)) (Sub.cons (look_int rfl (by first | rfl | omega | (simp; omega) | simp)) (Sub.nil _)))))) ⟨(by omega), (sl_cast (by rw [iotaF_zero]) ((h7.f1).f1))⟩ ?_
      rintro k w9 ⟨hk, h10⟩
      show C _ _ _ [(0, (.pointer (some ⟨p, 0, none⟩))), (4, (.slice none 0 0)), (5, (.slice (some ⟨b5, 0, none⟩) n.toNat n.toNat)), (17, (.int .i64 (n.toNat : Int))), (18, (.int .i64 (k : Int)))] _ _
      refine C.seq ?_
      refine C.region ?_
      refine G.yl (yl_cmp rfl rfl rfl) rfl rfl rfl ?_
      refine G.nil ?_
      refine QA.then_normal ?_
      refine C.seq ?_
      by_cases hc11 : ((k : Int) < (n.toNat : Int))
      · refine C.cond_t rfl (decide_eq_true hc11) ?_
        refine C.skip ?_
        refine QA.then_normal ?_
        refine C.seq ?_
        refine C.block ?_
        refine C.seq ?_
        refine C.region ?_
        refine G.yl (yl_move rfl) rfl rfl rfl ?_
        refine G.yl (yl_assign rfl) rfl rfl rfl ?_
        refine G.nil ?_
        refine QA.then_normal ?_
        refine C.region ?_
        refine G.yl (yl_move rfl) rfl rfl rfl ?_
        refine G.yl (yl_move rfl) rfl rfl rfl ?_
        refine G.yl (yl_move rfl) rfl rfl rfl ?_
        refine G.yl (yl_indexAddr (s := 1) (off := k) (by kernel_rfl) (by kernel_rfl) rfl rfl (by first | omega | (simp only [bytesV_length, intsV_length, boolsV_length, iotaF_length, iota_length]; omega) | (first | omega | rfl | (simp only [bytesV_length, intsV_length, boolsV_length]; omega) | (simp [bytesV_length, intsV_length, boolsV_length]; done) | (simp [bytesV_length, intsV_length, boolsV_length]; omega) | (simp [maxLen, bytesV_length, intsV_length, boolsV_length] at *; omega))) (by first | omega | (simp only [bytesV_length, intsV_length, boolsV_length, iotaF_length, iota_length]; omega) | (first | omega | rfl | (simp only [bytesV_length, intsV_length, boolsV_length]; omega) | (simp [bytesV_length, intsV_length, boolsV_length]; done) | (simp [bytesV_length, intsV_length, boolsV_length]; omega) | (simp [maxLen, bytesV_length, intsV_length, boolsV_length] at *; omega)))) rfl rfl rfl ?_
        refine G.unit (does_storeArr (k := 1) (vs := [(.int .i64 (k : Int))]) (i := k) h10 (by kernel_rfl) rfl (by omega) rfl rfl rfl (by simp [Value.oneCell']) (by first | omega | (simp only [bytesV_length, intsV_length, boolsV_length, iotaF_length, iota_length]; omega) | (first | omega | rfl | (simp only [bytesV_length, intsV_length, boolsV_length]; omega) | (simp [bytesV_length, intsV_length, boolsV_length]; done) | (simp [bytesV_length, intsV_length, boolsV_length]; omega) | (simp [maxLen, bytesV_length, intsV_length, boolsV_length] at *; omega)))) rfl rfl ?_
        rintro _ w12 h14
        have h13 : Sat W w12 (arr (some ⟨b5, 0, none⟩) n.toNat n.toNat 1 3 (intsV ((iotaF n.toNat k).set k (k : Int))) :: Src W p bs :: R) := sl_cast (by rw [intsV_set]) h14
        refine G.nil ?_
        refine QA.block_normal ?_
        refine QA.then_normal ?_
        refine C.region ?_
        refine G.yl (yl_arith rfl rfl (add64 (r := ((k + 1 : Nat) : Int)) (by first | omega | (simp only [bytesV_length, intsV_length, boolsV_length, iotaF_length, iota_length]; omega) | (first | omega | rfl | (simp only [bytesV_length, intsV_length, boolsV_length]; omega) | (simp [bytesV_length, intsV_length, boolsV_length]; done) | (simp [bytesV_length, intsV_length, boolsV_length]; omega) | (simp [maxLen, bytesV_length, intsV_length, boolsV_length] at *; omega))))) rfl rfl rfl ?_
        refine G.yl (yl_move rfl) rfl rfl rfl ?_
        refine G.nil ?_
        exact QA.again (k + 1) (Sub.cons rfl (Sub.cons rfl (Sub.cons rfl (Sub.cons rfl (Sub.cons (look_int rfl (by first | rfl | omega | (simp; omega) | simp)) (Sub.nil _)))))) ⟨(by omega), (sl_cast (by rw [iotaF_set] <;> rfl) ((h13.f1).f1))⟩ (by first | omega | (dsimp only; omega) | (simp; omega) | (simp; done))
      · refine C.cond_f rfl (decide_eq_false hc11) ?_
        refine C.exit ?_
        refine QA.then_exit ?_
        refine QA.then_exit ?_
        refine QA.block_here ?_
        refine QA.then_normal ?_
        refine C.seq ?_
        refine C.block ?_
        obtain rfl : k = n.toNat := by omega
        rw [iotaF_full] at h10
        have h15 : Sat W w9 (arr none 0 0 1 3 (intsV []) :: arr (some ⟨b5, 0, none⟩) n.toNat n.toNat 1 3 (intsV (iota n.toNat)) :: Src W p bs :: R) := h10.arr_nil 1 3
        refine C.loop (fun (g : List Int × List Int × List UInt8 × Option Addr × Nat) => match g with | (out, zs, rs, a, c) => [(0, (.pointer (some ⟨p, 0, none⟩))), (4, (.slice a out.length c)), (5, (.slice (some ⟨b5, 0, none⟩) zs.length n.toNat))]) (fun (g : List Int × List Int × List UInt8 × Option Addr × Nat) (ww : World) => match g with | (out, zs, rs, a, c) => (out.length + zs.length = n.toNat) ∧ (OrdI n.toNat bs out zs rs) ∧ Sat W ww (arr a out.length c 1 3 (intsV out) :: arr (some ⟨b5, 0, none⟩) zs.length n.toNat 1 3 (intsV zs) :: Src W p rs :: R)) (fun (g : List Int × List Int × List UInt8 × Option Addr × Nat) => match g with | (out, zs, rs, a, c) => zs.length) ([], iota n.toNat, bs, none, 0) (Sub.cons rfl (Sub.cons (look_eq rfl (by first | rfl | (simp; done) | (simp; omega))) (Sub.cons (look_eq rfl (by simp [iota_length])) (Sub.nil _)))) ⟨(by simp [iota_length]), (OrdI.start _ _), (sl_cast (by simp [iota_length]) (((h15.f2).f2).f2))⟩ ?_
        rintro ⟨out, zs, rs, a, c⟩ w16 ⟨hzn, hI, h17⟩
        show C _ _ _ [(0, (.pointer (some ⟨p, 0, none⟩))), (4, (.slice a out.length c)), (5, (.slice (some ⟨b5, 0, none⟩) zs.length n.toNat))] _ _
        refine C.seq ?_
        refine C.seq ?_
        refine C.region ?_
        refine G.yl (yl_move rfl) rfl rfl rfl ?_
        refine G.yl (yl_len Try.underlying26 rfl) rfl rfl rfl ?_
        refine G.yl (yl_cmp rfl rfl rfl) rfl rfl rfl ?_
        refine G.nil ?_
        refine QA.then_normal ?_
        by_cases hc18 : ((zs.length : Int) > 0)
        · refine C.cond_t rfl (decide_eq_true hc18) ?_
          refine C.skip ?_
          refine QA.then_normal ?_
          refine C.block ?_
          refine C.seq ?_
          refine C.region ?_
          refine G.yl (yl_move rfl) rfl rfl rfl ?_
          refine G.yl (yl_move rfl) rfl rfl rfl ?_
          refine G.yl (yl_len Try.underlying26 rfl) rfl rfl rfl ?_
          refine G.does (does_call (F := 16) (args := [(.pointer (some ⟨p, 0, none⟩)), (.int .i64 (zs.length : Int))]) rfl rfl rfl en16 (num_at_src (p := p) (bs := rs) (h17.f2) (by omega))) rfl rfl rfl ?_
          rintro _ w19 ⟨rfl, hp21, h20⟩
          refine G.yl (yl_assign rfl) rfl rfl rfl ?_
          refine G.nil ?_
          refine QA.then_normal ?_
          refine C.seq ?_
          refine C.region ?_
          refine G.yl (yl_move rfl) rfl rfl rfl ?_
          refine G.yl (yl_move rfl) rfl rfl rfl ?_
          refine G.yl (yl_move rfl) rfl rfl rfl ?_
          refine G.yl (yl_indexAddr (s := 1) (off := drawAt zs rs) (by kernel_rfl) (by kernel_rfl) rfl rfl (by first | omega | (simp only [bytesV_length, intsV_length, boolsV_length, iotaF_length, iota_length]; omega) | (first | omega | rfl | (simp only [bytesV_length, intsV_length, boolsV_length]; omega) | (simp [bytesV_length, intsV_length, boolsV_length]; done) | (simp [bytesV_length, intsV_length, boolsV_length]; omega) | (simp [maxLen, bytesV_length, intsV_length, boolsV_length] at *; omega))) (by first | omega | (simp only [bytesV_length, intsV_length, boolsV_length, iotaF_length, iota_length]; omega) | (first | omega | rfl | (simp only [bytesV_length, intsV_length, boolsV_length]; omega) | (simp [bytesV_length, intsV_length, boolsV_length]; done) | (simp [bytesV_length, intsV_length, boolsV_length]; omega) | (simp [maxLen, bytesV_length, intsV_length, boolsV_length] at *; omega)))) rfl rfl rfl ?_
          obtain ⟨x22, hx23⟩ : ∃ x, zs[drawAt zs rs]? = some x := ⟨_, List.getElem?_eq_getElem (by first | omega | (simp only [bytesV_length, intsV_length, boolsV_length, iotaF_length, iota_length]; omega) | (first | omega | rfl | (simp only [bytesV_length, intsV_length, boolsV_length]; omega) | (simp [bytesV_length, intsV_length, boolsV_length]; done) | (simp [bytesV_length, intsV_length, boolsV_length]; omega) | (simp [maxLen, bytesV_length, intsV_length, boolsV_length] at *; omega)))⟩
          refine G.yl (yl_load (v := (.int .i64 x22)) (by kernel_rfl) rfl (View.at0 (h20.f2).arr_view (intsV_get hx23))) rfl rfl rfl ?_
          refine G.does (does_buildSlice (vs := [(.int .i64 x22)]) (cs := [(.int .i64 x22)]) (e := 3) h20 rfl (by kernel_rfl)) rfl rfl rfl ?_
          rintro _ w25 ⟨b24, rfl, h26⟩
          refine G.does (does_append (ys := [(.int .i64 x22)]) (e := 3) (s := 1) (bytes := 8) Try.underlying26 (by kernel_rfl) (h26.f2) rfl rfl (h26.isBlk.view 0) rfl (by simp [Value.oneCell']) (by first | omega | (simp only [bytesV_length, intsV_length, boolsV_length, iotaF_length, iota_length]; omega) | (first | omega | rfl | (simp only [bytesV_length, intsV_length, boolsV_length]; omega) | (simp [bytesV_length, intsV_length, boolsV_length]; done) | (simp [bytesV_length, intsV_length, boolsV_length]; omega) | (simp [maxLen, bytesV_length, intsV_length, boolsV_length] at *; omega))) (by first | omega | (simp only [bytesV_length, intsV_length, boolsV_length, iotaF_length, iota_length]; omega) | (first | omega | rfl | (simp only [bytesV_length, intsV_length, boolsV_length]; omega) | (simp [bytesV_length, intsV_length, boolsV_length]; done) | (simp [bytesV_length, intsV_length, boolsV_length]; omega) | (simp [maxLen, bytesV_length, intsV_length, boolsV_length] at *; omega))) (fun e => by cases e) (r := (out.length + 1)) (by omega)) rfl rfl rfl ?_
          rintro _ w29 ⟨a27, c28, rfl, _, h31⟩
          have h30 : Sat W w29 (arr a27 (out.length + 1) c28 1 3 (intsV (out ++ [x22])) :: blk b24 [(.int .i64 x22)] 3 :: Src W p (rs.drop (numK (zs.length : Int))) :: arr (some ⟨b5, 0, none⟩) zs.length n.toNat 1 3 (intsV zs) :: R) := sl_cast (by simp [intsV, intV]) h31
          refine G.yl (yl_assign rfl) rfl rfl rfl ?_
          refine G.nil ?_
          refine QA.then_normal ?_
          refine C.region ?_
          refine G.yl (yl_move rfl) rfl rfl rfl ?_
          refine G.yl (yl_move rfl) rfl rfl rfl ?_
          refine G.yl (yl_move rfl) rfl rfl rfl ?_
          refine G.yl (yl_arith rfl rfl (add64 (r := ((drawAt zs rs + 1 : Nat) : Int)) (by first | omega | (simp only [bytesV_length, intsV_length, boolsV_length, iotaF_length, iota_length]; omega) | (first | omega | rfl | (simp only [bytesV_length, intsV_length, boolsV_length]; omega) | (simp [bytesV_length, intsV_length, boolsV_length]; done) | (simp [bytesV_length, intsV_length, boolsV_length]; omega) | (simp [maxLen, bytesV_length, intsV_length, boolsV_length] at *; omega))))) rfl rfl rfl ?_
          refine G.does (does_call (F := 67) (args := [(.slice (some ⟨b5, 0, none⟩) zs.length n.toNat), (.int .i64 ((drawAt zs rs : Nat) : Int)), (.int .i64 ((drawAt zs rs + 1 : Nat) : Int))]) rfl rfl rfl en67 (delete_ints (b := b5) (o := 0) (n := zs.length) (c := n.toNat) (i := drawAt zs rs) (h30.f3) (by first | omega | rfl | (simp only [bytesV_length, intsV_length, boolsV_length]; omega) | (simp [bytesV_length, intsV_length, boolsV_length]; done) | (simp [bytesV_length, intsV_length, boolsV_length]; omega) | (simp [maxLen, bytesV_length, intsV_length, boolsV_length] at *; omega)) (by first | omega | rfl | (simp only [bytesV_length, intsV_length, boolsV_length]; omega) | (simp [bytesV_length, intsV_length, boolsV_length]; done) | (simp [bytesV_length, intsV_length, boolsV_length]; omega) | (simp [maxLen, bytesV_length, intsV_length, boolsV_length] at *; omega)) (by first | omega | rfl | (simp only [bytesV_length, intsV_length, boolsV_length]; omega) | (simp [bytesV_length, intsV_length, boolsV_length]; done) | (simp [bytesV_length, intsV_length, boolsV_length]; omega) | (simp [maxLen, bytesV_length, intsV_length, boolsV_length] at *; omega)))) rfl rfl rfl ?_
          rintro _ w32 ⟨rfl, h33⟩
          refine G.yl (yl_assign rfl) rfl rfl rfl ?_
          refine G.nil ?_
          refine QA.block_normal ?_
          exact QA.again (out ++ [x22], zs.eraseIdx (drawAt zs rs), rs.drop (numK (zs.length : Int)), a27, c28) (Sub.cons rfl (Sub.cons (look_eq rfl (by rw [List.length_append, List.length_singleton])) (Sub.cons (look_eq rfl (by rw [List.length_eraseIdx_of_lt (by assumption)])) (Sub.nil _)))) ⟨(by rw [List.length_append, List.length_singleton, List.length_eraseIdx_of_lt (by assumption)]; omega), (hI.step (by omega) hx23), (sl_cast (by rw [List.length_append, List.length_singleton, List.length_eraseIdx_of_lt (by assumption)] <;> rfl) (Sat.keep 3 1 (((h33.f3).f1).f2)))⟩ (by dsimp only; rw [List.length_eraseIdx_of_lt (by assumption)]; omega)
        · refine C.cond_f rfl (decide_eq_false hc18) ?_
          refine C.exit ?_
          refine QA.then_exit ?_
          refine QA.then_exit ?_
          refine QA.block_here ?_
          refine QA.then_normal ?_
          refine C.seq ?_
          refine C.region ?_
          refine G.yl (yl_move rfl) rfl rfl rfl ?_
          refine G.yl (yl_assign rfl) rfl rfl rfl ?_
          refine G.nil ?_
          refine QA.then_normal ?_
          refine C.ret ?_
          refine QA.ret1 rfl rfl ?_
          obtain rfl : zs = [] := List.eq_nil_of_length_eq_zero (by omega)
          obtain ⟨ho1, ho2⟩ := OrdI.done hI
          have hL : ordL n bs = out := by unfold ordL; rw [if_neg (by omega), ho1]
          have hB : ordB n bs = rs := by unfold ordB; rw [if_neg (by omega), ho2]
          have h34 : Sat W w16 (arr a out.length c 1 3 (intsV out) :: Src W p rs :: R) := (Sat.keep 2 1 ((h17.f2).f1))
          exact ⟨a, c, (by rw [hL]), (sl_cast (by rw [hL, hB]) h34)⟩
set_option maxRecDepth 20000 in
theorem order_ref {W w : World} {R : List Res} {p T : Nat} {n : Int} {bs : List UInt8} (h : Sat W w (RSrc W p T bs :: R)) (hn : n ≤ 9223372036854775807) :
    Calls Try.prog 18 #[(.pointer (some ⟨p, 0, none⟩)), (.int .i64 n)] w (Ret fun v w' => ∃ a : Option Addr, ∃ c : Nat, v = (.slice a ((ordL n bs).length) c) ∧ Sat W w' (arr a ((ordL n bs).length) c 1 3 (intsV (ordL n bs)) :: RSrc W p T (ordB n bs) :: R)) := by
  refine C.enter (N := 49) Try.func18 rfl Try.ntmps18 rfl ?_
  show C _ _ _ [(0, (.pointer (some ⟨p, 0, none⟩))), (1, (.int .i64 n))] _ _
  refine C.seq ?_
  refine C.region ?_
  refine G.yl (yl_assign rfl) rfl rfl rfl ?_
  refine G.nil ?_
  refine QA.then_normal ?_
  refine C.seq ?_
  refine C.seq ?_
  refine C.region ?_
  refine G.yl (yl_move rfl) rfl rfl rfl ?_
  refine G.yl (yl_cmp rfl rfl rfl) rfl rfl rfl ?_
  refine G.yl (yl_move rfl) rfl rfl rfl ?_
  by_cases hc1 : (n < 1)
  · refine G.offU rfl rfl (decide_eq_true hc1) rfl ?_
    refine G.offU rfl rfl (decide_eq_true hc1) rfl ?_
    refine G.yl (yl_pick_t rfl (decide_eq_true hc1) rfl) rfl rfl rfl ?_
    refine G.nil ?_
    refine QA.then_normal ?_
    refine C.cond_t rfl rfl ?_
    refine C.seq ?_
    refine C.region ?_
    refine G.yl (yl_assign rfl) rfl rfl rfl ?_
    refine G.nil ?_
    refine QA.then_normal ?_
    refine C.ret ?_
    refine QA.then_ret ?_
    refine QA.ret1 rfl rfl ?_
    have h2 : Sat W w (arr none 0 0 1 3 (intsV []) :: RSrc W p T bs :: R) := h.arr_nil 1 3
    exact ⟨none, 0, (by unfold ordL; rw [if_pos (by omega)] <;> rfl), (sl_cast (by unfold ordL ordB; rw [if_pos (by omega), if_pos (by omega)] <;> rfl) (sl_cast (by rfl) ((h2.f1).f1)))⟩
  · refine G.on rfl rfl (decide_eq_false hc1) ?_
    refine G.yl (yl_move rfl) rfl rfl rfl ?_
    refine G.on rfl rfl (decide_eq_false hc1) ?_
    refine G.yl (yl_cmp rfl rfl rfl) rfl rfl rfl ?_
    refine G.yl (yl_pick_f rfl (decide_eq_false hc1) rfl) rfl rfl rfl ?_
    refine G.nil ?_
    refine QA.then_normal ?_
    by_cases hc3 : (n > 1024)
    · refine C.cond_t rfl (decide_eq_true hc3) ?_
      refine C.seq ?_
      refine C.region ?_
      refine G.yl (yl_assign rfl) rfl rfl rfl ?_
      refine G.nil ?_
      refine QA.then_normal ?_
      refine C.ret ?_
      refine QA.then_ret ?_
      refine QA.ret1 rfl rfl ?_
      have h4 : Sat W w (arr none 0 0 1 3 (intsV []) :: RSrc W p T bs :: R) := h.arr_nil 1 3
      exact ⟨none, 0, (by unfold ordL; rw [if_pos (by omega)] <;> rfl), (sl_cast (by unfold ordL ordB; rw [if_pos (by omega), if_pos (by omega)] <;> rfl) (sl_cast (by rfl) ((h4.f1).f1)))⟩
    · refine C.cond_f rfl (decide_eq_false hc3) ?_
      refine C.skip ?_
      refine QA.then_normal ?_
      refine C.seq ?_
      refine C.region ?_
      refine G.yl (yl_assign rfl) rfl rfl rfl ?_
      refine G.nil ?_
      refine QA.then_normal ?_
      refine C.seq ?_
      refine C.seq ?_
      refine C.region ?_
      refine G.yl (yl_assign rfl) rfl rfl rfl ?_
      refine G.nil ?_
      refine QA.then_normal ?_
      refine C.block ?_
      have h5 : Sat W w (arr none 0 0 1 3 (intsV (iota 0)) :: RSrc W p T bs :: R) := h.arr_nil 1 3
      refine C.loop (fun (g : Nat × Option Addr × Nat) => match g with | (k, a, c) => [(0, (.pointer (some ⟨p, 0, none⟩))), (1, (.int .i64 n)), (4, (.slice none 0 0)), (5, (.slice a k c)), (6, (.int .i64 (k : Int)))]) (fun (g : Nat × Option Addr × Nat) (ww : World) => match g with | (k, a, c) => (k ≤ n.toNat) ∧ Sat W ww (arr a k c 1 3 (intsV (iota k)) :: RSrc W p T bs :: R)) (fun (g : Nat × Option Addr × Nat) => match g with | (k, a, c) => n.toNat - k) (0, none, 0) (Sub.cons rfl (Sub.cons rfl (Sub.cons rfl (Sub.cons rfl (Sub.cons (look_int rfl (by first | rfl | omega | (simp; omega) | simp)) (Sub.nil _)))))) ⟨(by omega), (sl_cast (by first | rfl | (simp; done) | (simp; omega)) ((h5.f1).f1))⟩ ?_
      rintro ⟨k, a, c⟩ w6 ⟨hk, h7⟩
      show C _ _ _ [(0, (.pointer (some ⟨p, 0, none⟩))), (1, (.int .i64 n)), (4, (.slice none 0 0)), (5, (.slice a k c)), (6, (.int .i64 (k : Int)))] _ _
      refine C.seq ?_
      refine C.seq ?_
      refine C.region ?_
      refine G.yl (yl_move rfl) rfl rfl rfl ?_
      refine G.yl (yl_move rfl) rfl rfl rfl ?_
      refine G.yl (yl_cmp rfl rfl rfl) rfl rfl rfl ?_
      refine G.nil ?_
      refine QA.then_normal ?_
      by_cases hc8 : ((k : Int) < n)
      · refine C.cond_t rfl (decide_eq_true hc8) ?_
        refine C.skip ?_
        refine QA.then_normal ?_
        refine C.seq ?_
        refine C.block ?_
        refine C.region ?_
        refine G.yl (yl_move rfl) rfl rfl rfl ?_
        refine G.yl (yl_move rfl) rfl rfl rfl ?_
        refine G.does (does_buildSlice (vs := [(.int .i64 (k : Int))]) (cs := [(.int .i64 (k : Int))]) (e := 3) h7 rfl (by kernel_rfl)) rfl rfl rfl ?_
        rintro _ w10 ⟨b9, rfl, h11⟩
        refine G.does (does_append (ys := [(.int .i64 (k : Int))]) (e := 3) (s := 1) (bytes := 8) Try.underlying26 (by kernel_rfl) (h11.f1) rfl rfl (h11.isBlk.view 0) rfl (by simp [Value.oneCell']) (by first | omega | (simp only [bytesV_length, intsV_length, boolsV_length, iota_length]; omega) | (first | omega | rfl | (simp only [bytesV_length, intsV_length, boolsV_length]; omega) | (simp [bytesV_length, intsV_length, boolsV_length]; done) | (simp [bytesV_length, intsV_length, boolsV_length]; omega) | (simp [maxLen, bytesV_length, intsV_length, boolsV_length] at *; omega))) (by first | omega | (simp only [bytesV_length, intsV_length, boolsV_length, iota_length]; omega) | (first | omega | rfl | (simp only [bytesV_length, intsV_length, boolsV_length]; omega) | (simp [bytesV_length, intsV_length, boolsV_length]; done) | (simp [bytesV_length, intsV_length, boolsV_length]; omega) | (simp [maxLen, bytesV_length, intsV_length, boolsV_length] at *; omega))) (fun e => by cases e) (r := (k + 1)) (by omega)) rfl rfl rfl ?_
        rintro _ w14 ⟨a12, c13, rfl, _, h16⟩
        have h15 : Sat W w14 (arr a12 (k + 1) c13 1 3 (intsV (iota k ++ [(k : Int)])) :: blk b9 [(.int .i64 (k : Int))] 3 :: RSrc W p T bs :: R) := sl_cast (by simp [intsV, intV]) h16
        refine G.yl (yl_assign rfl) rfl rfl rfl ?_
        refine G.nil ?_
        refine QA.block_normal ?_
        refine QA.then_normal ?_
        refine C.region ?_
        refine G.yl (yl_move rfl) rfl rfl rfl ?_
        refine G.yl (yl_arith rfl rfl (add64 (r := ((k + 1 : Nat) : Int)) (by first | omega | (simp only [bytesV_length, intsV_length, boolsV_length, iota_length]; omega) | (first | omega | rfl | (simp only [bytesV_length, intsV_length, boolsV_length]; omega) | (simp [bytesV_length, intsV_length, boolsV_length]; done) | (simp [bytesV_length, intsV_length, boolsV_length]; omega) | (simp [maxLen, bytesV_length, intsV_length, boolsV_length] at *; omega))))) rfl rfl rfl ?_
        refine G.yl (yl_assign rfl) rfl rfl rfl ?_
        refine G.nil ?_
        exact QA.again (k + 1, a12, c13) (Sub.cons rfl (Sub.cons rfl (Sub.cons rfl (Sub.cons rfl (Sub.cons (look_int rfl (by first | rfl | omega | (simp; omega) | simp)) (Sub.nil _)))))) ⟨(by omega), (sl_cast (by rw [← iota_succ] <;> rfl) (Sat.keep 2 1 ((h15.f2).f1)))⟩ (by first | omega | (dsimp only; omega) | (simp; omega) | (simp; done))
      · refine C.cond_f rfl (decide_eq_false hc8) ?_
        refine C.exit ?_
        refine QA.then_exit ?_
        refine QA.then_exit ?_
        refine QA.block_here ?_
        refine QA.then_normal ?_
        refine C.seq ?_
        refine C.region ?_
        refine G.yl (yl_assign rfl) rfl rfl rfl ?_
        refine G.nil ?_
        refine QA.then_normal ?_
        refine C.seq ?_
        refine C.block ?_
        obtain rfl : k = n.toNat := by omega
        have h17 : Sat W w6 (arr none 0 0 1 3 (intsV []) :: arr a n.toNat c 1 3 (intsV (iota n.toNat)) :: RSrc W p T bs :: R) := h7.arr_nil 1 3
        refine C.loop (fun (g : List Int × List Int × List UInt8 × Option Addr × Nat × Option Addr × Nat) => match g with | (out, zs, rs, a1, c1, a2, c2) => [(0, (.pointer (some ⟨p, 0, none⟩))), (7, (.slice a1 out.length c1)), (5, (.slice a2 zs.length c2))]) (fun (g : List Int × List Int × List UInt8 × Option Addr × Nat × Option Addr × Nat) (ww : World) => match g with | (out, zs, rs, a1, c1, a2, c2) => (out.length + zs.length = n.toNat) ∧ (OrdI n.toNat bs out zs rs) ∧ Sat W ww (arr a1 out.length c1 1 3 (intsV out) :: arr a2 zs.length c2 1 3 (intsV zs) :: RSrc W p T rs :: R)) (fun (g : List Int × List Int × List UInt8 × Option Addr × Nat × Option Addr × Nat) => match g with | (out, zs, rs, a1, c1, a2, c2) => zs.length) ([], iota n.toNat, bs, none, 0, a, c) (Sub.cons rfl (Sub.cons (look_eq rfl (by first | rfl | (simp; done) | (simp; omega))) (Sub.cons (look_eq rfl (by simp [iota_length])) (Sub.nil _)))) ⟨(by simp [iota_length]), (OrdI.start _ _), (sl_cast (by simp [iota_length]) (((h17.f2).f2).f2))⟩ ?_
        rintro ⟨out, zs, rs, a1, c1, a2, c2⟩ w18 ⟨hzn, hI, h19⟩
        show C _ _ _ [(0, (.pointer (some ⟨p, 0, none⟩))), (7, (.slice a1 out.length c1)), (5, (.slice a2 zs.length c2))] _ _
        refine C.seq ?_
        refine C.seq ?_
        refine C.region ?_
        refine G.yl (yl_move rfl) rfl rfl rfl ?_
        refine G.yl (yl_len Try.underlying26 rfl) rfl rfl rfl ?_
        refine G.yl (yl_cmp rfl rfl rfl) rfl rfl rfl ?_
        refine G.nil ?_
        refine QA.then_normal ?_
        by_cases hc20 : ((zs.length : Int) > 0)
        · refine C.cond_t rfl (decide_eq_true hc20) ?_
          refine C.skip ?_
          refine QA.then_normal ?_
          refine C.block ?_
          refine C.seq ?_
          refine C.region ?_
          refine G.yl (yl_move rfl) rfl rfl rfl ?_
          refine G.yl (yl_move rfl) rfl rfl rfl ?_
          refine G.yl (yl_len Try.underlying26 rfl) rfl rfl rfl ?_
          refine G.does (does_call (F := 21) (args := [(.pointer (some ⟨p, 0, none⟩)), (.int .i64 (zs.length : Int))]) rfl rfl rfl en21 (num_at_ref (p := p) (T := T) (bs := rs) (h19.f2) (by omega))) rfl rfl rfl ?_
          rintro _ w21 ⟨rfl, hp23, h22⟩
          refine G.yl (yl_assign rfl) rfl rfl rfl ?_
          refine G.nil ?_
          refine QA.then_normal ?_
          refine C.seq ?_
          refine C.region ?_
          refine G.yl (yl_move rfl) rfl rfl rfl ?_
          refine G.yl (yl_move rfl) rfl rfl rfl ?_
          refine G.yl (yl_move rfl) rfl rfl rfl ?_
          obtain ⟨b24, o25, rfl⟩ := open_ints (h22.f2).arr_view (by first | omega | (simp only [bytesV_length, intsV_length, boolsV_length, iota_length]; omega) | (first | omega | rfl | (simp only [bytesV_length, intsV_length, boolsV_length]; omega) | (simp [bytesV_length, intsV_length, boolsV_length]; done) | (simp [bytesV_length, intsV_length, boolsV_length]; omega) | (simp [maxLen, bytesV_length, intsV_length, boolsV_length] at *; omega)))
          refine G.yl (yl_indexAddr (s := 1) (off := o25 + drawAt zs rs) (by kernel_rfl) (by kernel_rfl) rfl rfl (by first | omega | (simp only [bytesV_length, intsV_length, boolsV_length, iota_length]; omega) | (first | omega | rfl | (simp only [bytesV_length, intsV_length, boolsV_length]; omega) | (simp [bytesV_length, intsV_length, boolsV_length]; done) | (simp [bytesV_length, intsV_length, boolsV_length]; omega) | (simp [maxLen, bytesV_length, intsV_length, boolsV_length] at *; omega))) (by first | omega | (simp only [bytesV_length, intsV_length, boolsV_length, iota_length]; omega) | (first | omega | rfl | (simp only [bytesV_length, intsV_length, boolsV_length]; omega) | (simp [bytesV_length, intsV_length, boolsV_length]; done) | (simp [bytesV_length, intsV_length, boolsV_length]; omega) | (simp [maxLen, bytesV_length, intsV_length, boolsV_length] at *; omega)))) rfl rfl rfl ?_
          obtain ⟨x26, hx27⟩ : ∃ x, zs[drawAt zs rs]? = some x := ⟨_, List.getElem?_eq_getElem (by first | omega | (simp only [bytesV_length, intsV_length, boolsV_length, iota_length]; omega) | (first | omega | rfl | (simp only [bytesV_length, intsV_length, boolsV_length]; omega) | (simp [bytesV_length, intsV_length, boolsV_length]; done) | (simp [bytesV_length, intsV_length, boolsV_length]; omega) | (simp [maxLen, bytesV_length, intsV_length, boolsV_length] at *; omega)))⟩
          refine G.yl (yl_load (v := (.int .i64 x26)) (by kernel_rfl) rfl (View.at_ (h22.f2).arr_view (intsV_get hx27))) rfl rfl rfl ?_
          refine G.does (does_buildSlice (vs := [(.int .i64 x26)]) (cs := [(.int .i64 x26)]) (e := 3) h22 rfl (by kernel_rfl)) rfl rfl rfl ?_
          rintro _ w29 ⟨b28, rfl, h30⟩
          refine G.does (does_append (ys := [(.int .i64 x26)]) (e := 3) (s := 1) (bytes := 8) Try.underlying26 (by kernel_rfl) (h30.f2) rfl rfl (h30.isBlk.view 0) rfl (by simp [Value.oneCell']) (by first | omega | (simp only [bytesV_length, intsV_length, boolsV_length, iota_length]; omega) | (first | omega | rfl | (simp only [bytesV_length, intsV_length, boolsV_length]; omega) | (simp [bytesV_length, intsV_length, boolsV_length]; done) | (simp [bytesV_length, intsV_length, boolsV_length]; omega) | (simp [maxLen, bytesV_length, intsV_length, boolsV_length] at *; omega))) (by first | omega | (simp only [bytesV_length, intsV_length, boolsV_length, iota_length]; omega) | (first | omega | rfl | (simp only [bytesV_length, intsV_length, boolsV_length]; omega) | (simp [bytesV_length, intsV_length, boolsV_length]; done) | (simp [bytesV_length, intsV_length, boolsV_length]; omega) | (simp [maxLen, bytesV_length, intsV_length, boolsV_length] at *; omega))) (fun e => by cases e) (r := (out.length + 1)) (by omega)) rfl rfl rfl ?_
          rintro _ w33 ⟨a31, c32, rfl, _, h35⟩
          have h34 : Sat W w33 (arr a31 (out.length + 1) c32 1 3 (intsV (out ++ [x26])) :: blk b28 [(.int .i64 x26)] 3 :: RSrc W p T (rs.drop (numK (zs.length : Int))) :: arr (some ⟨b24, o25, none⟩) zs.length c2 1 3 (intsV zs) :: R) := sl_cast (by simp [intsV, intV]) h35
          refine G.yl (yl_assign rfl) rfl rfl rfl ?_
          refine G.nil ?_
          refine QA.then_normal ?_
          refine C.draw (S := fun w' => True) (n := 11) rfl h34 rfl rfl ?_
          intro w37 h38
          have hS39 : True := trivial
          refine GH.yl (i := 1) (listed' := #[false, true, false, false, false, false, false, false, false, false, false]) rfl (by kernel_rfl) (by kernel_rfl) (by kernel_rfl) rfl (NP.block (NP.next (NP.block (NP.next NP.body)))) rfl rfl rfl (fun w' hw' => yl_move rfl) hS39 ?_
          refine GH.yl (i := 2) (listed' := #[false, true, true, false, false, false, false, false, false, false, false]) rfl (by kernel_rfl) (by kernel_rfl) (by kernel_rfl) rfl (NP.block (NP.next (NP.block (NP.next NP.body)))) rfl rfl rfl (fun w' hw' => yl_move rfl) hS39 ?_
          have hal40 := (h38.f3).arr_len
          rw [intsV_length] at hal40
          refine GH.yl (i := 3) (listed' := #[false, true, true, true, false, false, false, false, false, false, false]) rfl (by kernel_rfl) (by kernel_rfl) (by kernel_rfl) rfl (NP.block (NP.next (NP.block (NP.next NP.body)))) rfl rfl rfl (fun w' hw' => yl_slice_h (by kernel_rfl) (by kernel_rfl) rfl rfl (h := drawAt zs rs) (by first | omega | (simp only [bytesV_length, intsV_length, boolsV_length, iota_length]; omega) | (first | omega | rfl | (simp only [bytesV_length, intsV_length, boolsV_length]; omega) | (simp [bytesV_length, intsV_length, boolsV_length]; done) | (simp [bytesV_length, intsV_length, boolsV_length]; omega) | (simp [maxLen, bytesV_length, intsV_length, boolsV_length] at *; omega))) (by first | omega | (simp only [bytesV_length, intsV_length, boolsV_length, iota_length]; omega) | (first | omega | rfl | (simp only [bytesV_length, intsV_length, boolsV_length]; omega) | (simp [bytesV_length, intsV_length, boolsV_length]; done) | (simp [bytesV_length, intsV_length, boolsV_length]; omega) | (simp [maxLen, bytesV_length, intsV_length, boolsV_length] at *; omega)))) hS39 ?_
          refine GH.yl (i := 5) (listed' := #[false, true, true, true, false, true, false, false, false, false, false]) rfl (by kernel_rfl) (by kernel_rfl) (by kernel_rfl) rfl (NP.block (NP.next (NP.block (NP.next NP.body)))) rfl rfl rfl (fun w' hw' => yl_move rfl) hS39 ?_
          refine GH.yl (i := 6) (listed' := #[false, true, true, true, false, true, true, false, false, false, false]) rfl (by kernel_rfl) (by kernel_rfl) (by kernel_rfl) rfl (NP.block (NP.next (NP.block (NP.next NP.body)))) rfl rfl rfl (fun w' hw' => yl_move rfl) hS39 ?_
          refine GH.yl (i := 7) (listed' := #[false, true, true, true, false, true, true, true, false, false, false]) rfl (by kernel_rfl) (by kernel_rfl) (by kernel_rfl) rfl (NP.block (NP.next (NP.block (NP.next NP.body)))) rfl rfl rfl (fun w' hw' => yl_arith rfl rfl (add64 (r := ((drawAt zs rs + 1 : Nat) : Int)) (by first | omega | (simp only [bytesV_length, intsV_length, boolsV_length, iota_length]; omega) | (first | omega | rfl | (simp only [bytesV_length, intsV_length, boolsV_length]; omega) | (simp [bytesV_length, intsV_length, boolsV_length]; done) | (simp [bytesV_length, intsV_length, boolsV_length]; omega) | (simp [maxLen, bytesV_length, intsV_length, boolsV_length] at *; omega))))) hS39 ?_
          have hal41 := (h38.f3).arr_len
          rw [intsV_length] at hal41
          obtain ⟨a42, hcut43⟩ : ∃ p', Cut p' (some ⟨b24, o25, none⟩) c2 (drawAt zs rs + 1) 1 := Cut.mk _ _ _ _
          refine GH.yl (i := 8) (listed' := #[false, true, true, true, false, true, true, true, true, false, false]) rfl (by kernel_rfl) (by kernel_rfl) (by kernel_rfl) rfl (NP.block (NP.next (NP.block (NP.next NP.body)))) rfl rfl rfl (fun w' hw' => yl_slice_l (s := 1) (by kernel_rfl) (by kernel_rfl) rfl rfl (l := (drawAt zs rs + 1)) (by first | omega | (simp only [bytesV_length, intsV_length, boolsV_length, iota_length]; omega) | (first | omega | rfl | (simp only [bytesV_length, intsV_length, boolsV_length]; omega) | (simp [bytesV_length, intsV_length, boolsV_length]; done) | (simp [bytesV_length, intsV_length, boolsV_length]; omega) | (simp [maxLen, bytesV_length, intsV_length, boolsV_length] at *; omega))) (by first | omega | (simp only [bytesV_length, intsV_length, boolsV_length, iota_length]; omega) | (first | omega | rfl | (simp only [bytesV_length, intsV_length, boolsV_length]; omega) | (simp [bytesV_length, intsV_length, boolsV_length]; done) | (simp [bytesV_length, intsV_length, boolsV_length]; omega) | (simp [maxLen, bytesV_length, intsV_length, boolsV_length] at *; omega))) hcut43) hS39 ?_
          refine GH.does (i := 0) (listed' := #[true, true, true, true, false, true, true, true, true, false, false]) rfl (by kernel_rfl) rfl rfl rfl rfl (does_buildSlice (vs := []) (cs := []) (e := 3) h38 rfl (by kernel_rfl)) ?_
          rintro _ w45 ⟨b44, rfl, h46⟩
          have hS47 : True := trivial
          refine ⟨hS47, ?_⟩
          refine GH.does (i := 4) (listed' := #[true, true, true, true, true, true, true, true, true, false, false]) rfl (by kernel_rfl) rfl rfl rfl rfl (does_append (ys := intsV (zs.take (drawAt zs rs))) (e := 3) (s := 1) (bytes := 8) Try.underlying26 (by kernel_rfl) (Sat.arr_of_blk (n := 0) (c := 0) (s := 1) (xs := []) h46 rfl (Nat.le_refl _) (by decide) (fun _ hh => by cases hh) (by simp) rfl) rfl rfl (take_ints (h46.f4).arr_view (drawAt zs rs)) (by first | omega | (simp only [bytesV_length, intsV_length, boolsV_length, iota_length]; omega) | (first | omega | rfl | (simp only [bytesV_length, intsV_length, boolsV_length]; omega) | (simp [bytesV_length, intsV_length, boolsV_length]; done) | (simp [bytesV_length, intsV_length, boolsV_length]; omega) | (simp [maxLen, bytesV_length, intsV_length, boolsV_length] at *; omega))) (intsV_one _) (by first | omega | (simp only [bytesV_length, intsV_length, boolsV_length, iota_length]; omega) | (first | omega | rfl | (simp only [bytesV_length, intsV_length, boolsV_length]; omega) | (simp [bytesV_length, intsV_length, boolsV_length]; done) | (simp [bytesV_length, intsV_length, boolsV_length]; omega) | (simp [maxLen, bytesV_length, intsV_length, boolsV_length] at *; omega))) (by first | omega | (simp only [bytesV_length, intsV_length, boolsV_length, iota_length]; omega) | (first | omega | rfl | (simp only [bytesV_length, intsV_length, boolsV_length]; omega) | (simp [bytesV_length, intsV_length, boolsV_length]; done) | (simp [bytesV_length, intsV_length, boolsV_length]; omega) | (simp [maxLen, bytesV_length, intsV_length, boolsV_length] at *; omega))) (fun e => by cases e) (r := (drawAt zs rs)) (by omega)) ?_
          rintro _ w50 ⟨a48, c49, rfl, _, h52⟩
          have h51 : Sat W w50 (arr a48 (drawAt zs rs) c49 1 3 (intsV (zs.take (drawAt zs rs))) :: arr a31 (out.length + 1) c32 1 3 (intsV (out ++ [x26])) :: blk b28 [(.int .i64 x26)] 3 :: RSrc W p T (rs.drop (numK (zs.length : Int))) :: arr (some ⟨b24, o25, none⟩) zs.length c2 1 3 (intsV zs) :: R) := sl_cast (by simp [intsV, intV]) h52
          have hS53 : True := trivial
          refine ⟨hS53, ?_⟩
          refine GH.does (i := 9) (listed' := #[true, true, true, true, true, true, true, true, true, true, false]) rfl (by kernel_rfl) rfl rfl rfl rfl (does_append (ys := intsV (zs.drop (drawAt zs rs + 1))) (e := 3) (s := 1) (bytes := 8) Try.underlying26 (by kernel_rfl) h51 rfl rfl (cut_ints hcut43 (h51.f4).arr_view (by first | omega | (simp only [bytesV_length, intsV_length, boolsV_length, iota_length]; omega) | (first | omega | rfl | (simp only [bytesV_length, intsV_length, boolsV_length]; omega) | (simp [bytesV_length, intsV_length, boolsV_length]; done) | (simp [bytesV_length, intsV_length, boolsV_length]; omega) | (simp [maxLen, bytesV_length, intsV_length, boolsV_length] at *; omega)))) (by first | omega | (simp only [bytesV_length, intsV_length, boolsV_length, iota_length]; omega) | (first | omega | rfl | (simp only [bytesV_length, intsV_length, boolsV_length]; omega) | (simp [bytesV_length, intsV_length, boolsV_length]; done) | (simp [bytesV_length, intsV_length, boolsV_length]; omega) | (simp [maxLen, bytesV_length, intsV_length, boolsV_length] at *; omega))) (intsV_one _) (by first | omega | (simp only [bytesV_length, intsV_length, boolsV_length, iota_length]; omega) | (first | omega | rfl | (simp only [bytesV_length, intsV_length, boolsV_length]; omega) | (simp [bytesV_length, intsV_length, boolsV_length]; done) | (simp [bytesV_length, intsV_length, boolsV_length]; omega) | (simp [maxLen, bytesV_length, intsV_length, boolsV_length] at *; omega))) (by first | omega | (simp only [bytesV_length, intsV_length, boolsV_length, iota_length]; omega) | (first | omega | rfl | (simp only [bytesV_length, intsV_length, boolsV_length]; omega) | (simp [bytesV_length, intsV_length, boolsV_length]; done) | (simp [bytesV_length, intsV_length, boolsV_length]; omega) | (simp [maxLen, bytesV_length, intsV_length, boolsV_length] at *; omega))) (fun e => by (subst e; have hz := intsV_nil (View.none_nil (cut_ints hcut43 (h51.f4).arr_view (by first | omega | (simp only [bytesV_length, intsV_length, boolsV_length, iota_length]; omega) | (first | omega | rfl | (simp only [bytesV_length, intsV_length, boolsV_length]; omega) | (simp [bytesV_length, intsV_length, boolsV_length]; done) | (simp [bytesV_length, intsV_length, boolsV_length]; omega) | (simp [maxLen, bytesV_length, intsV_length, boolsV_length] at *; omega))))); have hl : (zs.drop (drawAt zs rs + 1)).length = 0 := (by rw [hz]; rfl); first | omega | (simp only [List.length_drop, List.length_take, List.length_append] at hl; omega) | (simp only [List.length_drop, List.length_take, List.length_append] at hl; done) | (simp at hl; done) | (simp at hl; omega))) (r := (drawAt zs rs + (zs.length - (drawAt zs rs + 1)))) (by omega)) ?_
          rintro _ w56 ⟨a54, c55, rfl, _, h58⟩
          have h57 : Sat W w56 (arr a54 (drawAt zs rs + (zs.length - (drawAt zs rs + 1))) c55 1 3 (intsV (zs.take (drawAt zs rs) ++ (zs.drop (drawAt zs rs + 1)))) :: arr a31 (out.length + 1) c32 1 3 (intsV (out ++ [x26])) :: blk b28 [(.int .i64 x26)] 3 :: RSrc W p T (rs.drop (numK (zs.length : Int))) :: arr (some ⟨b24, o25, none⟩) zs.length c2 1 3 (intsV zs) :: R) := sl_cast (by simp [intsV, intV]) h58
          have hS59 : True := trivial
          refine ⟨hS59, ?_⟩
          refine GH.yl (i := 10) (listed' := #[true, true, true, true, true, true, true, true, true, true, true]) rfl (by kernel_rfl) (by kernel_rfl) (by kernel_rfl) rfl (NP.block (NP.next (NP.block (NP.next NP.body)))) rfl rfl rfl (fun w' hw' => yl_assign rfl) hS59 ?_
          refine GH.done (by kernel_rfl) ?_
          refine QA.block_normal ?_
          exact QA.again (out ++ [x26], zs.eraseIdx (drawAt zs rs), rs.drop (numK (zs.length : Int)), a31, c32, a54, c55) (Sub.cons rfl (Sub.cons (look_eq rfl (by rw [List.length_append, List.length_singleton])) (Sub.cons (look_eq rfl (by rw [List.length_eraseIdx_of_lt (by assumption), show drawAt zs rs + (zs.length - (drawAt zs rs + 1)) = zs.length - 1 from by omega])) (Sub.nil _)))) ⟨(by rw [List.length_append, List.length_singleton, List.length_eraseIdx_of_lt (by assumption)]; omega), (hI.step (by omega) hx27), (sl_cast (by rw [List.length_append, List.length_singleton, List.length_eraseIdx_of_lt (by assumption), ← eraseIdx_take_drop, show drawAt zs rs + (zs.length - (drawAt zs rs + 1)) = zs.length - 1 from by omega] <;> rfl) (Sat.keep 3 2 (((h57.f3).f1).f2)))⟩ (by dsimp only; rw [List.length_eraseIdx_of_lt (by assumption)]; omega)
        · refine C.cond_f rfl (decide_eq_false hc20) ?_
          refine C.exit ?_
          refine QA.then_exit ?_
          refine QA.then_exit ?_
          refine QA.block_here ?_
          refine QA.then_normal ?_
          refine C.seq ?_
          refine C.region ?_
          refine G.yl (yl_move rfl) rfl rfl rfl ?_
          refine G.yl (yl_assign rfl) rfl rfl rfl ?_
          refine G.nil ?_
          refine QA.then_normal ?_
          refine C.ret ?_
          refine QA.ret1 rfl rfl ?_
          obtain rfl : zs = [] := List.eq_nil_of_length_eq_zero (by omega)
          obtain ⟨ho1, ho2⟩ := OrdI.done hI
          have hL : ordL n bs = out := by unfold ordL; rw [if_neg (by omega), ho1]
          have hB : ordB n bs = rs := by unfold ordB; rw [if_neg (by omega), ho2]
          have h60 : Sat W w18 (arr a1 out.length c1 1 3 (intsV out) :: RSrc W p T rs :: R) := (Sat.keep 2 1 ((h19.f2).f1))
          exact ⟨a1, c1, (by rw [hL]), (sl_cast (by rw [hL, hB]) h60)⟩
end Go.Proofs.Ytaaahjcldomnbaa
