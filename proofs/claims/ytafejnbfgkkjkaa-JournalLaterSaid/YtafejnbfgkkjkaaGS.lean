/-
  Package sums: the remainder's step, the table of half bytes, run, Sum.
-/
import Derived.Test.YtafejnbfgkkjkaaGV
import Derived.Test.YtafejnbfgkkjkaaGX
namespace Go.Proofs.Ytafejnbfgkkjkaa
open Go.RowKit Go.Sort

def step1 (r : BitVec 32) : BitVec 32 := if (r &&& 1#32) == 1#32 then (r >>> 1) ^^^ 3988292384#32 else r >>> 1
def stepN : Nat → BitVec 32 → BitVec 32
  | 0, r => r
  | k + 1, r => step1 (stepN k r)

theorem step_any (r : BitVec 32) (w : World) : Calls Try.prog 64 #[.int .u32 (r.toNat : Int)] w fun e w' => e = .returned (.int .u32 ((step1 r).toNat : Int)) ∧ Below w.heap.size w w' := by
  have M := Mem.start w
  refine calls_enter Try.func64 rfl 11 rfl rfl ?_; intro a S
  refine nxD ?_
  refine st_go [1] S rfl (by kernel_rfl) ?_; clear S a; intro a S
  refine nxC ?_
  refine wp_seq ?_
  refine nxD ?_
  refine st_go [1] S rfl (by kernel_rfl) ?_; clear S a; intro a S
  refine st_y S rfl rfl rfl (y_and32 (q := 1#32) S rfl rfl) ?_; clear S a; intro a S
  refine st_y S rfl rfl rfl (y_eql32 (q := 1#32) S rfl rfl) ?_; clear S a; intro a S
  refine nxC ?_
  refine st_tils (t := 5) S rfl ?_ ?_
  · clear S; intro h5 S
    refine st_condF S rfl ?_
    refine wp_skip ?_
    refine nxE ?_
    refine st_go [1] S rfl (by kernel_rfl) ?_; clear S a; intro a S
    refine st_y S rfl rfl rfl (y_shr32 (k := 1) S rfl rfl) ?_; clear S a; intro a S
    refine st_go [1] S rfl (by kernel_rfl) ?_; clear S a; intro a S
    refine nxC ?_
    refine wp_ret ?_
    refine end_one S rfl (res_tmp rfl) ?_
    refine ⟨?_, M.below⟩; simp only [step1, h5, if_true, if_false, Bool.false_eq_true]
  clear S; intro h5 S
  refine st_condT S rfl ?_
  refine nxD ?_
  refine st_go [1] S rfl (by kernel_rfl) ?_; clear S a; intro a S
  refine st_y S rfl rfl rfl (y_shr32 (k := 1) S rfl rfl) ?_; clear S a; intro a S
  refine st_y S rfl rfl rfl (y_xor32 (q := 3988292384#32) S rfl rfl) ?_; clear S a; intro a S
  refine st_go [1] S rfl (by kernel_rfl) ?_; clear S a; intro a S
  refine nxC ?_
  refine wp_ret ?_
  refine then_ret ?_
  refine end_one S rfl (res_tmp rfl) ?_
  refine ⟨?_, M.below⟩; simp only [step1, h5, if_true, if_false, Bool.false_eq_true]

/-- the table, k places of it filled -/
def htab (k : Nat) : List Value := (List.range 16).map fun i => .int .u32 (((if i < k then stepN 4 (BitVec.ofNat 32 i) else 0#32) : BitVec 32).toNat : Int)
theorem htab_set (k : Nat) : (htab k).set k (.int .u32 ((stepN 4 (BitVec.ofNat 32 k)).toNat : Int)) = htab (k + 1) := by
  apply List.ext_getElem?
  intro i
  rw [List.getElem?_set]
  by_cases h : k = i
  · subst h
    by_cases hk : k < 16
    · simp [htab, hk]
    · simp [htab, hk]
  · rw [if_neg h]
    have e : (i < k) = (i < k + 1) := by simp only [eq_iff_iff]; omega
    by_cases hi : i < 16 <;> simp [htab, hi, e]

theorem halves_any (w : World) : Calls Try.prog 58 #[] w fun e w' => e = .returned (.agg (htab 16).toArray) ∧ Below w.heap.size w w' := by
  have M := Mem.start w
  refine calls_enter Try.func58 rfl 21 rfl rfl ?_; intro a S
  refine nxD ?_
  refine st_alloc S M rfl rfl #[.int .u32 0, .int .u32 0, .int .u32 0, .int .u32 0, .int .u32 0, .int .u32 0, .int .u32 0, .int .u32 0, .int .u32 0, .int .u32 0, .int .u32 0, .int .u32 0, .int .u32 0, .int .u32 0, .int .u32 0, .int .u32 0] (by kernel_rfl) ?_; clear S M a; intro a w1 b1 S M hB
  refine nxA ?_
  refine st_go [1] S rfl (by kernel_rfl) ?_; clear S a; intro a S
  refine nxA ?_
  refine st_alloc S M rfl rfl #[.int .u32 0, .int .u32 0, .int .u32 0, .int .u32 0, .int .u32 0, .int .u32 0, .int .u32 0, .int .u32 0, .int .u32 0, .int .u32 0, .int .u32 0, .int .u32 0, .int .u32 0, .int .u32 0, .int .u32 0, .int .u32 0] (by kernel_rfl) ?_; clear S M a; intro a w2 b2 S M hB
  refine nxC ?_
  refine wp_seq ?_
  refine nxD ?_
  refine st_go [1] S rfl (by kernel_rfl) ?_; clear S a; intro a S
  refine nxC ?_
  refine wp_block ?_
  refine wp_loop_g (fun m a w' => ∃ (k : Nat), k ≤ 16 ∧ m = 16 - k ∧ Sees 21 a [(0, .pointer (some ⟨b1, 0, none⟩)), (1, .func (.func 64) #[] #[]), (2, .pointer (some ⟨b2, 0, none⟩)), (5, .int .i64 (k : Int))] ∧ Mem w w' [.blk b2 (htab k).toArray 113, .blk b1 (htab 0).toArray 113]) (16) ?_ ?_
  · skip
    exact ⟨0, by omega, rfl, S.sub _ rfl, M⟩
  clear S M a; intro m a wl
  rintro ⟨k, hk, rfl, S, M⟩
  refine nxD ?_
  refine st_go [1] S rfl (by kernel_rfl) ?_; clear S a; intro a S
  refine nxC ?_
  refine wp_seq ?_
  refine st_fi (t := 6) S rfl ?_ ?_
  · clear S; intro h6 S
    refine st_condF S rfl ?_
    refine wp_exit ?_
    refine then_exit ?_
    refine then_exit ?_
    refine block_hit ?_
    refine nxE ?_
    obtain rfl : k = 16 := by omega
    refine st_y S rfl rfl rfl (y_loadAgg (cs := htab 16) S (by kernel_rfl) rfl rfl (M.cellsAt 0 rfl cutL_all)) ?_; clear S a; intro a S
    refine st_store (sz := 16) (us := [_, _, _, _, _, _, _, _, _, _, _, _, _, _, _, _]) S M 1 rfl (by kernel_rfl) rfl rfl rfl rfl rfl rfl (by first | decide | (simp; done) | (simp; omega)) ?_; clear M; intro w5 M
    simp only [putL, List.set_cons_zero, List.set_cons_succ, Nat.reduceAdd] at M
    refine nxC ?_
    refine wp_ret ?_
    refine end_one S rfl (res_agg (cs := htab 16) (by kernel_rfl) rfl rfl (M.cellsAt 1 rfl cutL_all)) ?_
    exact ⟨rfl, M.below⟩
  clear S; intro h6 S
  refine st_condT S rfl ?_
  refine wp_skip ?_
  refine then_normal ?_
  refine wp_seq ?_
  refine wp_block ?_
  refine nxD ?_
  refine st_go [1, 1] S rfl (by kernel_rfl) ?_; clear S a; intro a S
  refine nxA ?_
  refine st_go [1] S rfl (by kernel_rfl) ?_; clear S a; intro a S
  refine st_y S rfl rfl rfl (y_to32 S rfl (by kernel_rfl) (by kernel_rfl)) ?_; clear S a; intro a S
  refine st_go [1] S rfl (by kernel_rfl) ?_; clear S a; intro a S
  refine nxC ?_
  refine wp_seq ?_
  refine nxD ?_
  refine st_go [1] S rfl (by kernel_rfl) ?_; clear S a; intro a S
  refine nxC ?_
  refine wp_block ?_
  refine wp_loop_g (fun m a w' => ∃ (j : Nat), j ≤ 4 ∧ m = 4 - j ∧ Sees 21 a [(0, .pointer (some ⟨b1, 0, none⟩)), (1, .func (.func 64) #[] #[]), (2, .pointer (some ⟨b2, 0, none⟩)), (3, .int .i64 (k : Int)), (5, .int .i64 (k : Int)), (4, .int .u32 ((stepN j (BitVec.ofNat 32 k)).toNat : Int)), (10, .int .i64 (j : Int))] ∧ Mem w w' [.blk b2 (htab k).toArray 113, .blk b1 (htab 0).toArray 113]) (4) ?_ ?_
  · skip
    exact ⟨0, by omega, rfl, S.sub _ rfl, M⟩
  clear S M a; intro m a wl
  rintro ⟨j, hj, rfl, S, M⟩
  refine nxD ?_
  refine st_go [1] S rfl (by kernel_rfl) ?_; clear S a; intro a S
  refine nxC ?_
  refine wp_seq ?_
  refine st_if (t := 11) S rfl ?_ ?_
  · clear S; intro h11 S
    refine st_condT S rfl ?_
    refine wp_skip ?_
    refine then_normal ?_
    refine wp_seq ?_
    refine wp_block ?_
    refine wp_region_lit ?_
    refine st_go [1, 1] S rfl (by kernel_rfl) ?_; clear S a; intro a S
    refine st_callV (xs := [(Operand.tmp 13)]) S (enters_of Try.func64 (by decide) rfl) rfl rfl rfl rfl (step_any _ _) ?_
    rintro _ w3 ⟨rfl, hK⟩; refine ⟨_, rfl, ?_⟩; clear S a; intro a S; replace M := M.grow hK
    refine st_go [1] S rfl (by kernel_rfl) ?_; clear S a; intro a S
    refine wpList_nil ?_
    refine block_normal ?_
    refine nxF ?_
    (first | refine st_y S rfl rfl rfl (y_addN S rfl rfl (by omega)) ?_ | refine st_y S rfl rfl rfl (y_int S rfl rfl rfl) ?_); clear S a; intro a S
    refine st_go [1] S rfl (by kernel_rfl) ?_; clear S a; intro a S
    refine nxC ?_
    exact ⟨4 - (j + 1), by omega, j + 1, by omega, rfl, S.sub _ rfl, M⟩
  clear S; intro h11 S
  refine st_condF S rfl ?_
  refine wp_exit ?_
  refine then_exit ?_
  refine then_exit ?_
  refine block_hit ?_
  refine nxF ?_
  refine st_go [1, 1] S rfl (by kernel_rfl) ?_; clear S a; intro a S
  refine st_y S rfl rfl rfl (y_indexA (m := 16) (sz := 1) S (by kernel_rfl) rfl rfl (by first | omega | (simp; done) | (simp; omega))) ?_; clear S a; intro a S
  try simp only [Int.toNat_natCast, Nat.mul_one, Nat.zero_add] at S
  refine st_store (sz := 1) (us := [_]) S M 0 rfl (by kernel_rfl) rfl rfl rfl rfl rfl rfl (by simp [htab]; omega) ?_; clear M; intro w4 M
  simp only [List.set_cons_zero, List.set_cons_succ] at M
  refine wpList_nil ?_
  refine block_normal ?_
  refine nxF ?_
  (first | refine st_y S rfl rfl rfl (y_addN S rfl rfl (by omega)) ?_ | refine st_y S rfl rfl rfl (y_int S rfl rfl rfl) ?_); clear S a; intro a S
  refine st_go [1] S rfl (by kernel_rfl) ?_; clear S a; intro a S
  refine nxC ?_
  obtain rfl : j = 4 := by omega
  exact ⟨16 - (k + 1), by omega, k + 1, by omega, rfl, S.sub _ rfl, by rw [← htab_set]; exact M⟩

end Go.Proofs.Ytafejnbfgkkjkaa

namespace Go.Proofs.Ytafejnbfgkkjkaa
open Go.RowKit Go.Sort

/-- a remainder with half a byte taken in, by the table -/
def halfT (r : BitVec 32) : BitVec 32 := stepN 4 (BitVec.ofNat 32 (r &&& 15#32).toNat) ^^^ (r >>> 4)
def byteT (r : BitVec 32) (b : UInt8) : BitVec 32 := halfT (halfT (r ^^^ BitVec.ofInt 32 (b.toNat : Int)))
def runT (r : BitVec 32) (bs : List UInt8) : BitVec 32 := bs.foldl byteT r
def sumT (bs : List UInt8) : BitVec 32 := ~~~ runT 4294967295#32 bs

theorem and15 (r : BitVec 32) : (r &&& 15#32).toNat < 16 := by
  rw [BitVec.toNat_and]
  exact Nat.lt_of_le_of_lt Nat.and_le_right (by decide)
theorem htab_get (i : Nat) (h : i < 16) : (htab 16).toArray[i]? = some (.int .u32 ((stepN 4 (BitVec.ofNat 32 i)).toNat : Int)) := by
  simp [htab, h]

theorem run_any (r : BitVec 32) (v : Value) (bs : List UInt8) (w : World) (hv : Bs 0 w.heap.size w v bs) : Calls Try.prog 45 #[.int .u32 (r.toNat : Int), v] w fun e w' => e = .returned (.int .u32 ((runT r bs).toNat : Int)) ∧ Below w.heap.size w w' := by
  have M := Mem.start w
  have hl := hv.2.1
  unfold maxLen at hl
  refine calls_enter Try.func45 rfl 36 rfl rfl ?_; intro a S
  refine nxD ?_
  refine st_go [1] S rfl (by kernel_rfl) ?_; clear S a; intro a S
  refine nxA ?_
  refine st_call (xs := []) S (enters_of Try.func58 (by decide) rfl) rfl rfl rfl (halves_any _) ?_
  rintro _ w1 ⟨rfl, hK⟩; refine ⟨_, rfl, ?_⟩; clear S a; intro a S; replace M := M.grow hK
  refine st_alloc S M rfl rfl #[.int .u32 0, .int .u32 0, .int .u32 0, .int .u32 0, .int .u32 0, .int .u32 0, .int .u32 0, .int .u32 0, .int .u32 0, .int .u32 0, .int .u32 0, .int .u32 0, .int .u32 0, .int .u32 0, .int .u32 0, .int .u32 0] (by kernel_rfl) ?_; clear S M a; intro a w2 b1 S M hB
  refine st_store (sz := 16) (us := [_, _, _, _, _, _, _, _, _, _, _, _, _, _, _, _]) S M 0 rfl (by kernel_rfl) rfl rfl rfl rfl rfl rfl (by first | decide | (simp; done) | (simp; omega)) ?_; clear M; intro w3 M
  simp only [putL, List.set_cons_zero, List.set_cons_succ, Nat.reduceAdd] at M
  refine nxC ?_
  refine wp_seq ?_
  refine nxD ?_
  refine st_go [1] S rfl (by kernel_rfl) ?_; clear S a; intro a S
  refine nxC ?_
  refine wp_block ?_
  refine wp_loop_g (fun m a w' => ∃ (k : Nat), k ≤ bs.length ∧ m = bs.length - k ∧ Sees 36 a [(0, .int .u32 ((runT r (bs.take k)).toNat : Int)), (1, v), (5, .pointer (some ⟨b1, 0, none⟩)), (6, .int .i64 (k : Int))] ∧ Mem w w' [.blk b1 (htab 16).toArray 113]) (bs.length) ?_ ?_
  · skip
    exact ⟨0, by omega, rfl, S.sub _ rfl, M⟩
  clear S M a; intro m a wl
  rintro ⟨k, hk, rfl, S, M⟩
  refine wp_seq ?_
  refine nxD ?_
  refine st_go [1, 1] S rfl (by kernel_rfl) ?_; clear S a; intro a S
  refine st_y S rfl rfl rfl (y_lenR (E := 5) S rfl (M.arg hv) (by kernel_rfl)) ?_; clear S a; intro a S
  refine st_go [1] S rfl (by kernel_rfl) ?_; clear S a; intro a S
  refine nxC ?_
  refine st_fi (t := 11) S rfl ?_ ?_
  · clear S; intro h11 S
    refine st_condF S rfl ?_
    refine wp_exit ?_
    refine then_exit ?_
    refine then_exit ?_
    refine block_hit ?_
    refine nxE ?_
    refine st_go [1, 1] S rfl (by kernel_rfl) ?_; clear S a; intro a S
    refine nxC ?_
    refine wp_ret ?_
    refine end_one S rfl (res_tmp rfl) ?_
    obtain rfl : k = bs.length := by omega
    rw [List.take_length]
    exact ⟨rfl, M.below⟩
  clear S; intro h11 S
  refine st_condT S rfl ?_
  refine wp_skip ?_
  refine then_normal ?_
  refine wp_seq ?_
  refine wp_block ?_
  refine nxD ?_
  have hk' : k < bs.length := by omega
  obtain ⟨x, hx⟩ : ∃ x, bs[k]? = some x := ⟨bs[k], List.getElem?_eq_getElem hk'⟩
  refine st_y S rfl rfl rfl (y_move S rfl) ?_; clear S a; intro a S
  refine st_go [1, 1] S rfl (by kernel_rfl) ?_; clear S a; intro a S
  refine st_y S rfl rfl rfl (y_indexR (e := 5) (sz := 1) S (by kernel_rfl) rfl (M.arg hv) rfl (by first | omega | (simp; done) | (simp; omega))) ?_; clear S a; intro a S
  try simp only [Int.toNat_natCast, Nat.mul_one, Nat.zero_add] at S
  refine st_y S rfl rfl rfl (y_load S (by kernel_rfl) rfl ((M.arg hv).byte hx)) ?_; clear S a; intro a S
  refine st_y S rfl rfl rfl (y_to32 S rfl (by kernel_rfl) (by kernel_rfl)) ?_; clear S a; intro a S
  refine st_y S rfl rfl rfl (y_xor32 S rfl rfl) ?_; clear S a; intro a S
  refine st_go [1] S rfl (by kernel_rfl) ?_; clear S a; intro a S
  refine nxA ?_
  refine st_go [1] S rfl (by kernel_rfl) ?_; clear S a; intro a S
  refine st_y S rfl rfl rfl (y_and32 (q := 15#32) S rfl rfl) ?_; clear S a; intro a S
  have h15 := and15 (runT r (List.take k bs) ^^^ BitVec.ofInt 32 ↑x.toNat)
  refine st_y S rfl rfl rfl (y_indexA (m := 16) (sz := 1) S (by kernel_rfl) rfl rfl (by first | omega | (simp; done) | (simp; omega))) ?_; clear S a; intro a S
  try simp only [Int.toNat_natCast, Nat.mul_one, Nat.zero_add] at S
  refine st_y S rfl rfl rfl (y_load S (by kernel_rfl) rfl (M.cell 0 rfl (htab_get _ h15))) ?_; clear S a; intro a S
  refine st_go [1] S rfl (by kernel_rfl) ?_; clear S a; intro a S
  refine st_y S rfl rfl rfl (y_shr32 (k := 4) S rfl rfl) ?_; clear S a; intro a S
  refine st_y S rfl rfl rfl (y_xor32 S rfl rfl) ?_; clear S a; intro a S
  refine st_go [1] S rfl (by kernel_rfl) ?_; clear S a; intro a S
  replace S := S.sub [(1, _), (5, _), (6, _), (11, _), (0, _)] rfl
  refine nxB ?_
  refine st_go [1] S rfl (by kernel_rfl) ?_; clear S a; intro a S
  refine st_y S rfl rfl rfl (y_and32 (q := 15#32) S rfl rfl) ?_; clear S a; intro a S
  have h15' := and15 (halfT (runT r (List.take k bs) ^^^ BitVec.ofInt 32 ↑x.toNat))
  unfold halfT at h15'
  refine st_y S rfl rfl rfl (y_indexA (m := 16) (sz := 1) S (by kernel_rfl) rfl rfl (by first | omega | (simp; done) | (simp; omega))) ?_; clear S a; intro a S
  try simp only [Int.toNat_natCast, Nat.mul_one, Nat.zero_add] at S
  refine st_y S rfl rfl rfl (y_load S (by kernel_rfl) rfl (M.cell 0 rfl (htab_get _ h15'))) ?_; clear S a; intro a S
  refine st_go [1] S rfl (by kernel_rfl) ?_; clear S a; intro a S
  refine st_y S rfl rfl rfl (y_shr32 (k := 4) S rfl rfl) ?_; clear S a; intro a S
  refine st_y S rfl rfl rfl (y_xor32 S rfl rfl) ?_; clear S a; intro a S
  refine st_go [1] S rfl (by kernel_rfl) ?_; clear S a; intro a S
  refine wpList_nil ?_
  refine block_normal ?_
  refine nxF ?_
  refine st_go [1] S rfl (by kernel_rfl) ?_; clear S a; intro a S
  (first | refine st_y S rfl rfl rfl (y_addN S rfl rfl (by omega)) ?_ | refine st_y S rfl rfl rfl (y_int S rfl rfl rfl) ?_); clear S a; intro a S
  refine st_go [1] S rfl (by kernel_rfl) ?_; clear S a; intro a S
  refine nxC ?_
  refine ⟨bs.length - (k + 1), by omega, k + 1, by omega, rfl, ?_, M⟩
  have e : runT r (bs.take (k + 1)) = byteT (runT r (bs.take k)) x := by
    rw [List.take_succ_eq_append_getElem hk', runT, List.foldl_append]
    rw [List.getElem?_eq_getElem hk'] at hx
    rw [← Option.some.inj hx]; rfl
  rw [e]
  exact S.sub _ rfl

theorem sum_any (v : Value) (bs : List UInt8) (w : World) (hv : Bs 0 w.heap.size w v bs) : Calls Try.prog 31 #[v] w fun e w' => e = .returned (.int .u32 ((sumT bs).toNat : Int)) ∧ Below w.heap.size w w' := by
  have M := Mem.start w
  refine calls_enter Try.func31 rfl 6 rfl rfl ?_; intro a S
  refine nxD ?_
  refine st_go [1] S rfl (by kernel_rfl) ?_; clear S a; intro a S
  refine nxA ?_
  refine st_go [1] S rfl (by kernel_rfl) ?_; clear S a; intro a S
  refine st_call (xs := [(Operand.const (Value.int IntKind.u32 4294967295)), (Operand.tmp 3)]) S (enters_of Try.func45 (by decide) rfl) rfl rfl rfl (run_any 4294967295#32 v bs _ (M.argW hv)) ?_
  rintro _ w1 ⟨rfl, hK⟩; refine ⟨_, rfl, ?_⟩; clear S a; intro a S; replace M := M.grow hK
  refine st_y S rfl rfl rfl (y_compl32 S rfl) ?_; clear S a; intro a S
  refine st_go [1] S rfl (by kernel_rfl) ?_; clear S a; intro a S
  refine nxC ?_
  refine wp_ret ?_
  refine end_one S rfl (res_tmp rfl) ?_
  exact ⟨rfl, M.below⟩

end Go.Proofs.Ytafejnbfgkkjkaa

namespace Go.Proofs.Ytafejnbfgkkjkaa
open Go.RowKit Go.Sort

def remT (r : BitVec 32) (b : UInt8) : BitVec 32 := stepN 8 (r ^^^ BitVec.ofInt 32 (b.toNat : Int))


def refRun (r : BitVec 32) (bs : List UInt8) : BitVec 32 := bs.foldl remT r
theorem step1_bit (r : BitVec 32) : step1 r = (r >>> 1) ^^^ (if r.getLsbD 0 then 3988292384#32 else 0#32) := by
  have h : ((r &&& 1#32) == 1#32) = r.getLsbD 0 := by
    have e : r &&& 1#32 = if r.getLsbD 0 then 1#32 else 0#32 := by
      apply BitVec.eq_of_getLsbD_eq
      intro i hi
      cases hr : r.getLsbD 0
      · rcases Nat.eq_zero_or_pos i with rfl | hp
        · rw [BitVec.getLsbD_and, hr]; rfl
        · have : (1#32).getLsbD i = false := by simp [BitVec.getLsbD_one]; omega
          simp [this]
      · rcases Nat.eq_zero_or_pos i with rfl | hp
        · rw [BitVec.getLsbD_and, hr]; rfl
        · have : (1#32).getLsbD i = false := by simp [BitVec.getLsbD_one]; omega
          simp [this]
    rw [e]; cases r.getLsbD 0 <;> rfl
  unfold step1
  rw [h]
  cases r.getLsbD 0 <;> simp
theorem step1_xor (x y : BitVec 32) : step1 (x ^^^ y) = step1 x ^^^ step1 y := by
  rw [step1_bit, step1_bit x, step1_bit y, BitVec.ushiftRight_xor_distrib, BitVec.getLsbD_xor]
  generalize x >>> 1 = p
  generalize y >>> 1 = q
  generalize 3988292384#32 = T
  cases x.getLsbD 0 <;> cases y.getLsbD 0
  · simp
  · simp [BitVec.xor_assoc]
  · simp only [Bool.true_xor, Bool.not_false, if_true, Bool.false_eq_true, if_false, BitVec.xor_zero]
    rw [BitVec.xor_assoc, BitVec.xor_comm q T, ← BitVec.xor_assoc]
  · simp only [Bool.true_xor, Bool.not_true, if_true, Bool.false_eq_true, if_false, BitVec.xor_zero]
    rw [BitVec.xor_assoc p T, BitVec.xor_comm q T, ← BitVec.xor_assoc T T q, BitVec.xor_self, BitVec.zero_xor]
theorem stepN_xor : ∀ (k : Nat) (x y : BitVec 32), stepN k (x ^^^ y) = stepN k x ^^^ stepN k y
  | 0, _, _ => rfl
  | k + 1, x, y => by simp only [stepN, stepN_xor k, step1_xor]
theorem step1_even {r : BitVec 32} (h : r.getLsbD 0 = false) : step1 r = r >>> 1 := by rw [step1_bit, h]; simp
theorem stepN_high : ∀ (k : Nat) (r : BitVec 32), (∀ i, i < k → r.getLsbD i = false) → stepN k r = r >>> k
  | 0, r, _ => by simp [stepN]
  | k + 1, r, h => by
    rw [stepN, stepN_high k r (fun i hi => h i (by omega)), step1_even, ← BitVec.shiftRight_add]
    rw [BitVec.getLsbD_ushiftRight]
    exact h (k + 0) (by omega)
theorem ofNat_toNat32 (r : BitVec 32) : BitVec.ofNat 32 r.toNat = r := by simp
theorem halfT_eq (r : BitVec 32) : halfT r = stepN 4 r := by
  have hsplit : r = (r &&& 15#32) ^^^ (r &&& 4294967280#32) := by
    apply BitVec.eq_of_getLsbD_eq
    intro i hi
    have : ((15#32).getLsbD i ^^ (4294967280#32).getLsbD i) = true := by
      have key : ∀ j : Fin 32, ((15#32).getLsbD j ^^ (4294967280#32).getLsbD j) = true := by decide
      exact key ⟨i, hi⟩
    simp only [BitVec.getLsbD_xor, BitVec.getLsbD_and]
    cases r.getLsbD i <;> simp_all
  have hhigh : stepN 4 (r &&& 4294967280#32) = (r &&& 4294967280#32) >>> 4 := stepN_high 4 _ (fun i hi => by
    have key : ∀ j : Fin 4, (4294967280#32).getLsbD j = false := by decide
    rw [BitVec.getLsbD_and, key ⟨i, hi⟩]; simp)
  have hsh : (r &&& 4294967280#32) >>> 4 = r >>> 4 := by
    apply BitVec.eq_of_getLsbD_eq
    intro i hi
    rw [BitVec.getLsbD_ushiftRight, BitVec.getLsbD_ushiftRight, BitVec.getLsbD_and]
    rcases Nat.lt_or_ge (4 + i) 32 with h | h
    · have key : ∀ j : Fin 28, (4294967280#32).getLsbD (4 + j) = true := by decide
      rw [key ⟨i, by omega⟩]; simp
    · rw [BitVec.getLsbD_of_ge _ _ h]; simp
  unfold halfT
  rw [ofNat_toNat32]
  conv => rhs; rw [hsplit, stepN_xor, hhigh, hsh]
theorem stepN_add (x y : Nat) (r : BitVec 32) : stepN (x + y) r = stepN x (stepN y r) := by
  induction x with
  | zero => simp [stepN]
  | succ x ih => rw [show x + 1 + y = (x + y) + 1 by omega]; simp only [stepN, ih]
theorem byteT_eq (r : BitVec 32) (b : UInt8) : byteT r b = remT r b := by
  unfold byteT remT
  rw [halfT_eq, halfT_eq, ← stepN_add]
theorem runT_eq (r : BitVec 32) (bs : List UInt8) : runT r bs = refRun r bs := by
  unfold runT refRun
  congr 1
  funext r b; exact byteT_eq r b


end Go.Proofs.Ytafejnbfgkkjkaa

namespace Go.Proofs.Ytafejnbfgkkjkaa
open Go.RowKit Go.Sort

/-- a sum's four bytes -/
def sum4 (s : BitVec 32) : List UInt8 := [byteOf (s.toNat : Int), byteOf ((s >>> 8).toNat : Int), byteOf ((s >>> 16).toNat : Int), byteOf ((s >>> 24).toNat : Int)]
def sealB (bs : List UInt8) : List UInt8 := bs ++ sum4 (sumT bs)
def openOk (bs : List UInt8) : Prop := ∃ x, bs = sealB x
theorem sum4_get (s : BitVec 32) (j : Nat) (h : j < 4) : (sum4 s)[j]? = some (byteOf ((s >>> (8 * j)).toNat : Int)) := by
  match j, h with
  | 0, _ => simp [sum4]
  | 1, _ => rfl
  | 2, _ => rfl
  | 3, _ => rfl
theorem split4 : ∀ bs : List UInt8, 4 ≤ bs.length → ∃ x cs : List UInt8, bs = x ++ cs ∧ cs.length = 4 := fun bs h =>
  ⟨bs.take (bs.length - 4), bs.drop (bs.length - 4), (List.take_append_drop _ _).symm, by simp; omega⟩
theorem openOk_iff {x cs : List UInt8} (h : cs.length = 4) : openOk (x ++ cs) ↔ cs = sum4 (sumT x) := by
  constructor
  · rintro ⟨y, e⟩
    have hl : x.length = y.length := by have := congrArg List.length e; simp [sealB, sum4, h] at this; exact this
    obtain ⟨rfl, e2⟩ := List.append_inj e hl
    exact e2
  · intro e; exact ⟨x, by rw [e]; rfl⟩
theorem openOk_len {bs : List UInt8} (h : openOk bs) : 4 ≤ bs.length := by obtain ⟨x, rfl⟩ := h; simp [sealB, sum4]

theorem seal_any (v : Value) (bs : List UInt8) (w : World) (hv : Bs 0 w.heap.size w v bs) (hb : bs.length ≤ 70000000000000) : Calls Try.prog 51 #[v] w fun e w' => ∃ v', e = .returned v' ∧ Fresh w w' 5 1 v' (sealB bs).length (bcells (sealB bs)) := by
  have M := Mem.start w
  have hcap := hv.cap
  refine calls_enter Try.func51 rfl 26 rfl rfl ?_; intro a S
  refine nxD ?_
  refine st_go [1] S rfl (by kernel_rfl) ?_; clear S a; intro a S
  refine nxA ?_
  refine st_go [1] S rfl (by kernel_rfl) ?_; clear S a; intro a S
  refine st_y S rfl rfl rfl (y_lenR (E := 5) S rfl (M.arg hv) (by kernel_rfl)) ?_; clear S a; intro a S
  refine st_go [1] S rfl (by kernel_rfl) ?_; clear S a; intro a S
  refine nxA ?_
  refine st_go [1] S rfl (by kernel_rfl) ?_; clear S a; intro a S
  refine st_call (xs := [(Operand.tmp 7)]) S (enters_of Try.func31 (by decide) rfl) rfl rfl rfl (sum_any v bs _ (M.argW hv)) ?_
  rintro _ w1 ⟨rfl, hK⟩; refine ⟨_, rfl, ?_⟩; clear S a; intro a S; replace M := M.grow hK
  refine st_go [1] S rfl (by kernel_rfl) ?_; clear S a; intro a S
  refine nxA ?_
  refine st_go [1, 1, 1] S rfl (by kernel_rfl) ?_; clear S a; intro a S
  refine st_y S rfl rfl rfl (y_slice03R (e := 5) (sz := 1) S (by kernel_rfl) rfl (M.arg hv) rfl rfl (by first | omega | (simp; done) | (simp; omega))) ?_; clear S a; intro a S
  refine st_go [1] S rfl (by kernel_rfl) ?_; clear S a; intro a S
  refine st_y S rfl rfl rfl (y_to8 S rfl (by kernel_rfl) (by kernel_rfl)) ?_; clear S a; intro a S
  refine st_go [1] S rfl (by kernel_rfl) ?_; clear S a; intro a S
  refine st_y S rfl rfl rfl (y_shr32 (k := 8) S rfl rfl) ?_; clear S a; intro a S
  refine st_y S rfl rfl rfl (y_to8 S rfl (by kernel_rfl) (by kernel_rfl)) ?_; clear S a; intro a S
  refine st_go [1] S rfl (by kernel_rfl) ?_; clear S a; intro a S
  refine st_y S rfl rfl rfl (y_shr32 (k := 16) S rfl rfl) ?_; clear S a; intro a S
  refine st_y S rfl rfl rfl (y_to8 S rfl (by kernel_rfl) (by kernel_rfl)) ?_; clear S a; intro a S
  refine st_go [1] S rfl (by kernel_rfl) ?_; clear S a; intro a S
  refine st_y S rfl rfl rfl (y_shr32 (k := 24) S rfl rfl) ?_; clear S a; intro a S
  refine st_y S rfl rfl rfl (y_to8 S rfl (by kernel_rfl) (by kernel_rfl)) ?_; clear S a; intro a S
  refine st_lit (ps := [(0, (Operand.tmp 14)), (1, (Operand.tmp 17)), (2, (Operand.tmp 20)), (3, (Operand.tmp 23))]) (e := 5) (sz := 1) (zl := [.int .u8 0, .int .u8 0, .int .u8 0, .int .u8 0]) (cs := [_, _, _, _]) S M rfl rfl (by kernel_rfl) rfl (rfl) ?_; clear S M a; intro a w2 b1 S M hB
  have hX := (M.arg hv).cutB (i := 0) (j := bs.length) (mx := bs.length) (Nat.zero_le _) (Nat.le_refl _) (Nat.le_refl _) hcap.1
  rw [show (bs.drop 0).take (bs.length - 0) = bs by simp] at hX
  rw [Int.toNat_natCast] at S
  have h4 : Rd b1 (b1 + 1) w2 1 (.slice (some ⟨b1, 0, none⟩) 4 4) 4 (bcells (sum4 (sumT bs))) := Rd.of_blk (M.blk 0 rfl) rfl (Nat.le_refl _) (by unfold maxLen; omega) rfl
  have hc0 : capV (cutV v 0 bs.length bs.length 1) < bs.length + 4 := by
    have : capV (cutV v 0 bs.length bs.length 1) = bs.length := by obtain ⟨ad, cap, rfl, _, _⟩ := hv.form; rfl
    omega
  refine st_appendG (e := 5) (sz := 1) (by_ := 1) (zc := [.int .u8 0]) S M rfl rfl (by kernel_rfl) rfl rfl rfl (hX) (hc0) (h4) (by omega) (by unfold maxLen; omega) ?_; clear S M a; intro a w3 vA loA hiA S M
  refine st_go [1] S rfl (by kernel_rfl) ?_; clear S a; intro a S
  replace S := S.sub [(0, _), (3, _), (4, _), (2, _)] rfl
  refine nxC ?_
  refine wp_ret ?_
  refine end_one S rfl (res_tmp rfl) ?_
  exact ⟨_, rfl, by have := M.fresh 0 rfl; rwa [← bcells_append, show bs.length + 4 = (bs ++ sum4 (sumT bs)).length by simp [sum4]] at this⟩

open Classical in
noncomputable def openB (bs : List UInt8) : Bool := decide (openOk bs)
theorem openB_true {bs : List UInt8} (h : openOk bs) : openB bs = true := by unfold openB; simpa using h
theorem openB_false {bs : List UInt8} (h : ¬ openOk bs) : openB bs = false := by unfold openB; simpa using h
def OpenPost (bs : List UInt8) (w : World) (e : Ending) (w' : World) : Prop :=
  ∃ v', e = .returned (.tuple #[v', .bool (openB bs)]) ∧ Below w.heap.size w w' ∧ (openOk bs → Fresh w w' 5 1 v' (bs.take (bs.length - 4)).length (bcells (bs.take (bs.length - 4)))) ∧ (¬ openOk bs → v' = .slice none 0 0)
theorem openPost_no {bs : List UInt8} {w w' : World} {H : List Ent} (M : Mem w w' H) (h : ¬ openOk bs) : OpenPost bs w (.returned (.tuple #[.slice none 0 0, .bool false])) w' :=
  ⟨_, by rw [openB_false h], M.below, fun h' => absurd h' h, fun _ => rfl⟩

theorem open_any (v : Value) (bs : List UInt8) (w : World) (hv : Bs 0 w.heap.size w v bs) (hb : bs.length ≤ 70000000000000) : Calls Try.prog 55 #[v] w (OpenPost bs w) := by
  have M := Mem.start w
  have hcap := hv.cap
  refine calls_enter Try.func55 rfl 38 rfl rfl ?_; intro a S
  refine nxD ?_
  refine st_go [1, 1] S rfl (by kernel_rfl) ?_; clear S a; intro a S
  refine nxA ?_
  refine st_go [1] S rfl (by kernel_rfl) ?_; clear S a; intro a S
  refine st_y S rfl rfl rfl (y_lenR (E := 5) S rfl (M.arg hv) (by kernel_rfl)) ?_; clear S a; intro a S
  (first | refine st_y S rfl rfl rfl (y_subN S rfl rfl (by omega)) ?_ | refine st_y S rfl rfl rfl (y_int S rfl rfl rfl) ?_); clear S a; intro a S
  refine st_go [1] S rfl (by kernel_rfl) ?_; clear S a; intro a S
  refine nxC ?_
  refine wp_seq ?_
  refine nxD ?_
  refine st_go [1, 1] S rfl (by kernel_rfl) ?_; clear S a; intro a S
  refine nxC ?_
  refine st_if (t := 12) S rfl ?_ ?_
  · clear S; intro h12 S
    refine st_condT S rfl ?_
    refine nxD ?_
    refine st_go [1, 1] S rfl (by kernel_rfl) ?_; clear S a; intro a S
    refine nxC ?_
    refine wp_ret ?_
    refine then_ret ?_
    refine end_two S rfl (res_tmp rfl) (res_tmp rfl) ?_
    exact openPost_no M (fun h => by have := openOk_len h; omega)
  clear S; intro h12 S
  refine st_condF S rfl ?_
  refine wp_skip ?_
  refine nxE ?_
  obtain ⟨x, cs, rfl, hcs⟩ := split4 bs (by omega)
  have hlx : (x ++ cs).length = x.length + 4 := by rw [List.length_append, hcs]
  rw [show ((x ++ cs).length : Int) - 4 = (x.length : Int) by omega] at S
  have hX := hv.cutB (i := 0) (j := x.length) (mx := x.length) (Nat.zero_le _) (by omega) (Nat.le_refl _) (by omega)
  rw [show ((x ++ cs).drop 0).take (x.length - 0) = x by simp] at hX
  refine st_y S rfl rfl rfl (y_move S rfl) ?_; clear S a; intro a S
  refine st_go [1, 1] S rfl (by kernel_rfl) ?_; clear S a; intro a S
  refine st_y S rfl rfl rfl (y_slice03R (e := 5) (sz := 1) S (by kernel_rfl) rfl (M.arg hv) rfl rfl (by first | omega | (simp; done) | (simp; omega))) ?_; clear S a; intro a S
  refine st_go [1] S rfl (by kernel_rfl) ?_; clear S a; intro a S
  refine nxA ?_
  rw [Int.toNat_natCast] at S
  refine st_y S rfl rfl rfl (y_move S rfl) ?_; clear S a; intro a S
  refine st_call (xs := [(Operand.tmp 17)]) S (enters_of Try.func31 (by decide) rfl) rfl rfl rfl (sum_any _ x _ (M.argW hX)) ?_
  rintro _ w1 ⟨rfl, hK⟩; refine ⟨_, rfl, ?_⟩; clear S a; intro a S; replace M := M.grow hK
  refine st_go [1] S rfl (by kernel_rfl) ?_; clear S a; intro a S
  refine nxC ?_
  refine wp_seq ?_
  refine nxD ?_
  refine st_go [1] S rfl (by kernel_rfl) ?_; clear S a; intro a S
  refine nxC ?_
  refine wp_block ?_
  refine wp_loop_g (fun m a w' => ∃ (j : Nat), j ≤ 4 ∧ m = 4 - j ∧ Sees 38 a [(0, v), (4, .int .i64 (x.length : Int)), (5, cutV v 0 x.length x.length 1), (6, .int .u32 ((sumT x).toNat : Int)), (19, .int .i64 (j : Int))] ∧ Mem w w' [] ∧ ∀ i, i < j → cs[i]? = (sum4 (sumT x))[i]?) (4) ?_ ?_
  · skip
    exact ⟨0, Nat.zero_le _, rfl, S.sub _ rfl, M, fun i hi => by omega⟩
  clear S M a; intro m a wl
  rintro ⟨j, hj, rfl, S, M, hsame⟩
  refine nxD ?_
  refine st_go [1] S rfl (by kernel_rfl) ?_; clear S a; intro a S
  refine nxC ?_
  refine wp_seq ?_
  refine st_fi (t := 20) S rfl ?_ ?_
  · clear S; intro h20 S
    refine st_condF S rfl ?_
    refine wp_exit ?_
    refine then_exit ?_
    refine then_exit ?_
    refine block_hit ?_
    refine nxE ?_
    obtain rfl : j = 4 := by omega
    have hok : openOk (x ++ cs) := (openOk_iff hcs).2 (by
      apply List.ext_getElem?
      intro i
      rcases Nat.lt_or_ge i 4 with h | h
      · exact hsame i h
      · rw [List.getElem?_eq_none (by omega), List.getElem?_eq_none (by simp [sum4]; omega)])
    refine st_lit0 (e := 5) (sz := 1) (by_ := 1) (zc := [.int .u8 0]) S M rfl rfl (by kernel_rfl) ?_; clear S M a; intro a w3 b1 S M hB
    refine st_go [1] S rfl (by kernel_rfl) ?_; clear S a; intro a S
    replace M := M.toRow (sz := 1) (m := 0) (cap := 0) (xs := []) 0 rfl rfl (Nat.le_refl _) (Nat.zero_le _) rfl rfl
    refine st_append (e := 5) (sz := 1) (by_ := 1) (zc := [.int .u8 0]) S M 0 rfl rfl (by kernel_rfl) rfl (by decide) rfl rfl rfl (M.arg hX) (allOne_bcells _) (by omega) (by unfold maxLen; omega) ?_; clear S M a; intro a w4 vA loA hiA S M
    refine st_go [1, 1] S rfl (by kernel_rfl) ?_; clear S a; intro a S
    refine nxC ?_
    refine wp_ret ?_
    refine end_two S rfl (res_tmp rfl) (res_tmp rfl) ?_
    have M' := M.fresh 0 rfl
    rw [Nat.zero_add, List.nil_append] at M'
    exact ⟨_, by rw [openB_true hok], M.below, fun _ => by rw [show (x ++ cs).take ((x ++ cs).length - 4) = x by rw [hlx]; simp]; exact M', fun h => absurd hok h⟩
  clear S; intro h20 S
  refine st_condT S rfl ?_
  refine wp_skip ?_
  refine then_normal ?_
  refine wp_seq ?_
  refine wp_block ?_
  refine nxD ?_
  refine st_go [1, 1] S rfl (by kernel_rfl) ?_; clear S a; intro a S
  refine nxC ?_
  refine wp_seq ?_
  have hj4 : j < 4 := by omega
  obtain ⟨c, hc⟩ : ∃ c, cs[j]? = some c := ⟨_, List.getElem?_eq_getElem (by omega)⟩
  have hc' : (x ++ cs)[((x.length : Int) + (j : Int)).toNat]? = some c := by rw [show ((x.length : Int) + (j : Int)).toNat = x.length + j by omega, List.getElem?_append_right (by omega), Nat.add_sub_cancel_left]; exact hc
  refine wp_quiet M (by kernel_rfl) (by kernel_rfl) ?_
  refine qt_y S rfl rfl rfl (fun w M => y_move S rfl) ?_; clear S a; intro a S
  refine qt_y S rfl rfl rfl (fun w M => y_move S rfl) ?_; clear S a; intro a S
  refine qt_y S rfl rfl rfl (fun w M => y_move S rfl) ?_; clear S a; intro a S
  (first | refine qt_y S rfl rfl rfl (fun w M => y_addN S rfl rfl (by omega)) ?_ | refine qt_y S rfl rfl rfl (fun w M => y_int S rfl rfl rfl) ?_); clear S a; intro a S
  refine qt_y S rfl rfl rfl (fun w M => y_indexR (e := 5) (sz := 1) S (by kernel_rfl) rfl (M.arg hv) rfl (by first | omega | (simp; done) | (simp; omega))) ?_; clear S a; intro a S
  try simp only [Int.toNat_natCast, Nat.mul_one, Nat.zero_add] at S
  refine qt_y S rfl rfl rfl (fun w M => y_load S (by kernel_rfl) rfl ((M.arg hv).byte hc')) ?_; clear S a; intro a S
  refine qt_y S rfl rfl rfl (fun w M => y_move S rfl) ?_; clear S a; intro a S
  refine qt_y S rfl rfl rfl (fun w M => y_move S rfl) ?_; clear S a; intro a S
  (first | refine qt_y S rfl rfl rfl (fun w M => y_mulN S rfl rfl (by omega)) ?_ | refine qt_y S rfl rfl rfl (fun w M => y_int S rfl rfl rfl) ?_); clear S a; intro a S
  rw [show (8 : Int) * (j : Int) = ((8 * j : Nat) : Int) by omega] at S
  refine qt_y S rfl rfl rfl (fun w M => y_shr32 S rfl rfl) ?_; clear S a; intro a S
  refine qt_y S rfl rfl rfl (fun w M => y_to8 S rfl (by kernel_rfl) (by kernel_rfl)) ?_; clear S a; intro a S
  refine qt_y S rfl rfl rfl (fun w M => y_int S rfl rfl rfl) ?_; clear S a; intro a S
  refine wpQuiet_nil ?_; clear M; intro w2 M
  refine then_normal ?_
  refine st_if (t := 33) S rfl ?_ ?_
  · clear S; intro h33 S
    refine st_condT S rfl ?_
    refine nxD ?_
    refine st_go [1, 1] S rfl (by kernel_rfl) ?_; clear S a; intro a S
    refine nxC ?_
    refine wp_ret ?_
    refine block_ret ?_
    refine then_ret ?_
    refine then_ret ?_
    refine block_ret ?_
    refine then_ret ?_
    refine end_two S rfl (res_tmp rfl) (res_tmp rfl) ?_
    exact openPost_no M (fun h => by
      have e := (openOk_iff hcs).1 h
      rw [e, sum4_get _ _ hj4] at hc
      have := Option.some.inj hc
      rw [this] at h33; exact h33 rfl)
  clear S; intro h33 S
  refine st_condF S rfl ?_
  refine wp_skip ?_
  refine block_normal ?_
  refine nxF ?_
  (first | refine st_y S rfl rfl rfl (y_addN S rfl rfl (by omega)) ?_ | refine st_y S rfl rfl rfl (y_int S rfl rfl rfl) ?_); clear S a; intro a S
  refine st_go [1] S rfl (by kernel_rfl) ?_; clear S a; intro a S
  replace S := S.sub [(0, _), (4, _), (5, _), (6, _), (20, _), (7, _), (33, _), (19, _)] rfl
  refine nxC ?_
  refine ⟨4 - (j + 1), by omega, j + 1, by omega, rfl, S.sub _ rfl, M, fun i hi => ?_⟩
  rcases Nat.lt_or_ge i j with h | h
  · exact hsame i h
  · have : i = j := by omega
    subst this
    rw [hc, sum4_get _ _ hj4]
    congr 1
    exact UInt8.toNat_inj.1 (by omega)


end Go.Proofs.Ytafejnbfgkkjkaa
