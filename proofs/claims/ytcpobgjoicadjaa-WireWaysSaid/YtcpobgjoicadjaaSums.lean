/-
  Package sums: the remainder's step, the table of half bytes, run, Sum.
-/
import Derived.Test.YtcpobgjoicadjaaV7
namespace Go.Proofs.Ytcpobgjoicadjaa
open Go.RowKit Go.Sort

def step1 (r : BitVec 32) : BitVec 32 := if (r &&& 1#32) == 1#32 then (r >>> 1) ^^^ 3988292384#32 else r >>> 1
def stepN : Nat → BitVec 32 → BitVec 32
  | 0, r => r
  | k + 1, r => step1 (stepN k r)

theorem step_any (r : BitVec 32) (w : World) : Calls Try.prog 66 #[.int .u32 (r.toNat : Int)] w fun e w' => e = .returned (.int .u32 ((step1 r).toNat : Int)) ∧ Below w.heap.size w w' := by
  have M := Mem.start w
  refine calls_enter Try.func66 rfl 11 rfl rfl ?_; intro a S
  refine wp_seq ?_
  -- region 0 sums.go:15
  refine wp_region_lit ?_
  refine st_y S rfl rfl rfl (y_assign S rfl) ?_; clear S a; intro a S
  refine wpList_nil ?_
  replace S := S.sub [(0, _), (2, _)] rfl
  refine then_normal ?_
  refine wp_seq ?_
  refine wp_seq ?_
  -- region 1 sums.go:16
  refine wp_region_lit ?_
  refine st_y S rfl rfl rfl (y_move S rfl) ?_; clear S a; intro a S
  refine st_y S rfl rfl rfl (y_and32 (q := 1#32) S rfl rfl) ?_; clear S a; intro a S
  refine st_y S rfl rfl rfl (y_eql32 (q := 1#32) S rfl rfl) ?_; clear S a; intro a S
  refine wpList_nil ?_
  replace S := S.sub [(0, _), (2, _), (5, _)] rfl
  refine then_normal ?_
  refine st_split (t := 5) S rfl ?_ ?_
  · clear S; intro h5 S
    refine st_condT S rfl ?_
    refine wp_seq ?_
    -- region 2 sums.go:17
    refine wp_region_lit ?_
    refine st_y S rfl rfl rfl (y_move S rfl) ?_; clear S a; intro a S
    refine st_y S rfl rfl rfl (y_shr32 (k := 1) S rfl rfl) ?_; clear S a; intro a S
    refine st_y S rfl rfl rfl (y_xor32 (q := 3988292384#32) S rfl rfl) ?_; clear S a; intro a S
    refine st_y S rfl rfl rfl (y_assign S rfl) ?_; clear S a; intro a S
    refine wpList_nil ?_
    replace S := S.sub [(0, _), (5, _), (2, _)] rfl
    refine then_normal ?_
    refine wp_ret ?_
    refine then_ret ?_
    refine end_one S rfl (res_tmp rfl) ?_
    refine ⟨?_, M.below⟩; simp only [step1, h5, if_true, if_false, Bool.false_eq_true]
  · clear S; intro h5 S
    refine st_condF S rfl ?_
    refine wp_skip ?_
    refine then_normal ?_
    refine wp_seq ?_
    -- region 3 sums.go:19
    refine wp_region_lit ?_
    refine st_y S rfl rfl rfl (y_move S rfl) ?_; clear S a; intro a S
    refine st_y S rfl rfl rfl (y_shr32 (k := 1) S rfl rfl) ?_; clear S a; intro a S
    refine st_y S rfl rfl rfl (y_assign S rfl) ?_; clear S a; intro a S
    refine wpList_nil ?_
    replace S := S.sub [(0, _), (5, _), (2, _)] rfl
    refine then_normal ?_
    refine wp_ret ?_
    refine end_one S rfl (res_tmp rfl) ?_
    refine ⟨?_, M.below⟩; simp only [step1, h5, if_true, if_false, Bool.false_eq_true]

/-- the table, k places of it filled -/
def htab (k : Nat) : List Value := (List.range 16).map fun i => .int .u32 (((if i < k then stepN 4 (BitVec.ofNat 32 i) else 0#32) : BitVec 32).toNat : Int)
theorem htab_set (k : Nat) : (htab k).set k (.int .u32 ((stepN 4 (BitVec.ofNat 32 k)).toNat : Int)) = htab (k + 1) := by
  apply List.ext_getElem?
  intro i
  rw [List.getElem?_set]
  by_cases h : k = i
  · subst h
    by_cases hk : k < 16
    · simp [htab, hk]
    · simp [htab, hk]
  · rw [if_neg h]
    have e : (i < k) = (i < k + 1) := by simp only [eq_iff_iff]; omega
    by_cases hi : i < 16 <;> simp [htab, hi, e]

theorem halves_any (w : World) : Calls Try.prog 64 #[] w fun e w' => e = .returned (.agg (htab 16).toArray) ∧ Below w.heap.size w w' := by
  have M := Mem.start w
  refine calls_enter Try.func64 rfl 21 rfl rfl ?_; intro a S
  refine wp_seq ?_
  -- region 0 sums.go:14
  refine wp_region_lit ?_
  refine st_alloc S M rfl rfl #[.int .u32 0, .int .u32 0, .int .u32 0, .int .u32 0, .int .u32 0, .int .u32 0, .int .u32 0, .int .u32 0, .int .u32 0, .int .u32 0, .int .u32 0, .int .u32 0, .int .u32 0, .int .u32 0, .int .u32 0, .int .u32 0] (by kernel_rfl) ?_; clear S M a; intro a w1 b1 S M hB
  refine wpList_nil ?_
  replace S := S.sub [(0, _)] rfl
  refine then_normal ?_
  refine wp_seq ?_
  -- region 1 sums.go:15
  refine wp_region_lit ?_
  refine st_y S rfl rfl rfl (y_assign S rfl) ?_; clear S a; intro a S
  refine wpList_nil ?_
  replace S := S.sub [(0, _), (1, _)] rfl
  refine then_normal ?_
  refine wp_seq ?_
  -- region 2 sums.go:21
  refine wp_region_lit ?_
  refine st_alloc S M rfl rfl #[.int .u32 0, .int .u32 0, .int .u32 0, .int .u32 0, .int .u32 0, .int .u32 0, .int .u32 0, .int .u32 0, .int .u32 0, .int .u32 0, .int .u32 0, .int .u32 0, .int .u32 0, .int .u32 0, .int .u32 0, .int .u32 0] (by kernel_rfl) ?_; clear S M a; intro a w2 b2 S M hB
  refine wpList_nil ?_
  replace S := S.sub [(0, _), (1, _), (2, _)] rfl
  refine then_normal ?_
  refine wp_seq ?_
  refine wp_seq ?_
  -- region 3 sums.go:22
  refine wp_region_lit ?_
  refine st_y S rfl rfl rfl (y_move S rfl) ?_; clear S a; intro a S
  refine wpList_nil ?_
  replace S := S.sub [(0, _), (1, _), (2, _), (5, _)] rfl
  refine then_normal ?_
  refine wp_block ?_
  refine wp_loop_g (fun m a w' => ∃ (k : Nat), k ≤ 16 ∧ m = 16 - k ∧ Sees 21 a [(0, .pointer (some ⟨b1, 0, none⟩)), (1, .func (.func 66) #[] #[]), (2, .pointer (some ⟨b2, 0, none⟩)), (5, .int .i64 (k : Int))] ∧ Mem w w' [.blk b2 (htab k).toArray 97, .blk b1 (htab 0).toArray 97]) (16) ?_ ?_
  · skip
    exact ⟨0, by omega, rfl, S, M⟩
  · clear S M a; intro m a wl
    rintro ⟨k, hk, rfl, S, M⟩
    refine wp_seq ?_
    -- region 4 sums.go:22
    refine wp_region_lit ?_
    refine st_y S rfl rfl rfl (y_int S rfl rfl rfl) ?_; clear S a; intro a S
    refine wpList_nil ?_
    replace S := S.sub [(0, _), (1, _), (2, _), (5, _), (6, _)] rfl
    refine then_normal ?_
    refine wp_seq ?_
    refine st_split (t := 6) S rfl ?_ ?_
    · clear S; intro h6 S
      first | replace h6 := nrmA h6 | replace h6 := nrmB h6 | skip
      first | replace h6 := nrm1 h6 | replace h6 := nrm2 h6 | replace h6 := nrm3 h6 | replace h6 := nrm4 h6 | replace h6 := nrm5 h6 | replace h6 := nrm6 h6 | replace h6 := of_decide_eq_true h6 | replace h6 := of_decide_eq_false h6 | skip
      refine st_condT S rfl ?_
      refine wp_skip ?_
      refine then_normal ?_
      refine wp_seq ?_
      refine wp_block ?_
      refine wp_seq ?_
      -- region 5 sums.go:22
      refine wp_region_lit ?_
      refine st_y S rfl rfl rfl (y_move S rfl) ?_; clear S a; intro a S
      refine st_y S rfl rfl rfl (y_assign S rfl) ?_; clear S a; intro a S
      refine wpList_nil ?_
      replace S := S.sub [(0, _), (1, _), (2, _), (5, _), (6, _), (3, _)] rfl
      refine then_normal ?_
      refine wp_seq ?_
      -- region 6 sums.go:23
      refine wp_region_lit ?_
      refine st_y S rfl rfl rfl (y_move S rfl) ?_; clear S a; intro a S
      refine st_y S rfl rfl rfl (y_to32 S rfl (by kernel_rfl) (by kernel_rfl)) ?_; clear S a; intro a S
      refine st_y S rfl rfl rfl (y_assign S rfl) ?_; clear S a; intro a S
      refine wpList_nil ?_
      replace S := S.sub [(0, _), (1, _), (2, _), (5, _), (6, _), (3, _), (4, _)] rfl
      refine then_normal ?_
      refine wp_seq ?_
      refine wp_seq ?_
      -- region 7 sums.go:24
      refine wp_region_lit ?_
      refine st_y S rfl rfl rfl (y_move S rfl) ?_; clear S a; intro a S
      refine wpList_nil ?_
      replace S := S.sub [(0, _), (1, _), (2, _), (5, _), (6, _), (3, _), (4, _), (10, _)] rfl
      refine then_normal ?_
      refine wp_block ?_
      refine wp_loop_g (fun m a w' => ∃ (j : Nat), j ≤ 4 ∧ m = 4 - j ∧ Sees 21 a [(0, .pointer (some ⟨b1, 0, none⟩)), (1, .func (.func 66) #[] #[]), (2, .pointer (some ⟨b2, 0, none⟩)), (3, .int .i64 (k : Int)), (5, .int .i64 (k : Int)), (4, .int .u32 ((stepN j (BitVec.ofNat 32 k)).toNat : Int)), (10, .int .i64 (j : Int))] ∧ Mem w w' [.blk b2 (htab k).toArray 97, .blk b1 (htab 0).toArray 97]) (4) ?_ ?_
      · skip
        exact ⟨0, by omega, rfl, S.sub _ rfl, M⟩
      · clear S M a; intro m a wl
        rintro ⟨j, hj, rfl, S, M⟩
        refine wp_seq ?_
        -- region 8 sums.go:24
        refine wp_region_lit ?_
        refine st_y S rfl rfl rfl (y_int S rfl rfl rfl) ?_; clear S a; intro a S
        refine wpList_nil ?_
        replace S := S.sub [(0, _), (1, _), (2, _), (3, _), (5, _), (4, _), (10, _), (11, _)] rfl
        refine then_normal ?_
        refine wp_seq ?_
        refine st_split (t := 11) S rfl ?_ ?_
        · clear S; intro h11 S
          first | replace h11 := nrmA h11 | replace h11 := nrmB h11 | skip
          first | replace h11 := nrm1 h11 | replace h11 := nrm2 h11 | replace h11 := nrm3 h11 | replace h11 := nrm4 h11 | replace h11 := nrm5 h11 | replace h11 := nrm6 h11 | replace h11 := of_decide_eq_true h11 | replace h11 := of_decide_eq_false h11 | skip
          refine st_condT S rfl ?_
          refine wp_skip ?_
          refine then_normal ?_
          refine wp_seq ?_
          refine wp_block ?_
          -- region 9 sums.go:25
          refine wp_region_lit ?_
          refine st_y S rfl rfl rfl (y_move S rfl) ?_; clear S a; intro a S
          refine st_y S rfl rfl rfl (y_move S rfl) ?_; clear S a; intro a S
          refine st_callV (xs := [(Operand.tmp 13)]) S (enters_of Try.func66 (by decide) rfl) rfl rfl rfl rfl (step_any _ _) ?_
          rintro _ w3 ⟨rfl, hK⟩; refine ⟨_, rfl, ?_⟩; clear S a; intro a S; replace M := M.grow hK
          refine st_y S rfl rfl rfl (y_assign S rfl) ?_; clear S a; intro a S
          refine wpList_nil ?_
          replace S := S.sub [(0, _), (1, _), (2, _), (3, _), (5, _), (10, _), (11, _), (4, _)] rfl
          refine block_normal ?_
          refine then_normal ?_
          -- region 10 sums.go:24
          refine wp_region_lit ?_
          (first | refine st_y S rfl rfl rfl (y_addN S rfl rfl (by omega)) ?_ | refine st_y S rfl rfl rfl (y_int S rfl rfl rfl) ?_); clear S a; intro a S
          refine st_y S rfl rfl rfl (y_move S rfl) ?_; clear S a; intro a S
          refine wpList_nil ?_
          replace S := S.sub [(0, _), (1, _), (2, _), (3, _), (5, _), (11, _), (4, _), (10, _)] rfl
          refine then_normal ?_
          exact ⟨4 - (j + 1), by omega, j + 1, by omega, rfl, S.sub _ rfl, M⟩
        · clear S; intro h11 S
          first | replace h11 := nrmA h11 | replace h11 := nrmB h11 | skip
          first | replace h11 := nrm1 h11 | replace h11 := nrm2 h11 | replace h11 := nrm3 h11 | replace h11 := nrm4 h11 | replace h11 := nrm5 h11 | replace h11 := nrm6 h11 | replace h11 := of_decide_eq_true h11 | replace h11 := of_decide_eq_false h11 | skip
          refine st_condF S rfl ?_
          refine wp_exit ?_
          refine then_exit ?_
          refine then_exit ?_
          refine block_hit ?_
          refine then_normal ?_
          -- region 11 sums.go:27
          refine wp_region_lit ?_
          refine st_y S rfl rfl rfl (y_move S rfl) ?_; clear S a; intro a S
          refine st_y S rfl rfl rfl (y_move S rfl) ?_; clear S a; intro a S
          refine st_y S rfl rfl rfl (y_indexA (m := 16) (sz := 1) S (by kernel_rfl) rfl rfl (by first | omega | (simp; done) | (simp; omega))) ?_; clear S a; intro a S
          try simp only [Int.toNat_natCast, Nat.mul_one, Nat.zero_add] at S
          refine st_store (sz := 1) (us := [_]) S M 0 rfl (by kernel_rfl) rfl rfl rfl rfl rfl rfl (by simp [htab]; omega) ?_; clear M; intro w4 M
          simp only [List.set_cons_zero, List.set_cons_succ] at M
          refine wpList_nil ?_
          replace S := S.sub [(0, _), (1, _), (2, _), (3, _), (5, _), (4, _), (10, _), (11, _)] rfl
          refine block_normal ?_
          refine then_normal ?_
          -- region 12 sums.go:22
          refine wp_region_lit ?_
          (first | refine st_y S rfl rfl rfl (y_addN S rfl rfl (by omega)) ?_ | refine st_y S rfl rfl rfl (y_int S rfl rfl rfl) ?_); clear S a; intro a S
          refine st_y S rfl rfl rfl (y_move S rfl) ?_; clear S a; intro a S
          refine wpList_nil ?_
          replace S := S.sub [(0, _), (1, _), (2, _), (3, _), (4, _), (10, _), (11, _), (5, _)] rfl
          refine then_normal ?_
          obtain rfl : j = 4 := by omega
          exact ⟨16 - (k + 1), by omega, k + 1, by omega, rfl, S.sub _ rfl, by rw [← htab_set]; exact M⟩
    · clear S; intro h6 S
      first | replace h6 := nrmA h6 | replace h6 := nrmB h6 | skip
      first | replace h6 := nrm1 h6 | replace h6 := nrm2 h6 | replace h6 := nrm3 h6 | replace h6 := nrm4 h6 | replace h6 := nrm5 h6 | replace h6 := nrm6 h6 | replace h6 := of_decide_eq_true h6 | replace h6 := of_decide_eq_false h6 | skip
      refine st_condF S rfl ?_
      refine wp_exit ?_
      refine then_exit ?_
      refine then_exit ?_
      refine block_hit ?_
      refine then_normal ?_
      refine wp_seq ?_
      -- region 13 sums.go:29
      refine wp_region_lit ?_
      obtain rfl : k = 16 := by omega
      refine st_y S rfl rfl rfl (y_loadAgg (cs := htab 16) S (by kernel_rfl) rfl rfl (M.cellsAt 0 rfl cutL_all)) ?_; clear S a; intro a S
      refine st_store (sz := 16) (us := [_, _, _, _, _, _, _, _, _, _, _, _, _, _, _, _]) S M 1 rfl (by kernel_rfl) rfl rfl rfl rfl rfl rfl (by first | decide | (simp; done) | (simp; omega)) ?_; clear M; intro w5 M
      simp only [putL, List.set_cons_zero, List.set_cons_succ, Nat.reduceAdd] at M
      refine wpList_nil ?_
      replace S := S.sub [(0, _), (1, _), (2, _), (5, _), (6, _)] rfl
      refine then_normal ?_
      refine wp_ret ?_
      refine end_one S rfl (res_agg (cs := htab 16) (by kernel_rfl) rfl rfl (M.cellsAt 1 rfl cutL_all)) ?_
      exact ⟨rfl, M.below⟩

end Go.Proofs.Ytcpobgjoicadjaa
