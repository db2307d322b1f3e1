/-
  The document's frames: low, number, May, Same.
-/
import Derived.Test.YtdkdplahikoicaaVC
import Derived.Test.YtdkdplahikoicaaFrF
namespace Go.Proofs.Ytdkdplahikoicaa
open Go.RowKit Go.Sort

theorem byteOf_mod (i : Int) : byteOf (i % 256) = byteOf i := by unfold byteOf; rw [Int.emod_emod]
theorem leB_succ (n : Int) (k : Nat) : leB n (k + 1) = leB n k ++ [byteOf (n / 256 ^ k)] := by
  unfold leB; rw [List.range_succ, List.map_append]; rfl

theorem low_any {wc w : World} {H : List Ent} {lo hi : Nat} {v : Value} {xs : List UInt8} (M : Mem wc w (rowE lo hi 5 1 v xs.length (bcells xs) :: H)) (n : Int) (k : Nat) (hn : 0 ≤ n ∧ n ≤ 18446744073709551615) (hx : xs.length + k ≤ 1000000) :
    Calls Try.prog 27 #[v, .int .u64 n, .int .i64 (k : Int)] w fun e w' => ∃ v' lo' hi', e = .returned v' ∧ Mem wc w' (rowE lo' hi' 5 1 v' (xs ++ leB n k).length (bcells (xs ++ leB n k)) :: H) := by
  refine calls_enter Try.func27 rfl 22 rfl rfl ?_; intro a S
  refine wp_seq ?_
  -- region 0 ref.go:20
  skip
  refine wp_region_lit ?_
  refine st_y S rfl rfl rfl (y_assign S rfl) ?_; clear S a; intro a S
  refine wpList_nil ?_
  replace S := S.sub [(0, _), (1, _), (2, _), (6, _)] rfl
  refine then_normal ?_
  refine wp_seq ?_
  refine wp_seq ?_
  -- region 1 ref.go:21
  refine wp_region_lit ?_
  refine st_y S rfl rfl rfl (y_assign S rfl) ?_; clear S a; intro a S
  refine wpList_nil ?_
  replace S := S.sub [(0, _), (1, _), (2, _), (6, _), (7, _)] rfl
  refine then_normal ?_
  refine wp_block ?_
  refine wp_loop_g (fun m a w' => ∃ (j lo hi : Nat) (v' : Value), j ≤ k ∧ m = k - j ∧ Sees 22 a [(0, v'), (1, .int .u64 (n / 256 ^ j)), (2, .int .i64 (k : Int)), (7, .int .i64 (j : Int))] ∧ Mem wc w' (rowE lo hi 5 1 v' (xs ++ leB n j).length (bcells (xs ++ leB n j)) :: H)) (k) ?_ ?_
  · skip
    exact ⟨0, lo, hi, v, Nat.zero_le _, rfl, by simpa using S.sub _ rfl, by simpa [leB] using M⟩
  · clear S M a; intro m a wl
    rintro ⟨j, lo, hi, v', hj, rfl, S, M⟩
    refine wp_seq ?_
    refine wp_seq ?_
    -- region 2 ref.go:21
    refine wp_region_lit ?_
    refine st_y S rfl rfl rfl (y_move S rfl) ?_; clear S a; intro a S
    refine st_y S rfl rfl rfl (y_move S rfl) ?_; clear S a; intro a S
    refine st_y S rfl rfl rfl (y_int S rfl rfl rfl) ?_; clear S a; intro a S
    refine wpList_nil ?_
    replace S := S.sub [(0, _), (1, _), (2, _), (7, _), (10, _)] rfl
    refine then_normal ?_
    refine st_split (t := 10) S rfl ?_ ?_
    · clear S; intro h10 S
      first | replace h10 := nrmA h10 | replace h10 := nrmB h10 | skip
      first | replace h10 := nrm1 h10 | replace h10 := nrm2 h10 | replace h10 := nrm3 h10 | replace h10 := nrm4 h10 | replace h10 := nrm5 h10 | replace h10 := nrm6 h10 | replace h10 := of_decide_eq_true h10 | replace h10 := of_decide_eq_false h10 | skip
      refine st_condT S rfl ?_
      refine wp_skip ?_
      refine then_normal ?_
      refine wp_seq ?_
      refine wp_block ?_
      refine wp_seq ?_
      -- region 4 ref.go:22
      refine wp_region_lit ?_
      have hp : (0 : Int) < 256 ^ j := Int.pow_pos (by omega)
      have hd : 0 ≤ n / 256 ^ j ∧ n / 256 ^ j ≤ 18446744073709551615 := ⟨Int.ediv_nonneg hn.1 (by omega), Int.le_trans (Int.ediv_le_self _ hn.1) hn.2⟩
      have hlen : (xs ++ leB n j).length = xs.length + j := by rw [List.length_append, leB_length]
      refine st_y S rfl rfl rfl (y_move S rfl) ?_; clear S a; intro a S
      refine st_y S rfl rfl rfl (y_move S rfl) ?_; clear S a; intro a S
      refine st_y S rfl rfl rfl (y_andU255 S rfl rfl (by omega)) ?_; clear S a; intro a S
      refine st_y S rfl rfl rfl (y_to8 S rfl (by kernel_rfl) (by kernel_rfl)) ?_; clear S a; intro a S
      refine st_lit (ps := [(0, (Operand.tmp 16))]) (e := 5) (sz := 1) (zl := [.int .u8 0]) (cs := [_]) S M rfl rfl (by kernel_rfl) rfl rfl ?_; clear S M a; intro a w1 bD S M hB
      refine st_append (e := 5) (sz := 1) (by_ := 1) (zc := [.int .u8 0]) S M 1 rfl rfl (by kernel_rfl) rfl (by decide) rfl rfl rfl (Rd.of_blk (sz := 1) (xs := bcells [byteOf (n / 256 ^ j % 256)]) (M.blk 0 rfl) rfl (Nat.le_refl _) (by unfold maxLen; omega) rfl) (allOne_bcells _) (by omega) (by unfold maxLen; omega) ?_; clear S M a; intro a w2 vA loA hiA S M
      refine st_y S rfl rfl rfl (y_assign S rfl) ?_; clear S a; intro a S
      refine wpList_nil ?_
      replace S := S.sub [(1, _), (2, _), (7, _), (10, _), (0, _)] rfl
      refine then_normal ?_
      -- region 5 ref.go:23
      refine wp_region_lit ?_
      refine st_y S rfl rfl rfl (y_move S rfl) ?_; clear S a; intro a S
      refine st_y S rfl rfl rfl (y_shrU (k := 8) S rfl rfl (by omega)) ?_; clear S a; intro a S
      refine st_y S rfl rfl rfl (y_assign S rfl) ?_; clear S a; intro a S
      refine wpList_nil ?_
      replace S := S.sub [(2, _), (7, _), (10, _), (0, _), (1, _)] rfl
      refine block_normal ?_
      refine then_normal ?_
      -- region 3 ref.go:21
      refine wp_region_lit ?_
      refine st_y S rfl rfl rfl (y_move S rfl) ?_; clear S a; intro a S
      (first | refine st_y S rfl rfl rfl (y_addN S rfl rfl (by omega)) ?_ | refine st_y S rfl rfl rfl (y_int S rfl rfl rfl) ?_); clear S a; intro a S
      refine st_y S rfl rfl rfl (y_assign S rfl) ?_; clear S a; intro a S
      refine wpList_nil ?_
      replace S := S.sub [(2, _), (10, _), (0, _), (1, _), (7, _)] rfl
      refine then_normal ?_
      replace M := M.drop 1
      simp only [List.eraseIdx_cons_succ, List.eraseIdx_cons_zero] at M
      refine ⟨k - (j + 1), by omega, j + 1, loA, hiA, vA, by omega, rfl, ?_, ?_⟩
      · have e : n / 256 ^ j / 2 ^ 8 = n / 256 ^ (j + 1) := by rw [Int.ediv_ediv_of_nonneg (by omega), Int.pow_succ]; rfl
        rw [← e]; exact S.sub _ rfl
      · rw [leB_succ, ← List.append_assoc, bcells_append (xs ++ leB n j), show ∀ y, ((xs ++ leB n j) ++ [byteOf y]).length = (xs ++ leB n j).length + 1 from fun y => by rw [List.length_append]; rfl, ← byteOf_mod]
        exact M
    · clear S; intro h10 S
      first | replace h10 := nrmA h10 | replace h10 := nrmB h10 | skip
      first | replace h10 := nrm1 h10 | replace h10 := nrm2 h10 | replace h10 := nrm3 h10 | replace h10 := nrm4 h10 | replace h10 := nrm5 h10 | replace h10 := nrm6 h10 | replace h10 := of_decide_eq_true h10 | replace h10 := of_decide_eq_false h10 | skip
      refine st_condF S rfl ?_
      refine wp_exit ?_
      refine then_exit ?_
      refine then_exit ?_
      refine block_hit ?_
      refine then_normal ?_
      refine wp_seq ?_
      -- region 6 ref.go:25
      refine wp_region_lit ?_
      refine st_y S rfl rfl rfl (y_move S rfl) ?_; clear S a; intro a S
      refine st_y S rfl rfl rfl (y_assign S rfl) ?_; clear S a; intro a S
      refine wpList_nil ?_
      replace S := S.sub [(0, _), (1, _), (2, _), (7, _), (10, _), (6, _)] rfl
      refine then_normal ?_
      refine wp_ret ?_
      refine end_one S rfl (res_tmp rfl) ?_
      obtain rfl : j = k := by omega
      exact ⟨_, _, _, rfl, M⟩

theorem leN_cons_or {b : UInt8} {m : Nat} : m * 2 ^ 8 ||| b.toNat = b.toNat + 256 * m := by
  rw [Nat.or_comm, or_add (show b.toNat < 2 ^ 8 from UInt8.toNat_lt b)]; omega
theorem refNumber_any (v : Value) (bs : List UInt8) (w : World) (hv : Bs 0 w.heap.size w v bs) (hl : bs.length ≤ 7) : Calls Try.prog 33 #[v] w fun e w' => e = .returned (.int .u64 ((leN bs : Nat) : Int)) ∧ Below w.heap.size w w' := by
  have M := Mem.start w
  have hbd : ∀ j, leN (bs.drop j) < 2 ^ 56 := fun j => Nat.lt_of_lt_of_le (leN_lt _) (by rw [show (256 : Nat) = 2 ^ 8 from rfl, ← Nat.pow_mul]; exact Nat.pow_le_pow_right (by omega) (by rw [List.length_drop]; omega))
  refine calls_enter Try.func33 rfl 21 rfl rfl ?_; intro a S
  refine wp_seq ?_
  -- region 0 ref.go:28
  refine wp_region_lit ?_
  refine st_y S rfl rfl rfl (y_assign S rfl) ?_; clear S a; intro a S
  refine wpList_nil ?_
  replace S := S.sub [(0, _), (2, _)] rfl
  refine then_normal ?_
  refine wp_seq ?_
  -- region 1 ref.go:29
  refine wp_region_lit ?_
  refine st_y S rfl rfl rfl (y_assign S rfl) ?_; clear S a; intro a S
  refine wpList_nil ?_
  replace S := S.sub [(0, _), (2, _), (3, _)] rfl
  refine then_normal ?_
  refine wp_seq ?_
  refine wp_seq ?_
  -- region 2 ref.go:30
  refine wp_region_lit ?_
  refine st_y S rfl rfl rfl (y_move S rfl) ?_; clear S a; intro a S
  refine st_y S rfl rfl rfl (y_lenR (E := 5) S rfl (M.arg hv) (by kernel_rfl)) ?_; clear S a; intro a S
  (first | refine st_y S rfl rfl rfl (y_subN S rfl rfl (by omega)) ?_ | refine st_y S rfl rfl rfl (y_int S rfl rfl rfl) ?_); clear S a; intro a S
  refine st_y S rfl rfl rfl (y_assign S rfl) ?_; clear S a; intro a S
  refine wpList_nil ?_
  replace S := S.sub [(0, _), (2, _), (3, _), (4, _)] rfl
  refine then_normal ?_
  refine wp_block ?_
  refine wp_loop_g (fun m a w' => ∃ (j : Nat), j ≤ bs.length ∧ m = j ∧ Sees 21 a [(0, v), (3, .int .u64 ((leN (bs.drop j) : Nat) : Int)), (4, .int .i64 ((j : Int) - 1))] ∧ Mem w w' []) (bs.length) ?_ ?_
  · skip
    refine ⟨bs.length, Nat.le_refl _, rfl, ?_, M⟩
    rw [List.drop_length]; exact S.sub _ rfl
  · clear S M a; intro m a wl
    rintro ⟨j, hj, rfl, S, M⟩
    refine wp_seq ?_
    refine wp_seq ?_
    -- region 3 ref.go:30
    refine wp_region_lit ?_
    refine st_y S rfl rfl rfl (y_move S rfl) ?_; clear S a; intro a S
    refine st_y S rfl rfl rfl (y_int S rfl rfl rfl) ?_; clear S a; intro a S
    refine wpList_nil ?_
    replace S := S.sub [(0, _), (3, _), (4, _), (9, _)] rfl
    refine then_normal ?_
    refine st_split (t := 9) S rfl ?_ ?_
    · clear S; intro h9 S
      first | replace h9 := nrmA h9 | replace h9 := nrmB h9 | skip
      first | replace h9 := nrm1 h9 | replace h9 := nrm2 h9 | replace h9 := nrm3 h9 | replace h9 := nrm4 h9 | replace h9 := nrm5 h9 | replace h9 := nrm6 h9 | replace h9 := of_decide_eq_true h9 | replace h9 := of_decide_eq_false h9 | skip
      refine st_condT S rfl ?_
      refine wp_skip ?_
      refine then_normal ?_
      refine wp_seq ?_
      refine wp_block ?_
      -- region 5 ref.go:31
      refine wp_region_lit ?_
      obtain ⟨i, rfl⟩ : ∃ i, m = i + 1 := ⟨m - 1, by omega⟩
      obtain ⟨x, hx⟩ : ∃ x, bs[i]? = some x := ⟨_, List.getElem?_eq_getElem (by omega)⟩
      have hx' : bs[(((i + 1 : Nat) : Int) - 1).toNat]? = some x := by rw [show (((i + 1 : Nat) : Int) - 1).toNat = i by omega]; exact hx
      have hx256 : x.toNat < 256 := UInt8.toNat_lt x
      have hb1 := hbd (i + 1)
      refine st_y S rfl rfl rfl (y_move S rfl) ?_; clear S a; intro a S
      refine st_y S rfl rfl rfl (y_shlU (k := 8) S rfl rfl (by omega) (by omega)) ?_; clear S a; intro a S
      refine st_y S rfl rfl rfl (y_move S rfl) ?_; clear S a; intro a S
      refine st_y S rfl rfl rfl (y_move S rfl) ?_; clear S a; intro a S
      refine st_y S rfl rfl rfl (y_indexR (e := 5) (sz := 1) S (by kernel_rfl) rfl (M.arg hv) rfl (by first | omega | (simp; done) | (simp; omega))) ?_; clear S a; intro a S
      try simp only [Int.toNat_natCast, Nat.mul_one, Nat.zero_add] at S
      refine st_y S rfl rfl rfl (y_load S (by kernel_rfl) rfl ((M.arg hv).byte hx')) ?_; clear S a; intro a S
      refine st_y S rfl rfl rfl (y_toU64 S rfl (by kernel_rfl) (by kernel_rfl) (by omega)) ?_; clear S a; intro a S
      rw [show ((leN (bs.drop (i + 1)) : Nat) : Int) * 2 ^ 8 = ((leN (bs.drop (i + 1)) * 2 ^ 8 : Nat) : Int) by omega] at S
      refine st_y S rfl rfl rfl (y_orU S rfl rfl (by omega) (by omega)) ?_; clear S a; intro a S
      refine st_y S rfl rfl rfl (y_assign S rfl) ?_; clear S a; intro a S
      refine wpList_nil ?_
      replace S := S.sub [(0, _), (4, _), (9, _), (3, _)] rfl
      refine block_normal ?_
      refine then_normal ?_
      -- region 4 ref.go:30
      refine wp_region_lit ?_
      refine st_y S rfl rfl rfl (y_move S rfl) ?_; clear S a; intro a S
      (first | refine st_y S rfl rfl rfl (y_subN S rfl rfl (by omega)) ?_ | refine st_y S rfl rfl rfl (y_int S rfl rfl rfl) ?_); clear S a; intro a S
      refine st_y S rfl rfl rfl (y_assign S rfl) ?_; clear S a; intro a S
      refine wpList_nil ?_
      replace S := S.sub [(0, _), (9, _), (3, _), (4, _)] rfl
      refine then_normal ?_
      refine ⟨i, by omega, i, by omega, rfl, ?_, M⟩
      have e : leN (bs.drop i) = leN (bs.drop (i + 1)) * 2 ^ 8 ||| x.toNat := by
        obtain ⟨hlt, he⟩ := List.getElem?_eq_some_iff.1 hx
        rw [leN_cons_or, List.drop_eq_getElem_cons hlt, he]; rfl
      rw [e, show ((i : Int) - 1) = ((i + 1 : Nat) : Int) - 1 - 1 by omega]
      exact S.sub _ rfl
    · clear S; intro h9 S
      first | replace h9 := nrmA h9 | replace h9 := nrmB h9 | skip
      first | replace h9 := nrm1 h9 | replace h9 := nrm2 h9 | replace h9 := nrm3 h9 | replace h9 := nrm4 h9 | replace h9 := nrm5 h9 | replace h9 := nrm6 h9 | replace h9 := of_decide_eq_true h9 | replace h9 := of_decide_eq_false h9 | skip
      refine st_condF S rfl ?_
      refine wp_exit ?_
      refine then_exit ?_
      refine then_exit ?_
      refine block_hit ?_
      refine then_normal ?_
      refine wp_seq ?_
      -- region 6 ref.go:33
      refine wp_region_lit ?_
      refine st_y S rfl rfl rfl (y_move S rfl) ?_; clear S a; intro a S
      refine st_y S rfl rfl rfl (y_assign S rfl) ?_; clear S a; intro a S
      refine wpList_nil ?_
      replace S := S.sub [(0, _), (3, _), (4, _), (9, _), (2, _)] rfl
      refine then_normal ?_
      refine wp_ret ?_
      refine end_one S rfl (res_tmp rfl) ?_
      obtain rfl : m = 0 := by omega
      exact ⟨rfl, M.below⟩

theorem refMay_any (f : Fr) (ad : Option Addr) (l c : Nat) (w : World) : Calls Try.prog 18 #[.agg (f.cells (.slice ad l c)).toArray] w fun e w' => e = .returned (.bool (f.may l)) ∧ Below w.heap.size w w' := by
  have M := Mem.start w
  refine calls_enter Try.func18 rfl 67 rfl rfl ?_; intro a S
  refine wp_seq ?_
  -- region 0 ref.go:12
  refine wp_region_lit ?_
  refine st_box S M rfl rfl rfl #[_, _, _, _, _, _] rfl ?_; clear S M a; intro a w1 b1 S M hB
  refine st_y S rfl rfl rfl (y_assign S rfl) ?_; clear S a; intro a S
  refine wpList_nil ?_
  replace S := S.sub [(0, _), (1, _), (2, _)] rfl
  refine then_normal ?_
  refine wp_seq ?_
  refine wp_seq ?_
  -- region 1 ref.go:13
  refine wp_region_lit ?_
  refine st_y S rfl rfl rfl (y_fieldAddr (k := 0) S (by kernel_rfl) rfl) ?_; clear S a; intro a S
  refine st_y S rfl rfl rfl (y_load S (by kernel_rfl) rfl (M.cell 0 rfl rfl)) ?_; clear S a; intro a S
  refine st_y S rfl rfl rfl (y_int S rfl rfl rfl) ?_; clear S a; intro a S
  refine st_y S rfl rfl rfl (y_move S rfl) ?_; clear S a; intro a S
  refine st_split (t := 6) S rfl ?_ ?_
  · clear S; intro h6 S
    first | replace h6 := nrmA h6 | replace h6 := nrmB h6 | skip
    first | replace h6 := nrm1 h6 | replace h6 := nrm2 h6 | replace h6 := nrm3 h6 | replace h6 := nrm4 h6 | replace h6 := nrm5 h6 | replace h6 := nrm6 h6 | replace h6 := of_decide_eq_true h6 | replace h6 := of_decide_eq_false h6 | skip
    refine st_no S rfl rfl rfl ?_; clear S a; intro a S
    refine st_no S rfl rfl rfl ?_; clear S a; intro a S
    refine st_no S rfl rfl rfl ?_; clear S a; intro a S
    refine st_y S rfl rfl rfl (y_pickT S rfl rfl) ?_; clear S a; intro a S
    refine st_y S rfl rfl rfl (y_move S rfl) ?_; clear S a; intro a S
    refine st_no S rfl rfl rfl ?_; clear S a; intro a S
    refine st_no S rfl rfl rfl ?_; clear S a; intro a S
    refine st_no S rfl rfl rfl ?_; clear S a; intro a S
    refine st_y S rfl rfl rfl (y_pickT S rfl rfl) ?_; clear S a; intro a S
    refine st_y S rfl rfl rfl (y_move S rfl) ?_; clear S a; intro a S
    refine st_no S rfl rfl rfl ?_; clear S a; intro a S
    refine st_no S rfl rfl rfl ?_; clear S a; intro a S
    refine st_no S rfl rfl rfl ?_; clear S a; intro a S
    refine st_y S rfl rfl rfl (y_pickT S rfl rfl) ?_; clear S a; intro a S
    refine st_y S rfl rfl rfl (y_move S rfl) ?_; clear S a; intro a S
    refine st_no S rfl rfl rfl ?_; clear S a; intro a S
    refine st_no S rfl rfl rfl ?_; clear S a; intro a S
    refine st_no S rfl rfl rfl ?_; clear S a; intro a S
    refine st_y S rfl rfl rfl (y_pickT S rfl rfl) ?_; clear S a; intro a S
    refine st_y S rfl rfl rfl (y_move S rfl) ?_; clear S a; intro a S
    refine st_no S rfl rfl rfl ?_; clear S a; intro a S
    refine st_no S rfl rfl rfl ?_; clear S a; intro a S
    refine st_no S rfl rfl rfl ?_; clear S a; intro a S
    refine st_y S rfl rfl rfl (y_pickT S rfl rfl) ?_; clear S a; intro a S
    refine st_y S rfl rfl rfl (y_move S rfl) ?_; clear S a; intro a S
    refine st_no S rfl rfl rfl ?_; clear S a; intro a S
    refine st_no S rfl rfl rfl ?_; clear S a; intro a S
    refine st_no S rfl rfl rfl ?_; clear S a; intro a S
    refine st_y S rfl rfl rfl (y_pickT S rfl rfl) ?_; clear S a; intro a S
    refine st_y S rfl rfl rfl (y_move S rfl) ?_; clear S a; intro a S
    refine st_no S rfl rfl rfl ?_; clear S a; intro a S
    refine st_no S rfl rfl rfl ?_; clear S a; intro a S
    refine st_no S rfl rfl rfl ?_; clear S a; intro a S
    refine st_no S rfl rfl rfl ?_; clear S a; intro a S
    refine st_no S rfl rfl rfl ?_; clear S a; intro a S
    refine st_y S rfl rfl rfl (y_pickT S rfl rfl) ?_; clear S a; intro a S
    refine wpList_nil ?_
    replace S := S.sub [(0, _), (1, _), (2, _), (42, _)] rfl
    refine then_normal ?_
    refine st_condT S rfl ?_
    refine wp_seq ?_
    -- region 2 ref.go:14
    refine wp_region_lit ?_
    refine st_y S rfl rfl rfl (y_assign S rfl) ?_; clear S a; intro a S
    refine wpList_nil ?_
    replace S := S.sub [(0, _), (1, _), (42, _), (2, _)] rfl
    refine then_normal ?_
    refine wp_ret ?_
    refine then_ret ?_
    refine end_one S rfl (res_tmp rfl) ?_
    refine ⟨ret_bool ?_, M.below⟩; rw [Bool.eq_iff_iff]; (first | (simp [Fr.may]; done) | (simp [Fr.may]; omega))
  · clear S; intro h6 S
    first | replace h6 := nrmA h6 | replace h6 := nrmB h6 | skip
    first | replace h6 := nrm1 h6 | replace h6 := nrm2 h6 | replace h6 := nrm3 h6 | replace h6 := nrm4 h6 | replace h6 := nrm5 h6 | replace h6 := nrm6 h6 | replace h6 := of_decide_eq_true h6 | replace h6 := of_decide_eq_false h6 | skip
    refine st_y S rfl rfl rfl (y_fieldAddr (k := 0) S (by kernel_rfl) rfl) ?_; clear S a; intro a S
    refine st_y S rfl rfl rfl (y_load S (by kernel_rfl) rfl (M.cell 0 rfl rfl)) ?_; clear S a; intro a S
    refine st_y S rfl rfl rfl (y_int S rfl rfl rfl) ?_; clear S a; intro a S
    refine st_y S rfl rfl rfl (y_pickF S rfl rfl) ?_; clear S a; intro a S
    refine st_y S rfl rfl rfl (y_move S rfl) ?_; clear S a; intro a S
    refine st_split (t := 11) S rfl ?_ ?_
    · clear S; intro h11 S
      first | replace h11 := nrmA h11 | replace h11 := nrmB h11 | skip
      first | replace h11 := nrm1 h11 | replace h11 := nrm2 h11 | replace h11 := nrm3 h11 | replace h11 := nrm4 h11 | replace h11 := nrm5 h11 | replace h11 := nrm6 h11 | replace h11 := of_decide_eq_true h11 | replace h11 := of_decide_eq_false h11 | skip
      refine st_no S rfl rfl rfl ?_; clear S a; intro a S
      refine st_no S rfl rfl rfl ?_; clear S a; intro a S
      refine st_no S rfl rfl rfl ?_; clear S a; intro a S
      refine st_y S rfl rfl rfl (y_pickT S rfl rfl) ?_; clear S a; intro a S
      refine st_y S rfl rfl rfl (y_move S rfl) ?_; clear S a; intro a S
      refine st_no S rfl rfl rfl ?_; clear S a; intro a S
      refine st_no S rfl rfl rfl ?_; clear S a; intro a S
      refine st_no S rfl rfl rfl ?_; clear S a; intro a S
      refine st_y S rfl rfl rfl (y_pickT S rfl rfl) ?_; clear S a; intro a S
      refine st_y S rfl rfl rfl (y_move S rfl) ?_; clear S a; intro a S
      refine st_no S rfl rfl rfl ?_; clear S a; intro a S
      refine st_no S rfl rfl rfl ?_; clear S a; intro a S
      refine st_no S rfl rfl rfl ?_; clear S a; intro a S
      refine st_y S rfl rfl rfl (y_pickT S rfl rfl) ?_; clear S a; intro a S
      refine st_y S rfl rfl rfl (y_move S rfl) ?_; clear S a; intro a S
      refine st_no S rfl rfl rfl ?_; clear S a; intro a S
      refine st_no S rfl rfl rfl ?_; clear S a; intro a S
      refine st_no S rfl rfl rfl ?_; clear S a; intro a S
      refine st_y S rfl rfl rfl (y_pickT S rfl rfl) ?_; clear S a; intro a S
      refine st_y S rfl rfl rfl (y_move S rfl) ?_; clear S a; intro a S
      refine st_no S rfl rfl rfl ?_; clear S a; intro a S
      refine st_no S rfl rfl rfl ?_; clear S a; intro a S
      refine st_no S rfl rfl rfl ?_; clear S a; intro a S
      refine st_y S rfl rfl rfl (y_pickT S rfl rfl) ?_; clear S a; intro a S
      refine st_y S rfl rfl rfl (y_move S rfl) ?_; clear S a; intro a S
      refine st_no S rfl rfl rfl ?_; clear S a; intro a S
      refine st_no S rfl rfl rfl ?_; clear S a; intro a S
      refine st_no S rfl rfl rfl ?_; clear S a; intro a S
      refine st_no S rfl rfl rfl ?_; clear S a; intro a S
      refine st_no S rfl rfl rfl ?_; clear S a; intro a S
      refine st_y S rfl rfl rfl (y_pickT S rfl rfl) ?_; clear S a; intro a S
      refine wpList_nil ?_
      replace S := S.sub [(0, _), (1, _), (2, _), (42, _)] rfl
      refine then_normal ?_
      refine st_condT S rfl ?_
      refine wp_seq ?_
      -- region 2 ref.go:14
      refine wp_region_lit ?_
      refine st_y S rfl rfl rfl (y_assign S rfl) ?_; clear S a; intro a S
      refine wpList_nil ?_
      replace S := S.sub [(0, _), (1, _), (42, _), (2, _)] rfl
      refine then_normal ?_
      refine wp_ret ?_
      refine then_ret ?_
      refine end_one S rfl (res_tmp rfl) ?_
      refine ⟨ret_bool ?_, M.below⟩; rw [Bool.eq_iff_iff]; (first | (simp [Fr.may]; done) | (simp [Fr.may]; omega))
    · clear S; intro h11 S
      first | replace h11 := nrmA h11 | replace h11 := nrmB h11 | skip
      first | replace h11 := nrm1 h11 | replace h11 := nrm2 h11 | replace h11 := nrm3 h11 | replace h11 := nrm4 h11 | replace h11 := nrm5 h11 | replace h11 := nrm6 h11 | replace h11 := of_decide_eq_true h11 | replace h11 := of_decide_eq_false h11 | skip
      refine st_y S rfl rfl rfl (y_fieldAddr (k := 1) S (by kernel_rfl) rfl) ?_; clear S a; intro a S
      refine st_y S rfl rfl rfl (y_load S (by kernel_rfl) rfl (M.cell 0 rfl rfl)) ?_; clear S a; intro a S
      refine st_y S rfl rfl rfl (y_int S rfl rfl rfl) ?_; clear S a; intro a S
      refine st_y S rfl rfl rfl (y_pickF S rfl rfl) ?_; clear S a; intro a S
      refine st_y S rfl rfl rfl (y_move S rfl) ?_; clear S a; intro a S
      refine st_split (t := 16) S rfl ?_ ?_
      · clear S; intro h16 S
        first | replace h16 := nrmA h16 | replace h16 := nrmB h16 | skip
        first | replace h16 := nrm1 h16 | replace h16 := nrm2 h16 | replace h16 := nrm3 h16 | replace h16 := nrm4 h16 | replace h16 := nrm5 h16 | replace h16 := nrm6 h16 | replace h16 := of_decide_eq_true h16 | replace h16 := of_decide_eq_false h16 | skip
        refine st_no S rfl rfl rfl ?_; clear S a; intro a S
        refine st_no S rfl rfl rfl ?_; clear S a; intro a S
        refine st_no S rfl rfl rfl ?_; clear S a; intro a S
        refine st_y S rfl rfl rfl (y_pickT S rfl rfl) ?_; clear S a; intro a S
        refine st_y S rfl rfl rfl (y_move S rfl) ?_; clear S a; intro a S
        refine st_no S rfl rfl rfl ?_; clear S a; intro a S
        refine st_no S rfl rfl rfl ?_; clear S a; intro a S
        refine st_no S rfl rfl rfl ?_; clear S a; intro a S
        refine st_y S rfl rfl rfl (y_pickT S rfl rfl) ?_; clear S a; intro a S
        refine st_y S rfl rfl rfl (y_move S rfl) ?_; clear S a; intro a S
        refine st_no S rfl rfl rfl ?_; clear S a; intro a S
        refine st_no S rfl rfl rfl ?_; clear S a; intro a S
        refine st_no S rfl rfl rfl ?_; clear S a; intro a S
        refine st_y S rfl rfl rfl (y_pickT S rfl rfl) ?_; clear S a; intro a S
        refine st_y S rfl rfl rfl (y_move S rfl) ?_; clear S a; intro a S
        refine st_no S rfl rfl rfl ?_; clear S a; intro a S
        refine st_no S rfl rfl rfl ?_; clear S a; intro a S
        refine st_no S rfl rfl rfl ?_; clear S a; intro a S
        refine st_y S rfl rfl rfl (y_pickT S rfl rfl) ?_; clear S a; intro a S
        refine st_y S rfl rfl rfl (y_move S rfl) ?_; clear S a; intro a S
        refine st_no S rfl rfl rfl ?_; clear S a; intro a S
        refine st_no S rfl rfl rfl ?_; clear S a; intro a S
        refine st_no S rfl rfl rfl ?_; clear S a; intro a S
        refine st_no S rfl rfl rfl ?_; clear S a; intro a S
        refine st_no S rfl rfl rfl ?_; clear S a; intro a S
        refine st_y S rfl rfl rfl (y_pickT S rfl rfl) ?_; clear S a; intro a S
        refine wpList_nil ?_
        replace S := S.sub [(0, _), (1, _), (2, _), (42, _)] rfl
        refine then_normal ?_
        refine st_condT S rfl ?_
        refine wp_seq ?_
        -- region 2 ref.go:14
        refine wp_region_lit ?_
        refine st_y S rfl rfl rfl (y_assign S rfl) ?_; clear S a; intro a S
        refine wpList_nil ?_
        replace S := S.sub [(0, _), (1, _), (42, _), (2, _)] rfl
        refine then_normal ?_
        refine wp_ret ?_
        refine then_ret ?_
        refine end_one S rfl (res_tmp rfl) ?_
        refine ⟨ret_bool ?_, M.below⟩; rw [Bool.eq_iff_iff]; (first | (simp [Fr.may]; done) | (simp [Fr.may]; omega))
      · clear S; intro h16 S
        first | replace h16 := nrmA h16 | replace h16 := nrmB h16 | skip
        first | replace h16 := nrm1 h16 | replace h16 := nrm2 h16 | replace h16 := nrm3 h16 | replace h16 := nrm4 h16 | replace h16 := nrm5 h16 | replace h16 := nrm6 h16 | replace h16 := of_decide_eq_true h16 | replace h16 := of_decide_eq_false h16 | skip
        refine st_y S rfl rfl rfl (y_fieldAddr (k := 1) S (by kernel_rfl) rfl) ?_; clear S a; intro a S
        refine st_y S rfl rfl rfl (y_load S (by kernel_rfl) rfl (M.cell 0 rfl rfl)) ?_; clear S a; intro a S
        refine st_y S rfl rfl rfl (y_int S rfl rfl rfl) ?_; clear S a; intro a S
        refine st_y S rfl rfl rfl (y_pickF S rfl rfl) ?_; clear S a; intro a S
        refine st_y S rfl rfl rfl (y_move S rfl) ?_; clear S a; intro a S
        refine st_split (t := 21) S rfl ?_ ?_
        · clear S; intro h21 S
          first | replace h21 := nrmA h21 | replace h21 := nrmB h21 | skip
          first | replace h21 := nrm1 h21 | replace h21 := nrm2 h21 | replace h21 := nrm3 h21 | replace h21 := nrm4 h21 | replace h21 := nrm5 h21 | replace h21 := nrm6 h21 | replace h21 := of_decide_eq_true h21 | replace h21 := of_decide_eq_false h21 | skip
          refine st_no S rfl rfl rfl ?_; clear S a; intro a S
          refine st_no S rfl rfl rfl ?_; clear S a; intro a S
          refine st_no S rfl rfl rfl ?_; clear S a; intro a S
          refine st_y S rfl rfl rfl (y_pickT S rfl rfl) ?_; clear S a; intro a S
          refine st_y S rfl rfl rfl (y_move S rfl) ?_; clear S a; intro a S
          refine st_no S rfl rfl rfl ?_; clear S a; intro a S
          refine st_no S rfl rfl rfl ?_; clear S a; intro a S
          refine st_no S rfl rfl rfl ?_; clear S a; intro a S
          refine st_y S rfl rfl rfl (y_pickT S rfl rfl) ?_; clear S a; intro a S
          refine st_y S rfl rfl rfl (y_move S rfl) ?_; clear S a; intro a S
          refine st_no S rfl rfl rfl ?_; clear S a; intro a S
          refine st_no S rfl rfl rfl ?_; clear S a; intro a S
          refine st_no S rfl rfl rfl ?_; clear S a; intro a S
          refine st_y S rfl rfl rfl (y_pickT S rfl rfl) ?_; clear S a; intro a S
          refine st_y S rfl rfl rfl (y_move S rfl) ?_; clear S a; intro a S
          refine st_no S rfl rfl rfl ?_; clear S a; intro a S
          refine st_no S rfl rfl rfl ?_; clear S a; intro a S
          refine st_no S rfl rfl rfl ?_; clear S a; intro a S
          refine st_no S rfl rfl rfl ?_; clear S a; intro a S
          refine st_no S rfl rfl rfl ?_; clear S a; intro a S
          refine st_y S rfl rfl rfl (y_pickT S rfl rfl) ?_; clear S a; intro a S
          refine wpList_nil ?_
          replace S := S.sub [(0, _), (1, _), (2, _), (42, _)] rfl
          refine then_normal ?_
          refine st_condT S rfl ?_
          refine wp_seq ?_
          -- region 2 ref.go:14
          refine wp_region_lit ?_
          refine st_y S rfl rfl rfl (y_assign S rfl) ?_; clear S a; intro a S
          refine wpList_nil ?_
          replace S := S.sub [(0, _), (1, _), (42, _), (2, _)] rfl
          refine then_normal ?_
          refine wp_ret ?_
          refine then_ret ?_
          refine end_one S rfl (res_tmp rfl) ?_
          refine ⟨ret_bool ?_, M.below⟩; rw [Bool.eq_iff_iff]; (first | (simp [Fr.may]; done) | (simp [Fr.may]; omega))
        · clear S; intro h21 S
          first | replace h21 := nrmA h21 | replace h21 := nrmB h21 | skip
          first | replace h21 := nrm1 h21 | replace h21 := nrm2 h21 | replace h21 := nrm3 h21 | replace h21 := nrm4 h21 | replace h21 := nrm5 h21 | replace h21 := nrm6 h21 | replace h21 := of_decide_eq_true h21 | replace h21 := of_decide_eq_false h21 | skip
          refine st_y S rfl rfl rfl (y_fieldAddr (k := 3) S (by kernel_rfl) rfl) ?_; clear S a; intro a S
          refine st_y S rfl rfl rfl (y_load S (by kernel_rfl) rfl (M.cell 0 rfl rfl)) ?_; clear S a; intro a S
          refine st_y S rfl rfl rfl (y_int S rfl rfl rfl) ?_; clear S a; intro a S
          refine st_y S rfl rfl rfl (y_pickF S rfl rfl) ?_; clear S a; intro a S
          refine st_y S rfl rfl rfl (y_move S rfl) ?_; clear S a; intro a S
          refine st_split (t := 26) S rfl ?_ ?_
          · clear S; intro h26 S
            first | replace h26 := nrmA h26 | replace h26 := nrmB h26 | skip
            first | replace h26 := nrm1 h26 | replace h26 := nrm2 h26 | replace h26 := nrm3 h26 | replace h26 := nrm4 h26 | replace h26 := nrm5 h26 | replace h26 := nrm6 h26 | replace h26 := of_decide_eq_true h26 | replace h26 := of_decide_eq_false h26 | skip
            refine st_no S rfl rfl rfl ?_; clear S a; intro a S
            refine st_no S rfl rfl rfl ?_; clear S a; intro a S
            refine st_no S rfl rfl rfl ?_; clear S a; intro a S
            refine st_y S rfl rfl rfl (y_pickT S rfl rfl) ?_; clear S a; intro a S
            refine st_y S rfl rfl rfl (y_move S rfl) ?_; clear S a; intro a S
            refine st_no S rfl rfl rfl ?_; clear S a; intro a S
            refine st_no S rfl rfl rfl ?_; clear S a; intro a S
            refine st_no S rfl rfl rfl ?_; clear S a; intro a S
            refine st_y S rfl rfl rfl (y_pickT S rfl rfl) ?_; clear S a; intro a S
            refine st_y S rfl rfl rfl (y_move S rfl) ?_; clear S a; intro a S
            refine st_no S rfl rfl rfl ?_; clear S a; intro a S
            refine st_no S rfl rfl rfl ?_; clear S a; intro a S
            refine st_no S rfl rfl rfl ?_; clear S a; intro a S
            refine st_no S rfl rfl rfl ?_; clear S a; intro a S
            refine st_no S rfl rfl rfl ?_; clear S a; intro a S
            refine st_y S rfl rfl rfl (y_pickT S rfl rfl) ?_; clear S a; intro a S
            refine wpList_nil ?_
            replace S := S.sub [(0, _), (1, _), (2, _), (42, _)] rfl
            refine then_normal ?_
            refine st_condT S rfl ?_
            refine wp_seq ?_
            -- region 2 ref.go:14
            refine wp_region_lit ?_
            refine st_y S rfl rfl rfl (y_assign S rfl) ?_; clear S a; intro a S
            refine wpList_nil ?_
            replace S := S.sub [(0, _), (1, _), (42, _), (2, _)] rfl
            refine then_normal ?_
            refine wp_ret ?_
            refine then_ret ?_
            refine end_one S rfl (res_tmp rfl) ?_
            refine ⟨ret_bool ?_, M.below⟩; rw [Bool.eq_iff_iff]; (first | (simp [Fr.may]; done) | (simp [Fr.may]; omega))
          · clear S; intro h26 S
            first | replace h26 := nrmA h26 | replace h26 := nrmB h26 | skip
            first | replace h26 := nrm1 h26 | replace h26 := nrm2 h26 | replace h26 := nrm3 h26 | replace h26 := nrm4 h26 | replace h26 := nrm5 h26 | replace h26 := nrm6 h26 | replace h26 := of_decide_eq_true h26 | replace h26 := of_decide_eq_false h26 | skip
            refine st_y S rfl rfl rfl (y_fieldAddr (k := 3) S (by kernel_rfl) rfl) ?_; clear S a; intro a S
            refine st_y S rfl rfl rfl (y_load S (by kernel_rfl) rfl (M.cell 0 rfl rfl)) ?_; clear S a; intro a S
            refine st_y S rfl rfl rfl (y_int S rfl rfl rfl) ?_; clear S a; intro a S
            refine st_y S rfl rfl rfl (y_pickF S rfl rfl) ?_; clear S a; intro a S
            refine st_y S rfl rfl rfl (y_move S rfl) ?_; clear S a; intro a S
            refine st_split (t := 31) S rfl ?_ ?_
            · clear S; intro h31 S
              first | replace h31 := nrmA h31 | replace h31 := nrmB h31 | skip
              first | replace h31 := nrm1 h31 | replace h31 := nrm2 h31 | replace h31 := nrm3 h31 | replace h31 := nrm4 h31 | replace h31 := nrm5 h31 | replace h31 := nrm6 h31 | replace h31 := of_decide_eq_true h31 | replace h31 := of_decide_eq_false h31 | skip
              refine st_no S rfl rfl rfl ?_; clear S a; intro a S
              refine st_no S rfl rfl rfl ?_; clear S a; intro a S
              refine st_no S rfl rfl rfl ?_; clear S a; intro a S
              refine st_y S rfl rfl rfl (y_pickT S rfl rfl) ?_; clear S a; intro a S
              refine st_y S rfl rfl rfl (y_move S rfl) ?_; clear S a; intro a S
              refine st_no S rfl rfl rfl ?_; clear S a; intro a S
              refine st_no S rfl rfl rfl ?_; clear S a; intro a S
              refine st_no S rfl rfl rfl ?_; clear S a; intro a S
              refine st_no S rfl rfl rfl ?_; clear S a; intro a S
              refine st_no S rfl rfl rfl ?_; clear S a; intro a S
              refine st_y S rfl rfl rfl (y_pickT S rfl rfl) ?_; clear S a; intro a S
              refine wpList_nil ?_
              replace S := S.sub [(0, _), (1, _), (2, _), (42, _)] rfl
              refine then_normal ?_
              refine st_condT S rfl ?_
              refine wp_seq ?_
              -- region 2 ref.go:14
              refine wp_region_lit ?_
              refine st_y S rfl rfl rfl (y_assign S rfl) ?_; clear S a; intro a S
              refine wpList_nil ?_
              replace S := S.sub [(0, _), (1, _), (42, _), (2, _)] rfl
              refine then_normal ?_
              refine wp_ret ?_
              refine then_ret ?_
              refine end_one S rfl (res_tmp rfl) ?_
              refine ⟨ret_bool ?_, M.below⟩; rw [Bool.eq_iff_iff]; (first | (simp [Fr.may]; done) | (simp [Fr.may]; omega))
            · clear S; intro h31 S
              first | replace h31 := nrmA h31 | replace h31 := nrmB h31 | skip
              first | replace h31 := nrm1 h31 | replace h31 := nrm2 h31 | replace h31 := nrm3 h31 | replace h31 := nrm4 h31 | replace h31 := nrm5 h31 | replace h31 := nrm6 h31 | replace h31 := of_decide_eq_true h31 | replace h31 := of_decide_eq_false h31 | skip
              refine st_y S rfl rfl rfl (y_fieldAddr (k := 2) S (by kernel_rfl) rfl) ?_; clear S a; intro a S
              refine st_y S rfl rfl rfl (y_load S (by kernel_rfl) rfl (M.cell 0 rfl rfl)) ?_; clear S a; intro a S
              refine st_y S rfl rfl rfl (y_int S rfl rfl rfl) ?_; clear S a; intro a S
              refine st_y S rfl rfl rfl (y_pickF S rfl rfl) ?_; clear S a; intro a S
              refine st_y S rfl rfl rfl (y_move S rfl) ?_; clear S a; intro a S
              refine st_split (t := 36) S rfl ?_ ?_
              · clear S; intro h36 S
                first | replace h36 := nrmA h36 | replace h36 := nrmB h36 | skip
                first | replace h36 := nrm1 h36 | replace h36 := nrm2 h36 | replace h36 := nrm3 h36 | replace h36 := nrm4 h36 | replace h36 := nrm5 h36 | replace h36 := nrm6 h36 | replace h36 := of_decide_eq_true h36 | replace h36 := of_decide_eq_false h36 | skip
                refine st_no S rfl rfl rfl ?_; clear S a; intro a S
                refine st_no S rfl rfl rfl ?_; clear S a; intro a S
                refine st_no S rfl rfl rfl ?_; clear S a; intro a S
                refine st_no S rfl rfl rfl ?_; clear S a; intro a S
                refine st_no S rfl rfl rfl ?_; clear S a; intro a S
                refine st_y S rfl rfl rfl (y_pickT S rfl rfl) ?_; clear S a; intro a S
                refine wpList_nil ?_
                replace S := S.sub [(0, _), (1, _), (2, _), (42, _)] rfl
                refine then_normal ?_
                refine st_condT S rfl ?_
                refine wp_seq ?_
                -- region 2 ref.go:14
                refine wp_region_lit ?_
                refine st_y S rfl rfl rfl (y_assign S rfl) ?_; clear S a; intro a S
                refine wpList_nil ?_
                replace S := S.sub [(0, _), (1, _), (42, _), (2, _)] rfl
                refine then_normal ?_
                refine wp_ret ?_
                refine then_ret ?_
                refine end_one S rfl (res_tmp rfl) ?_
                refine ⟨ret_bool ?_, M.below⟩; rw [Bool.eq_iff_iff]; (first | (simp [Fr.may]; done) | (simp [Fr.may]; omega))
              · clear S; intro h36 S
                first | replace h36 := nrmA h36 | replace h36 := nrmB h36 | skip
                first | replace h36 := nrm1 h36 | replace h36 := nrm2 h36 | replace h36 := nrm3 h36 | replace h36 := nrm4 h36 | replace h36 := nrm5 h36 | replace h36 := nrm6 h36 | replace h36 := of_decide_eq_true h36 | replace h36 := of_decide_eq_false h36 | skip
                refine st_y S rfl rfl rfl (y_fieldAddr (k := 2) S (by kernel_rfl) rfl) ?_; clear S a; intro a S
                refine st_y S rfl rfl rfl (y_load S (by kernel_rfl) rfl (M.cell 0 rfl rfl)) ?_; clear S a; intro a S
                refine st_y S rfl rfl rfl (y_fieldAddr (k := 3) S (by kernel_rfl) rfl) ?_; clear S a; intro a S
                refine st_y S rfl rfl rfl (y_load S (by kernel_rfl) rfl (M.cell 0 rfl rfl)) ?_; clear S a; intro a S
                refine st_y S rfl rfl rfl (y_int S rfl rfl rfl) ?_; clear S a; intro a S
                refine st_y S rfl rfl rfl (y_pickF S rfl rfl) ?_; clear S a; intro a S
                refine wpList_nil ?_
                replace S := S.sub [(0, _), (1, _), (2, _), (42, _)] rfl
                refine then_normal ?_
                refine st_split (t := 42) S rfl ?_ ?_
                · clear S; intro h42 S
                  first | replace h42 := nrmA h42 | replace h42 := nrmB h42 | skip
                  first | replace h42 := nrm1 h42 | replace h42 := nrm2 h42 | replace h42 := nrm3 h42 | replace h42 := nrm4 h42 | replace h42 := nrm5 h42 | replace h42 := nrm6 h42 | replace h42 := of_decide_eq_true h42 | replace h42 := of_decide_eq_false h42 | skip
                  refine st_condT S rfl ?_
                  refine wp_seq ?_
                  -- region 2 ref.go:14
                  refine wp_region_lit ?_
                  refine st_y S rfl rfl rfl (y_assign S rfl) ?_; clear S a; intro a S
                  refine wpList_nil ?_
                  replace S := S.sub [(0, _), (1, _), (42, _), (2, _)] rfl
                  refine then_normal ?_
                  refine wp_ret ?_
                  refine then_ret ?_
                  refine end_one S rfl (res_tmp rfl) ?_
                  refine ⟨ret_bool ?_, M.below⟩; rw [Bool.eq_iff_iff]; (first | (simp [Fr.may]; done) | (simp [Fr.may]; omega))
                · clear S; intro h42 S
                  first | replace h42 := nrmA h42 | replace h42 := nrmB h42 | skip
                  first | replace h42 := nrm1 h42 | replace h42 := nrm2 h42 | replace h42 := nrm3 h42 | replace h42 := nrm4 h42 | replace h42 := nrm5 h42 | replace h42 := nrm6 h42 | replace h42 := of_decide_eq_true h42 | replace h42 := of_decide_eq_false h42 | skip
                  refine st_condF S rfl ?_
                  refine wp_skip ?_
                  refine then_normal ?_
                  refine wp_seq ?_
                  -- region 3 ref.go:16
                  refine wp_region_lit ?_
                  refine st_y S rfl rfl rfl (y_fieldAddr (k := 5) S (by kernel_rfl) rfl) ?_; clear S a; intro a S
                  refine st_y S rfl rfl rfl (y_load S (by kernel_rfl) rfl (M.cell 0 rfl rfl)) ?_; clear S a; intro a S
                  refine st_y S rfl rfl rfl (y_lenS (E := 5) S rfl (by kernel_rfl)) ?_; clear S a; intro a S
                  refine st_y S rfl rfl rfl (y_int S rfl rfl rfl) ?_; clear S a; intro a S
                  refine st_y S rfl rfl rfl (y_move S rfl) ?_; clear S a; intro a S
                  refine st_split (t := 47) S rfl ?_ ?_
                  · clear S; intro h47 S
                    first | replace h47 := nrmA h47 | replace h47 := nrmB h47 | skip
                    first | replace h47 := nrm1 h47 | replace h47 := nrm2 h47 | replace h47 := nrm3 h47 | replace h47 := nrm4 h47 | replace h47 := nrm5 h47 | replace h47 := nrm6 h47 | replace h47 := of_decide_eq_true h47 | replace h47 := of_decide_eq_false h47 | skip
                    refine st_y S rfl rfl rfl (y_fieldAddr (k := 5) S (by kernel_rfl) rfl) ?_; clear S a; intro a S
                    refine st_y S rfl rfl rfl (y_load S (by kernel_rfl) rfl (M.cell 0 rfl rfl)) ?_; clear S a; intro a S
                    refine st_y S rfl rfl rfl (y_lenS (E := 5) S rfl (by kernel_rfl)) ?_; clear S a; intro a S
                    refine st_y S rfl rfl rfl (y_int S rfl rfl rfl) ?_; clear S a; intro a S
                    refine st_y S rfl rfl rfl (y_pickT S rfl rfl) ?_; clear S a; intro a S
                    refine st_y S rfl rfl rfl (y_move S rfl) ?_; clear S a; intro a S
                    refine st_split (t := 53) S rfl ?_ ?_
                    · clear S; intro h53 S
                      first | replace h53 := nrmA h53 | replace h53 := nrmB h53 | skip
                      first | replace h53 := nrm1 h53 | replace h53 := nrm2 h53 | replace h53 := nrm3 h53 | replace h53 := nrm4 h53 | replace h53 := nrm5 h53 | replace h53 := nrm6 h53 | replace h53 := of_decide_eq_true h53 | replace h53 := of_decide_eq_false h53 | skip
                      refine st_y S rfl rfl rfl (y_fieldAddr (k := 2) S (by kernel_rfl) rfl) ?_; clear S a; intro a S
                      refine st_y S rfl rfl rfl (y_load S (by kernel_rfl) rfl (M.cell 0 rfl rfl)) ?_; clear S a; intro a S
                      refine st_y S rfl rfl rfl (y_fieldAddr (k := 3) S (by kernel_rfl) rfl) ?_; clear S a; intro a S
                      refine st_y S rfl rfl rfl (y_load S (by kernel_rfl) rfl (M.cell 0 rfl rfl)) ?_; clear S a; intro a S
                      (first | refine st_y S rfl rfl rfl (y_subN S rfl rfl (by omega)) ?_ | refine st_y S rfl rfl rfl (y_int S rfl rfl rfl) ?_); clear S a; intro a S
                      refine st_y S rfl rfl rfl (y_int S rfl rfl rfl) ?_; clear S a; intro a S
                      refine st_y S rfl rfl rfl (y_move S rfl) ?_; clear S a; intro a S
                      refine st_split (t := 60) S rfl ?_ ?_
                      · clear S; intro h60 S
                        first | replace h60 := nrmA h60 | replace h60 := nrmB h60 | skip
                        first | replace h60 := nrm1 h60 | replace h60 := nrm2 h60 | replace h60 := nrm3 h60 | replace h60 := nrm4 h60 | replace h60 := nrm5 h60 | replace h60 := nrm6 h60 | replace h60 := of_decide_eq_true h60 | replace h60 := of_decide_eq_false h60 | skip
                        refine st_no S rfl rfl rfl ?_; clear S a; intro a S
                        refine st_no S rfl rfl rfl ?_; clear S a; intro a S
                        refine st_no S rfl rfl rfl ?_; clear S a; intro a S
                        refine st_no S rfl rfl rfl ?_; clear S a; intro a S
                        refine st_y S rfl rfl rfl (y_pickT S rfl rfl) ?_; clear S a; intro a S
                        refine st_y S rfl rfl rfl (y_pickT S rfl rfl) ?_; clear S a; intro a S
                        refine st_y S rfl rfl rfl (y_assign S rfl) ?_; clear S a; intro a S
                        refine wpList_nil ?_
                        replace S := S.sub [(0, _), (1, _), (42, _), (2, _)] rfl
                        refine then_normal ?_
                        refine wp_ret ?_
                        refine end_one S rfl (res_tmp rfl) ?_
                        refine ⟨ret_bool ?_, M.below⟩; rw [Bool.eq_iff_iff]; (first | (simp [Fr.may]; done) | (simp [Fr.may]; omega))
                      · clear S; intro h60 S
                        first | replace h60 := nrmA h60 | replace h60 := nrmB h60 | skip
                        first | replace h60 := nrm1 h60 | replace h60 := nrm2 h60 | replace h60 := nrm3 h60 | replace h60 := nrm4 h60 | replace h60 := nrm5 h60 | replace h60 := nrm6 h60 | replace h60 := of_decide_eq_true h60 | replace h60 := of_decide_eq_false h60 | skip
                        refine st_y S rfl rfl rfl (y_fieldAddr (k := 5) S (by kernel_rfl) rfl) ?_; clear S a; intro a S
                        refine st_y S rfl rfl rfl (y_load S (by kernel_rfl) rfl (M.cell 0 rfl rfl)) ?_; clear S a; intro a S
                        refine st_y S rfl rfl rfl (y_lenS (E := 5) S rfl (by kernel_rfl)) ?_; clear S a; intro a S
                        refine st_y S rfl rfl rfl (y_int S rfl rfl rfl) ?_; clear S a; intro a S
                        refine st_y S rfl rfl rfl (y_pickF S rfl rfl) ?_; clear S a; intro a S
                        refine st_y S rfl rfl rfl (y_pickT S rfl rfl) ?_; clear S a; intro a S
                        refine st_y S rfl rfl rfl (y_assign S rfl) ?_; clear S a; intro a S
                        refine wpList_nil ?_
                        replace S := S.sub [(0, _), (1, _), (42, _), (2, _)] rfl
                        refine then_normal ?_
                        refine wp_ret ?_
                        refine end_one S rfl (res_tmp rfl) ?_
                        refine ⟨ret_bool ?_, M.below⟩; rw [Bool.eq_iff_iff]; (first | (simp [Fr.may]; done) | (simp [Fr.may]; omega))
                    · clear S; intro h53 S
                      first | replace h53 := nrmA h53 | replace h53 := nrmB h53 | skip
                      first | replace h53 := nrm1 h53 | replace h53 := nrm2 h53 | replace h53 := nrm3 h53 | replace h53 := nrm4 h53 | replace h53 := nrm5 h53 | replace h53 := nrm6 h53 | replace h53 := of_decide_eq_true h53 | replace h53 := of_decide_eq_false h53 | skip
                      refine st_no S rfl rfl rfl ?_; clear S a; intro a S
                      refine st_no S rfl rfl rfl ?_; clear S a; intro a S
                      refine st_no S rfl rfl rfl ?_; clear S a; intro a S
                      refine st_no S rfl rfl rfl ?_; clear S a; intro a S
                      refine st_no S rfl rfl rfl ?_; clear S a; intro a S
                      refine st_no S rfl rfl rfl ?_; clear S a; intro a S
                      refine st_no S rfl rfl rfl ?_; clear S a; intro a S
                      refine st_no S rfl rfl rfl ?_; clear S a; intro a S
                      refine st_no S rfl rfl rfl ?_; clear S a; intro a S
                      refine st_no S rfl rfl rfl ?_; clear S a; intro a S
                      refine st_no S rfl rfl rfl ?_; clear S a; intro a S
                      refine st_no S rfl rfl rfl ?_; clear S a; intro a S
                      refine st_y S rfl rfl rfl (y_pickF S rfl rfl) ?_; clear S a; intro a S
                      refine st_y S rfl rfl rfl (y_assign S rfl) ?_; clear S a; intro a S
                      refine wpList_nil ?_
                      replace S := S.sub [(0, _), (1, _), (42, _), (2, _)] rfl
                      refine then_normal ?_
                      refine wp_ret ?_
                      refine end_one S rfl (res_tmp rfl) ?_
                      refine ⟨ret_bool ?_, M.below⟩; rw [Bool.eq_iff_iff]; (first | (simp [Fr.may]; done) | (simp [Fr.may]; omega))
                  · clear S; intro h47 S
                    first | replace h47 := nrmA h47 | replace h47 := nrmB h47 | skip
                    first | replace h47 := nrm1 h47 | replace h47 := nrm2 h47 | replace h47 := nrm3 h47 | replace h47 := nrm4 h47 | replace h47 := nrm5 h47 | replace h47 := nrm6 h47 | replace h47 := of_decide_eq_true h47 | replace h47 := of_decide_eq_false h47 | skip
                    refine st_no S rfl rfl rfl ?_; clear S a; intro a S
                    refine st_no S rfl rfl rfl ?_; clear S a; intro a S
                    refine st_no S rfl rfl rfl ?_; clear S a; intro a S
                    refine st_no S rfl rfl rfl ?_; clear S a; intro a S
                    refine st_y S rfl rfl rfl (y_pickF S rfl rfl) ?_; clear S a; intro a S
                    refine st_y S rfl rfl rfl (y_move S rfl) ?_; clear S a; intro a S
                    refine st_no S rfl rfl rfl ?_; clear S a; intro a S
                    refine st_no S rfl rfl rfl ?_; clear S a; intro a S
                    refine st_no S rfl rfl rfl ?_; clear S a; intro a S
                    refine st_no S rfl rfl rfl ?_; clear S a; intro a S
                    refine st_no S rfl rfl rfl ?_; clear S a; intro a S
                    refine st_no S rfl rfl rfl ?_; clear S a; intro a S
                    refine st_no S rfl rfl rfl ?_; clear S a; intro a S
                    refine st_no S rfl rfl rfl ?_; clear S a; intro a S
                    refine st_no S rfl rfl rfl ?_; clear S a; intro a S
                    refine st_no S rfl rfl rfl ?_; clear S a; intro a S
                    refine st_no S rfl rfl rfl ?_; clear S a; intro a S
                    refine st_no S rfl rfl rfl ?_; clear S a; intro a S
                    refine st_y S rfl rfl rfl (y_pickF S rfl rfl) ?_; clear S a; intro a S
                    refine st_y S rfl rfl rfl (y_assign S rfl) ?_; clear S a; intro a S
                    refine wpList_nil ?_
                    replace S := S.sub [(0, _), (1, _), (42, _), (2, _)] rfl
                    refine then_normal ?_
                    refine wp_ret ?_
                    refine end_one S rfl (res_tmp rfl) ?_
                    refine ⟨ret_bool ?_, M.below⟩; rw [Bool.eq_iff_iff]; (first | (simp [Fr.may]; done) | (simp [Fr.may]; omega))

theorem refSameF_any (f g : Fr) (v u : Value) (bs cs : List UInt8) (w : World) (hv : Bs 0 w.heap.size w v bs) (hu : Bs 0 w.heap.size w u cs) : Calls Try.prog 17 #[.agg (f.cells v).toArray, .agg (g.cells u).toArray] w fun e w' => e = .returned (.bool (f.same g bs cs)) ∧ Below w.heap.size w w' := by
  have M := Mem.start w
  refine calls_enter Try.func17 rfl 47 rfl rfl ?_; intro a S
  refine wp_seq ?_
  -- region 0 ref.go:101
  refine wp_region_lit ?_
  refine st_box S M rfl rfl rfl #[_, _, _, _, _, _] rfl ?_; clear S M a; intro a w1 b1 S M hB
  refine st_box S M rfl rfl rfl #[_, _, _, _, _, _] rfl ?_; clear S M a; intro a w2 b2 S M hB
  refine st_y S rfl rfl rfl (y_assign S rfl) ?_; clear S a; intro a S
  refine wpList_nil ?_
  replace S := S.sub [(0, _), (1, _), (2, _), (3, _), (4, _)] rfl
  refine then_normal ?_
  refine wp_seq ?_
  -- region 1 ref.go:102
  refine wp_region_lit ?_
  refine st_y S rfl rfl rfl (y_fieldAddr (k := 0) S (by kernel_rfl) rfl) ?_; clear S a; intro a S
  refine st_y S rfl rfl rfl (y_load S (by kernel_rfl) rfl (M.cell 1 rfl rfl)) ?_; clear S a; intro a S
  refine st_y S rfl rfl rfl (y_fieldAddr (k := 0) S (by kernel_rfl) rfl) ?_; clear S a; intro a S
  refine st_y S rfl rfl rfl (y_load S (by kernel_rfl) rfl (M.cell 0 rfl rfl)) ?_; clear S a; intro a S
  refine st_y S rfl rfl rfl (y_int S rfl rfl rfl) ?_; clear S a; intro a S
  refine st_y S rfl rfl rfl (y_move S rfl) ?_; clear S a; intro a S
  refine st_split (t := 10) S rfl ?_ ?_
  · clear S; intro h10 S
    first | replace h10 := nrmA h10 | replace h10 := nrmB h10 | skip
    first | replace h10 := nrm1 h10 | replace h10 := nrm2 h10 | replace h10 := nrm3 h10 | replace h10 := nrm4 h10 | replace h10 := nrm5 h10 | replace h10 := nrm6 h10 | replace h10 := of_decide_eq_true h10 | replace h10 := of_decide_eq_false h10 | skip
    refine st_y S rfl rfl rfl (y_fieldAddr (k := 1) S (by kernel_rfl) rfl) ?_; clear S a; intro a S
    refine st_y S rfl rfl rfl (y_load S (by kernel_rfl) rfl (M.cell 1 rfl rfl)) ?_; clear S a; intro a S
    refine st_y S rfl rfl rfl (y_fieldAddr (k := 1) S (by kernel_rfl) rfl) ?_; clear S a; intro a S
    refine st_y S rfl rfl rfl (y_load S (by kernel_rfl) rfl (M.cell 0 rfl rfl)) ?_; clear S a; intro a S
    refine st_y S rfl rfl rfl (y_int S rfl rfl rfl) ?_; clear S a; intro a S
    refine st_y S rfl rfl rfl (y_pickT S rfl rfl) ?_; clear S a; intro a S
    refine st_y S rfl rfl rfl (y_move S rfl) ?_; clear S a; intro a S
    refine st_split (t := 17) S rfl ?_ ?_
    · clear S; intro h17 S
      first | replace h17 := nrmA h17 | replace h17 := nrmB h17 | skip
      first | replace h17 := nrm1 h17 | replace h17 := nrm2 h17 | replace h17 := nrm3 h17 | replace h17 := nrm4 h17 | replace h17 := nrm5 h17 | replace h17 := nrm6 h17 | replace h17 := of_decide_eq_true h17 | replace h17 := of_decide_eq_false h17 | skip
      refine st_y S rfl rfl rfl (y_fieldAddr (k := 2) S (by kernel_rfl) rfl) ?_; clear S a; intro a S
      refine st_y S rfl rfl rfl (y_load S (by kernel_rfl) rfl (M.cell 1 rfl rfl)) ?_; clear S a; intro a S
      refine st_y S rfl rfl rfl (y_fieldAddr (k := 2) S (by kernel_rfl) rfl) ?_; clear S a; intro a S
      refine st_y S rfl rfl rfl (y_load S (by kernel_rfl) rfl (M.cell 0 rfl rfl)) ?_; clear S a; intro a S
      refine st_y S rfl rfl rfl (y_int S rfl rfl rfl) ?_; clear S a; intro a S
      refine st_y S rfl rfl rfl (y_pickT S rfl rfl) ?_; clear S a; intro a S
      refine st_y S rfl rfl rfl (y_move S rfl) ?_; clear S a; intro a S
      refine st_split (t := 24) S rfl ?_ ?_
      · clear S; intro h24 S
        first | replace h24 := nrmA h24 | replace h24 := nrmB h24 | skip
        first | replace h24 := nrm1 h24 | replace h24 := nrm2 h24 | replace h24 := nrm3 h24 | replace h24 := nrm4 h24 | replace h24 := nrm5 h24 | replace h24 := nrm6 h24 | replace h24 := of_decide_eq_true h24 | replace h24 := of_decide_eq_false h24 | skip
        refine st_y S rfl rfl rfl (y_fieldAddr (k := 3) S (by kernel_rfl) rfl) ?_; clear S a; intro a S
        refine st_y S rfl rfl rfl (y_load S (by kernel_rfl) rfl (M.cell 1 rfl rfl)) ?_; clear S a; intro a S
        refine st_y S rfl rfl rfl (y_fieldAddr (k := 3) S (by kernel_rfl) rfl) ?_; clear S a; intro a S
        refine st_y S rfl rfl rfl (y_load S (by kernel_rfl) rfl (M.cell 0 rfl rfl)) ?_; clear S a; intro a S
        refine st_y S rfl rfl rfl (y_int S rfl rfl rfl) ?_; clear S a; intro a S
        refine st_y S rfl rfl rfl (y_pickT S rfl rfl) ?_; clear S a; intro a S
        refine st_y S rfl rfl rfl (y_move S rfl) ?_; clear S a; intro a S
        refine st_split (t := 31) S rfl ?_ ?_
        · clear S; intro h31 S
          first | replace h31 := nrmA h31 | replace h31 := nrmB h31 | skip
          first | replace h31 := nrm1 h31 | replace h31 := nrm2 h31 | replace h31 := nrm3 h31 | replace h31 := nrm4 h31 | replace h31 := nrm5 h31 | replace h31 := nrm6 h31 | replace h31 := of_decide_eq_true h31 | replace h31 := of_decide_eq_false h31 | skip
          refine st_y S rfl rfl rfl (y_fieldAddr (k := 4) S (by kernel_rfl) rfl) ?_; clear S a; intro a S
          refine st_y S rfl rfl rfl (y_load S (by kernel_rfl) rfl (M.cell 1 rfl rfl)) ?_; clear S a; intro a S
          refine st_y S rfl rfl rfl (y_fieldAddr (k := 4) S (by kernel_rfl) rfl) ?_; clear S a; intro a S
          refine st_y S rfl rfl rfl (y_load S (by kernel_rfl) rfl (M.cell 0 rfl rfl)) ?_; clear S a; intro a S
          refine st_y S rfl rfl rfl (y_eql32 S rfl rfl) ?_; clear S a; intro a S
          refine st_y S rfl rfl rfl (y_pickT S rfl rfl) ?_; clear S a; intro a S
          refine st_y S rfl rfl rfl (y_move S rfl) ?_; clear S a; intro a S
          refine st_split (t := 38) S rfl ?_ ?_
          · clear S; intro h38 S
            first | replace h38 := nrmA h38 | replace h38 := nrmB h38 | skip
            first | replace h38 := nrm1 h38 | replace h38 := nrm2 h38 | replace h38 := nrm3 h38 | replace h38 := nrm4 h38 | replace h38 := nrm5 h38 | replace h38 := nrm6 h38 | replace h38 := of_decide_eq_true h38 | replace h38 := of_decide_eq_false h38 | skip
            refine st_y S rfl rfl rfl (y_fieldAddr (k := 5) S (by kernel_rfl) rfl) ?_; clear S a; intro a S
            refine st_y S rfl rfl rfl (y_load S (by kernel_rfl) rfl (M.cell 1 rfl rfl)) ?_; clear S a; intro a S
            refine st_y S rfl rfl rfl (y_bytesStr (e := 5) S rfl (by kernel_rfl) (by kernel_rfl) (by kernel_rfl) (by first | exact M.arg hv | exact M.arg hu)) ?_; clear S a; intro a S
            refine st_y S rfl rfl rfl (y_fieldAddr (k := 5) S (by kernel_rfl) rfl) ?_; clear S a; intro a S
            refine st_y S rfl rfl rfl (y_load S (by kernel_rfl) rfl (M.cell 0 rfl rfl)) ?_; clear S a; intro a S
            refine st_y S rfl rfl rfl (y_bytesStr (e := 5) S rfl (by kernel_rfl) (by kernel_rfl) (by kernel_rfl) (by first | exact M.arg hv | exact M.arg hu)) ?_; clear S a; intro a S
            refine st_y S rfl rfl rfl (y_eqlStr S rfl rfl) ?_; clear S a; intro a S
            refine st_y S rfl rfl rfl (y_pickT S rfl rfl) ?_; clear S a; intro a S
            refine st_y S rfl rfl rfl (y_assign S rfl) ?_; clear S a; intro a S
            refine wpList_nil ?_
            replace S := S.sub [(0, _), (1, _), (2, _), (3, _), (4, _)] rfl
            refine then_normal ?_
            refine wp_ret ?_
            refine end_one S rfl (res_tmp rfl) ?_
            exact ⟨ret_bool (by (try rw [strEq]); simp [Fr.same, *]), M.below⟩
          · clear S; intro h38 S
            first | replace h38 := nrmA h38 | replace h38 := nrmB h38 | skip
            first | replace h38 := nrm1 h38 | replace h38 := nrm2 h38 | replace h38 := nrm3 h38 | replace h38 := nrm4 h38 | replace h38 := nrm5 h38 | replace h38 := nrm6 h38 | replace h38 := of_decide_eq_true h38 | replace h38 := of_decide_eq_false h38 | skip
            refine st_no S rfl rfl rfl ?_; clear S a; intro a S
            refine st_no S rfl rfl rfl ?_; clear S a; intro a S
            refine st_no S rfl rfl rfl ?_; clear S a; intro a S
            refine st_no S rfl rfl rfl ?_; clear S a; intro a S
            refine st_no S rfl rfl rfl ?_; clear S a; intro a S
            refine st_no S rfl rfl rfl ?_; clear S a; intro a S
            refine st_no S rfl rfl rfl ?_; clear S a; intro a S
            refine st_y S rfl rfl rfl (y_pickF S rfl rfl) ?_; clear S a; intro a S
            refine st_y S rfl rfl rfl (y_assign S rfl) ?_; clear S a; intro a S
            refine wpList_nil ?_
            replace S := S.sub [(0, _), (1, _), (2, _), (3, _), (4, _)] rfl
            refine then_normal ?_
            refine wp_ret ?_
            refine end_one S rfl (res_tmp rfl) ?_
            exact ⟨ret_bool (by (try rw [strEq]); simp [Fr.same, *]), M.below⟩
        · clear S; intro h31 S
          first | replace h31 := nrmA h31 | replace h31 := nrmB h31 | skip
          first | replace h31 := nrm1 h31 | replace h31 := nrm2 h31 | replace h31 := nrm3 h31 | replace h31 := nrm4 h31 | replace h31 := nrm5 h31 | replace h31 := nrm6 h31 | replace h31 := of_decide_eq_true h31 | replace h31 := of_decide_eq_false h31 | skip
          refine st_no S rfl rfl rfl ?_; clear S a; intro a S
          refine st_no S rfl rfl rfl ?_; clear S a; intro a S
          refine st_no S rfl rfl rfl ?_; clear S a; intro a S
          refine st_no S rfl rfl rfl ?_; clear S a; intro a S
          refine st_no S rfl rfl rfl ?_; clear S a; intro a S
          refine st_y S rfl rfl rfl (y_pickF S rfl rfl) ?_; clear S a; intro a S
          refine st_y S rfl rfl rfl (y_move S rfl) ?_; clear S a; intro a S
          refine st_no S rfl rfl rfl ?_; clear S a; intro a S
          refine st_no S rfl rfl rfl ?_; clear S a; intro a S
          refine st_no S rfl rfl rfl ?_; clear S a; intro a S
          refine st_no S rfl rfl rfl ?_; clear S a; intro a S
          refine st_no S rfl rfl rfl ?_; clear S a; intro a S
          refine st_no S rfl rfl rfl ?_; clear S a; intro a S
          refine st_no S rfl rfl rfl ?_; clear S a; intro a S
          refine st_y S rfl rfl rfl (y_pickF S rfl rfl) ?_; clear S a; intro a S
          refine st_y S rfl rfl rfl (y_assign S rfl) ?_; clear S a; intro a S
          refine wpList_nil ?_
          replace S := S.sub [(0, _), (1, _), (2, _), (3, _), (4, _)] rfl
          refine then_normal ?_
          refine wp_ret ?_
          refine end_one S rfl (res_tmp rfl) ?_
          exact ⟨ret_bool (by (try rw [strEq]); simp [Fr.same, *]), M.below⟩
      · clear S; intro h24 S
        first | replace h24 := nrmA h24 | replace h24 := nrmB h24 | skip
        first | replace h24 := nrm1 h24 | replace h24 := nrm2 h24 | replace h24 := nrm3 h24 | replace h24 := nrm4 h24 | replace h24 := nrm5 h24 | replace h24 := nrm6 h24 | replace h24 := of_decide_eq_true h24 | replace h24 := of_decide_eq_false h24 | skip
        refine st_no S rfl rfl rfl ?_; clear S a; intro a S
        refine st_no S rfl rfl rfl ?_; clear S a; intro a S
        refine st_no S rfl rfl rfl ?_; clear S a; intro a S
        refine st_no S rfl rfl rfl ?_; clear S a; intro a S
        refine st_no S rfl rfl rfl ?_; clear S a; intro a S
        refine st_y S rfl rfl rfl (y_pickF S rfl rfl) ?_; clear S a; intro a S
        refine st_y S rfl rfl rfl (y_move S rfl) ?_; clear S a; intro a S
        refine st_no S rfl rfl rfl ?_; clear S a; intro a S
        refine st_no S rfl rfl rfl ?_; clear S a; intro a S
        refine st_no S rfl rfl rfl ?_; clear S a; intro a S
        refine st_no S rfl rfl rfl ?_; clear S a; intro a S
        refine st_no S rfl rfl rfl ?_; clear S a; intro a S
        refine st_y S rfl rfl rfl (y_pickF S rfl rfl) ?_; clear S a; intro a S
        refine st_y S rfl rfl rfl (y_move S rfl) ?_; clear S a; intro a S
        refine st_no S rfl rfl rfl ?_; clear S a; intro a S
        refine st_no S rfl rfl rfl ?_; clear S a; intro a S
        refine st_no S rfl rfl rfl ?_; clear S a; intro a S
        refine st_no S rfl rfl rfl ?_; clear S a; intro a S
        refine st_no S rfl rfl rfl ?_; clear S a; intro a S
        refine st_no S rfl rfl rfl ?_; clear S a; intro a S
        refine st_no S rfl rfl rfl ?_; clear S a; intro a S
        refine st_y S rfl rfl rfl (y_pickF S rfl rfl) ?_; clear S a; intro a S
        refine st_y S rfl rfl rfl (y_assign S rfl) ?_; clear S a; intro a S
        refine wpList_nil ?_
        replace S := S.sub [(0, _), (1, _), (2, _), (3, _), (4, _)] rfl
        refine then_normal ?_
        refine wp_ret ?_
        refine end_one S rfl (res_tmp rfl) ?_
        exact ⟨ret_bool (by (try rw [strEq]); simp [Fr.same, *]), M.below⟩
    · clear S; intro h17 S
      first | replace h17 := nrmA h17 | replace h17 := nrmB h17 | skip
      first | replace h17 := nrm1 h17 | replace h17 := nrm2 h17 | replace h17 := nrm3 h17 | replace h17 := nrm4 h17 | replace h17 := nrm5 h17 | replace h17 := nrm6 h17 | replace h17 := of_decide_eq_true h17 | replace h17 := of_decide_eq_false h17 | skip
      refine st_no S rfl rfl rfl ?_; clear S a; intro a S
      refine st_no S rfl rfl rfl ?_; clear S a; intro a S
      refine st_no S rfl rfl rfl ?_; clear S a; intro a S
      refine st_no S rfl rfl rfl ?_; clear S a; intro a S
      refine st_no S rfl rfl rfl ?_; clear S a; intro a S
      refine st_y S rfl rfl rfl (y_pickF S rfl rfl) ?_; clear S a; intro a S
      refine st_y S rfl rfl rfl (y_move S rfl) ?_; clear S a; intro a S
      refine st_no S rfl rfl rfl ?_; clear S a; intro a S
      refine st_no S rfl rfl rfl ?_; clear S a; intro a S
      refine st_no S rfl rfl rfl ?_; clear S a; intro a S
      refine st_no S rfl rfl rfl ?_; clear S a; intro a S
      refine st_no S rfl rfl rfl ?_; clear S a; intro a S
      refine st_y S rfl rfl rfl (y_pickF S rfl rfl) ?_; clear S a; intro a S
      refine st_y S rfl rfl rfl (y_move S rfl) ?_; clear S a; intro a S
      refine st_no S rfl rfl rfl ?_; clear S a; intro a S
      refine st_no S rfl rfl rfl ?_; clear S a; intro a S
      refine st_no S rfl rfl rfl ?_; clear S a; intro a S
      refine st_no S rfl rfl rfl ?_; clear S a; intro a S
      refine st_no S rfl rfl rfl ?_; clear S a; intro a S
      refine st_y S rfl rfl rfl (y_pickF S rfl rfl) ?_; clear S a; intro a S
      refine st_y S rfl rfl rfl (y_move S rfl) ?_; clear S a; intro a S
      refine st_no S rfl rfl rfl ?_; clear S a; intro a S
      refine st_no S rfl rfl rfl ?_; clear S a; intro a S
      refine st_no S rfl rfl rfl ?_; clear S a; intro a S
      refine st_no S rfl rfl rfl ?_; clear S a; intro a S
      refine st_no S rfl rfl rfl ?_; clear S a; intro a S
      refine st_no S rfl rfl rfl ?_; clear S a; intro a S
      refine st_no S rfl rfl rfl ?_; clear S a; intro a S
      refine st_y S rfl rfl rfl (y_pickF S rfl rfl) ?_; clear S a; intro a S
      refine st_y S rfl rfl rfl (y_assign S rfl) ?_; clear S a; intro a S
      refine wpList_nil ?_
      replace S := S.sub [(0, _), (1, _), (2, _), (3, _), (4, _)] rfl
      refine then_normal ?_
      refine wp_ret ?_
      refine end_one S rfl (res_tmp rfl) ?_
      exact ⟨ret_bool (by (try rw [strEq]); simp [Fr.same, *]), M.below⟩
  · clear S; intro h10 S
    first | replace h10 := nrmA h10 | replace h10 := nrmB h10 | skip
    first | replace h10 := nrm1 h10 | replace h10 := nrm2 h10 | replace h10 := nrm3 h10 | replace h10 := nrm4 h10 | replace h10 := nrm5 h10 | replace h10 := nrm6 h10 | replace h10 := of_decide_eq_true h10 | replace h10 := of_decide_eq_false h10 | skip
    refine st_no S rfl rfl rfl ?_; clear S a; intro a S
    refine st_no S rfl rfl rfl ?_; clear S a; intro a S
    refine st_no S rfl rfl rfl ?_; clear S a; intro a S
    refine st_no S rfl rfl rfl ?_; clear S a; intro a S
    refine st_no S rfl rfl rfl ?_; clear S a; intro a S
    refine st_y S rfl rfl rfl (y_pickF S rfl rfl) ?_; clear S a; intro a S
    refine st_y S rfl rfl rfl (y_move S rfl) ?_; clear S a; intro a S
    refine st_no S rfl rfl rfl ?_; clear S a; intro a S
    refine st_no S rfl rfl rfl ?_; clear S a; intro a S
    refine st_no S rfl rfl rfl ?_; clear S a; intro a S
    refine st_no S rfl rfl rfl ?_; clear S a; intro a S
    refine st_no S rfl rfl rfl ?_; clear S a; intro a S
    refine st_y S rfl rfl rfl (y_pickF S rfl rfl) ?_; clear S a; intro a S
    refine st_y S rfl rfl rfl (y_move S rfl) ?_; clear S a; intro a S
    refine st_no S rfl rfl rfl ?_; clear S a; intro a S
    refine st_no S rfl rfl rfl ?_; clear S a; intro a S
    refine st_no S rfl rfl rfl ?_; clear S a; intro a S
    refine st_no S rfl rfl rfl ?_; clear S a; intro a S
    refine st_no S rfl rfl rfl ?_; clear S a; intro a S
    refine st_y S rfl rfl rfl (y_pickF S rfl rfl) ?_; clear S a; intro a S
    refine st_y S rfl rfl rfl (y_move S rfl) ?_; clear S a; intro a S
    refine st_no S rfl rfl rfl ?_; clear S a; intro a S
    refine st_no S rfl rfl rfl ?_; clear S a; intro a S
    refine st_no S rfl rfl rfl ?_; clear S a; intro a S
    refine st_no S rfl rfl rfl ?_; clear S a; intro a S
    refine st_no S rfl rfl rfl ?_; clear S a; intro a S
    refine st_y S rfl rfl rfl (y_pickF S rfl rfl) ?_; clear S a; intro a S
    refine st_y S rfl rfl rfl (y_move S rfl) ?_; clear S a; intro a S
    refine st_no S rfl rfl rfl ?_; clear S a; intro a S
    refine st_no S rfl rfl rfl ?_; clear S a; intro a S
    refine st_no S rfl rfl rfl ?_; clear S a; intro a S
    refine st_no S rfl rfl rfl ?_; clear S a; intro a S
    refine st_no S rfl rfl rfl ?_; clear S a; intro a S
    refine st_no S rfl rfl rfl ?_; clear S a; intro a S
    refine st_no S rfl rfl rfl ?_; clear S a; intro a S
    refine st_y S rfl rfl rfl (y_pickF S rfl rfl) ?_; clear S a; intro a S
    refine st_y S rfl rfl rfl (y_assign S rfl) ?_; clear S a; intro a S
    refine wpList_nil ?_
    replace S := S.sub [(0, _), (1, _), (2, _), (3, _), (4, _)] rfl
    refine then_normal ?_
    refine wp_ret ?_
    refine end_one S rfl (res_tmp rfl) ?_
    exact ⟨ret_bool (by (try rw [strEq]); simp [Fr.same, *]), M.below⟩

end Go.Proofs.Ytdkdplahikoicaa
