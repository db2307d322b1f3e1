/-
  The document's frames: Bytes.
-/
import Derived.Test.YtdkdplahikoicaaRef4A
namespace Go.Proofs.Ytdkdplahikoicaa
open Go.RowKit Go.Sort

theorem five5 (f : Fr) (l : Nat) : five f l 5 = leB f.seq 6 ++ leB f.inc 3 ++ [byteOf (16 * f.part + f.of), byteOf (l : Int)] ++ leB (f.mark.toNat : Int) 4 := by
  have e : ∀ n, leB n 1 = [byteOf n] := fun n => by simp [leB]
  simp [five, fiveN, e]
theorem Mem.wide {w0 w : World} {H : List Ent} (M : Mem w0 w H) {k lo hi : Nat} {t : TypeId} {sz n : Nat} {v : Value} {cs : List Value} (h : H[k]? = some (rowE lo hi t sz v n cs)) (hm : n ≤ maxLen) : Rd 0 w.heap.size w sz v n cs :=
  (M.readRow k h hm).wide (Nat.zero_le _) (M.fits _ (List.mem_of_getElem? h)).2
theorem Mem.rowB {w0 w : World} {H : List Ent} {lo hi n : Nat} {t : TypeId} {v : Value} {xs ys : List UInt8} (M : Mem w0 w (rowE lo hi t 1 v (xs.length + n) (bcells xs ++ bcells ys) :: H)) (h : ys.length = n) : Mem w0 w (rowE lo hi t 1 v (xs ++ ys).length (bcells (xs ++ ys)) :: H) := by
  rw [bcells_append, List.length_append, h]; exact M

set_option maxHeartbeats 1000000 in
theorem refBytes_any (f : Fr) (lv : Value) (ld : List UInt8) (w : World) (hv : Bs 0 w.heap.size w lv ld) : Calls Try.prog 14 #[.agg (f.cells lv).toArray] w (BytesPost f ld w) := by
  obtain ⟨ad, cap, rfl, -, -⟩ := hv.form
  have M := Mem.start w
  refine calls_enter Try.func14 rfl 48 rfl rfl ?_; intro a S
  refine wp_seq ?_
  -- region 0 ref.go:37
  refine wp_region_lit ?_
  refine st_box S M rfl rfl rfl #[_, _, _, _, _, _] rfl ?_; clear S M a; intro a w1 b1 S M hB
  refine st_y S rfl rfl rfl (y_assign S rfl) ?_; clear S a; intro a S
  refine st_y S rfl rfl rfl (y_assign S rfl) ?_; clear S a; intro a S
  refine wpList_nil ?_
  replace S := S.sub [(0, _), (1, _), (2, _), (3, _)] rfl
  refine then_normal ?_
  refine wp_seq ?_
  refine wp_seq ?_
  -- region 1 ref.go:38
  refine wp_region_lit ?_
  refine st_y S rfl rfl rfl (y_loadAgg (cs := [_, _, _, _, _, _]) S (by kernel_rfl) rfl rfl (M.cellsAt (k := 6) 0 rfl rfl)) ?_; clear S a; intro a S
  refine st_call (xs := [(Operand.tmp 5)]) S (enters_of Try.func18 (by decide) rfl) rfl rfl rfl (refMay_any f ad ld.length cap _) ?_
  rintro _ w2 ⟨rfl, hK⟩; refine ⟨_, rfl, ?_⟩; clear S a; intro a S; replace M := M.grow hK
  refine st_y S rfl rfl rfl (y_not S rfl) ?_; clear S a; intro a S
  refine wpList_nil ?_
  replace S := S.sub [(0, _), (1, _), (2, _), (3, _), (7, _)] rfl
  refine then_normal ?_
  refine st_split (t := 7) S rfl ?_ ?_
  · clear S; intro h7 S
    refine st_condT S rfl ?_
    refine wp_seq ?_
    -- region 2 ref.go:39
    refine wp_region_lit ?_
    refine st_y S rfl rfl rfl (y_assign S rfl) ?_; clear S a; intro a S
    refine st_y S rfl rfl rfl (y_assign S rfl) ?_; clear S a; intro a S
    refine wpList_nil ?_
    replace S := S.sub [(0, _), (1, _), (7, _), (2, _), (3, _)] rfl
    refine then_normal ?_
    refine wp_ret ?_
    refine then_ret ?_
    refine end_two S rfl (res_tmp rfl) (res_tmp rfl) ?_
    have hm : f.may ld.length = false := by simpa using h7
    exact ⟨_, by rw [hm]; rfl, M.below, fun h => absurd h (by simp [hm]), fun _ => rfl⟩
  · clear S; intro h7 S
    refine st_condF S rfl ?_
    refine wp_skip ?_
    refine then_normal ?_
    refine wp_seq ?_
    -- region 3 ref.go:41
    refine wp_region_lit ?_
    have hm : f.may ld.length = true := by simpa using h7
    have hm' := hm
    simp only [Fr.may, decide_eq_true_eq] at hm'
    have hmk := f.mark.isLt
    refine st_y S rfl rfl rfl (y_fieldAddr (k := 0) S (by kernel_rfl) rfl) ?_; clear S a; intro a S
    refine st_y S rfl rfl rfl (y_load S (by kernel_rfl) rfl (M.cell 0 rfl rfl)) ?_; clear S a; intro a S
    refine st_y S rfl rfl rfl (y_toU64 S rfl (by kernel_rfl) (by kernel_rfl) (by omega)) ?_; clear S a; intro a S
    replace M := M.rowNil 5 1
    refine st_call (xs := [(Operand.const (Value.slice none 0 0)), (Operand.tmp 10), (Operand.const (Value.int IntKind.i64 6))]) S (enters_of Try.func27 (by decide) rfl) rfl rfl rfl (low_any (xs := []) M f.seq 6 (by omega) (by simp)) ?_
    rintro _ w3 ⟨v1, lo1, hi1, rfl, M1⟩; refine ⟨_, rfl, ?_⟩; clear S a M; intro a S
    have M := M1
    clear M1
    refine st_y S rfl rfl rfl (y_assign S rfl) ?_; clear S a; intro a S
    refine wpList_nil ?_
    replace S := S.sub [(0, _), (1, _), (2, _), (3, _), (7, _), (4, _)] rfl
    refine then_normal ?_
    refine wp_seq ?_
    -- region 4 ref.go:42
    refine wp_region_lit ?_
    refine st_y S rfl rfl rfl (y_move S rfl) ?_; clear S a; intro a S
    refine st_y S rfl rfl rfl (y_fieldAddr (k := 1) S (by kernel_rfl) rfl) ?_; clear S a; intro a S
    refine st_y S rfl rfl rfl (y_load S (by kernel_rfl) rfl (M.cell 1 rfl rfl)) ?_; clear S a; intro a S
    refine st_y S rfl rfl rfl (y_toU64 S rfl (by kernel_rfl) (by kernel_rfl) (by omega)) ?_; clear S a; intro a S
    refine st_call (xs := [(Operand.tmp 12), (Operand.tmp 15), (Operand.const (Value.int IntKind.i64 3))]) S (enters_of Try.func27 (by decide) rfl) rfl rfl rfl (low_any M f.inc 3 (by omega) (by simp [leB_length])) ?_
    rintro _ w4 ⟨v2, lo2, hi2, rfl, M1⟩; refine ⟨_, rfl, ?_⟩; clear S a M; intro a S
    have M := M1
    clear M1
    refine st_y S rfl rfl rfl (y_assign S rfl) ?_; clear S a; intro a S
    refine wpList_nil ?_
    replace S := S.sub [(0, _), (1, _), (2, _), (3, _), (7, _), (4, _)] rfl
    refine then_normal ?_
    refine wp_seq ?_
    -- region 5 ref.go:43
    refine wp_region_lit ?_
    refine st_y S rfl rfl rfl (y_move S rfl) ?_; clear S a; intro a S
    refine st_y S rfl rfl rfl (y_fieldAddr (k := 2) S (by kernel_rfl) rfl) ?_; clear S a; intro a S
    refine st_y S rfl rfl rfl (y_load S (by kernel_rfl) rfl (M.cell 1 rfl rfl)) ?_; clear S a; intro a S
    (first | refine st_y S rfl rfl rfl (y_mulN S rfl rfl (by omega)) ?_ | refine st_y S rfl rfl rfl (y_int S rfl rfl rfl) ?_); clear S a; intro a S
    refine st_y S rfl rfl rfl (y_fieldAddr (k := 3) S (by kernel_rfl) rfl) ?_; clear S a; intro a S
    refine st_y S rfl rfl rfl (y_load S (by kernel_rfl) rfl (M.cell 1 rfl rfl)) ?_; clear S a; intro a S
    (first | refine st_y S rfl rfl rfl (y_addN S rfl rfl (by omega)) ?_ | refine st_y S rfl rfl rfl (y_int S rfl rfl rfl) ?_); clear S a; intro a S
    refine st_y S rfl rfl rfl (y_to8 S rfl (by kernel_rfl) (by kernel_rfl)) ?_; clear S a; intro a S
    refine st_y S rfl rfl rfl (y_fieldAddr (k := 5) S (by kernel_rfl) rfl) ?_; clear S a; intro a S
    refine st_y S rfl rfl rfl (y_load S (by kernel_rfl) rfl (M.cell 1 rfl rfl)) ?_; clear S a; intro a S
    refine st_y S rfl rfl rfl (y_lenS (E := 5) S rfl (by kernel_rfl)) ?_; clear S a; intro a S
    refine st_y S rfl rfl rfl (y_to8 S rfl (by kernel_rfl) (by kernel_rfl)) ?_; clear S a; intro a S
    refine st_lit (ps := [(0, (Operand.tmp 24)), (1, (Operand.tmp 28))]) (e := 5) (sz := 1) (zl := [.int .u8 0, .int .u8 0]) (cs := [_, _]) S M rfl rfl (by kernel_rfl) rfl rfl ?_; clear S M a; intro a w5 bD S M hB
    have hl9 : ([] ++ leB f.seq 6 ++ leB f.inc 3).length = 9 := by simp [leB_length]
    refine st_append (e := 5) (sz := 1) (by_ := 1) (zc := [.int .u8 0]) S M 1 rfl rfl (by kernel_rfl) rfl (by decide) rfl rfl rfl (Rd.of_blk (sz := 1) (xs := bcells [byteOf (16 * f.part + f.of), byteOf (ld.length : Int)]) (M.blk 0 rfl) rfl (Nat.le_refl _) (by unfold maxLen; omega) rfl) (allOne_bcells _) (by omega) (by unfold maxLen; omega) ?_; clear S M a; intro a w6 vA loA hiA S M
    replace M := M.rowB rfl
    refine st_y S rfl rfl rfl (y_assign S rfl) ?_; clear S a; intro a S
    refine wpList_nil ?_
    replace S := S.sub [(0, _), (1, _), (2, _), (3, _), (7, _), (4, _)] rfl
    refine then_normal ?_
    refine wp_seq ?_
    -- region 6 ref.go:44
    refine wp_region_lit ?_
    refine st_y S rfl rfl rfl (y_move S rfl) ?_; clear S a; intro a S
    refine st_y S rfl rfl rfl (y_fieldAddr (k := 4) S (by kernel_rfl) rfl) ?_; clear S a; intro a S
    refine st_y S rfl rfl rfl (y_load S (by kernel_rfl) rfl (M.cell 2 rfl rfl)) ?_; clear S a; intro a S
    refine st_y S rfl rfl rfl (y_toU64 S rfl (by kernel_rfl) (by kernel_rfl) (by omega)) ?_; clear S a; intro a S
    refine st_call (xs := [(Operand.tmp 31), (Operand.tmp 34), (Operand.const (Value.int IntKind.i64 4))]) S (enters_of Try.func27 (by decide) rfl) rfl rfl rfl (low_any M (f.mark.toNat : Int) 4 (by omega) (by simp [leB_length])) ?_
    rintro _ w7 ⟨v3, lo3, hi3, rfl, M1⟩; refine ⟨_, rfl, ?_⟩; clear S a M; intro a S
    have M := M1
    clear M1
    rw [List.nil_append, ← five5] at M
    refine st_y S rfl rfl rfl (y_assign S rfl) ?_; clear S a; intro a S
    refine wpList_nil ?_
    replace S := S.sub [(0, _), (1, _), (2, _), (3, _), (7, _), (4, _)] rfl
    refine then_normal ?_
    refine wp_seq ?_
    -- region 7 ref.go:45
    refine wp_region_lit ?_
    refine st_y S rfl rfl rfl (y_move S rfl) ?_; clear S a; intro a S
    refine st_y S rfl rfl rfl (y_fieldAddr (k := 5) S (by kernel_rfl) rfl) ?_; clear S a; intro a S
    refine st_y S rfl rfl rfl (y_load S (by kernel_rfl) rfl (M.cell 2 rfl rfl)) ?_; clear S a; intro a S
    have h15 := five5_length f ld.length
    refine st_append (e := 5) (sz := 1) (by_ := 1) (zc := [.int .u8 0]) S M 0 rfl rfl (by kernel_rfl) rfl (by decide) rfl rfl rfl (M.arg hv) (allOne_bcells _) (by omega) (by unfold maxLen; omega) ?_; clear S M a; intro a w8 vA loA hiA S M
    replace M := M.rowB rfl
    refine st_y S rfl rfl rfl (y_assign S rfl) ?_; clear S a; intro a S
    refine wpList_nil ?_
    replace S := S.sub [(0, _), (1, _), (2, _), (3, _), (7, _), (4, _)] rfl
    refine then_normal ?_
    refine wp_seq ?_
    refine wp_block ?_
    refine wp_loop_g (fun m a w' => ∃ (j lo hi : Nat) (v' : Value), j ≤ 45 - ld.length ∧ m = 45 - ld.length - j ∧ Sees 48 a [(4, v')] ∧ Mem w w' [rowE lo hi 5 1 v' (five f ld.length 5 ++ ld ++ List.replicate j 0).length (bcells (five f ld.length 5 ++ ld ++ List.replicate j 0))]) (45 - ld.length) ?_ ?_
    · skip
      replace M := M.drop 1
      simp only [List.eraseIdx_cons_succ, List.eraseIdx_cons_zero] at M
      replace M := M.drop 1
      simp only [List.eraseIdx_cons_succ, List.eraseIdx_cons_zero] at M
      exact ⟨0, _, _, _, Nat.zero_le _, rfl, S.sub _ rfl, by simpa only [List.replicate_zero, List.append_nil] using M⟩
    · clear S M a; intro m a wl
      rintro ⟨j, lo, hi, v', hj, rfl, S, M⟩
      have hlj : (five f ld.length 5 ++ ld ++ List.replicate j 0).length = 15 + ld.length + j := by rw [List.length_append, List.length_append, List.length_replicate, h15]
      refine wp_seq ?_
      refine wp_seq ?_
      -- region 8 ref.go:46
      refine wp_region_lit ?_
      refine st_y S rfl rfl rfl (y_move S rfl) ?_; clear S a; intro a S
      refine st_y S rfl rfl rfl (y_lenR (E := 5) S rfl ((M.readRow 0 rfl (by unfold maxLen; omega))) (by kernel_rfl)) ?_; clear S a; intro a S
      refine st_y S rfl rfl rfl (y_int S rfl rfl rfl) ?_; clear S a; intro a S
      refine wpList_nil ?_
      replace S := S.sub [(4, _), (42, _)] rfl
      refine then_normal ?_
      refine st_split (t := 42) S rfl ?_ ?_
      · clear S; intro h42 S
        first | replace h42 := nrmA h42 | replace h42 := nrmB h42 | skip
        first | replace h42 := nrm1 h42 | replace h42 := nrm2 h42 | replace h42 := nrm3 h42 | replace h42 := nrm4 h42 | replace h42 := nrm5 h42 | replace h42 := nrm6 h42 | replace h42 := of_decide_eq_true h42 | replace h42 := of_decide_eq_false h42 | skip
        refine st_condT S rfl ?_
        refine wp_skip ?_
        refine then_normal ?_
        refine wp_block ?_
        -- region 9 ref.go:47
        refine wp_region_lit ?_
        refine st_y S rfl rfl rfl (y_move S rfl) ?_; clear S a; intro a S
        refine st_lit (ps := [(0, (Operand.const (Value.int IntKind.u8 0)))]) (e := 5) (sz := 1) (zl := [.int .u8 0]) (cs := [_]) S M rfl rfl (by kernel_rfl) rfl rfl ?_; clear S M a; intro a w9 bZ S M hB
        refine st_append (e := 5) (sz := 1) (by_ := 1) (zc := [.int .u8 0]) S M 1 rfl rfl (by kernel_rfl) rfl (by decide) rfl rfl rfl (Rd.of_blk (sz := 1) (xs := bcells [0]) (M.blk 0 rfl) rfl (Nat.le_refl _) (by unfold maxLen; omega) rfl) (allOne_bcells _) (by omega) (by unfold maxLen; omega) ?_; clear S M a; intro a w10 vA loA hiA S M
        refine st_y S rfl rfl rfl (y_assign S rfl) ?_; clear S a; intro a S
        refine wpList_nil ?_
        replace S := S.sub [(42, _), (4, _)] rfl
        refine block_normal ?_
        refine then_normal ?_
        replace M := M.drop 1
        simp only [List.eraseIdx_cons_succ, List.eraseIdx_cons_zero] at M
        refine ⟨45 - ld.length - (j + 1), by omega, j + 1, loA, hiA, vA, by omega, rfl, S.sub _ rfl, ?_⟩
        rw [List.replicate_succ', ← List.append_assoc]
        exact M.rowB (ys := [0]) rfl
      · clear S; intro h42 S
        first | replace h42 := nrmA h42 | replace h42 := nrmB h42 | skip
        first | replace h42 := nrm1 h42 | replace h42 := nrm2 h42 | replace h42 := nrm3 h42 | replace h42 := nrm4 h42 | replace h42 := nrm5 h42 | replace h42 := nrm6 h42 | replace h42 := of_decide_eq_true h42 | replace h42 := of_decide_eq_false h42 | skip
        refine st_condF S rfl ?_
        refine wp_exit ?_
        refine then_exit ?_
        refine then_exit ?_
        refine block_hit ?_
        refine then_normal ?_
        refine wp_seq ?_
        -- region 10 ref.go:49
        refine wp_region_lit ?_
        obtain rfl : j = 45 - ld.length := by omega
        rw [List.append_assoc, show ld ++ List.replicate (45 - ld.length) 0 = padL ld from rfl] at M
        have hl60 : (five f ld.length 5 ++ padL ld).length = 60 := by rw [List.length_append, padL_length (by omega), h15]
        refine st_y S rfl rfl rfl (y_move S rfl) ?_; clear S a; intro a S
        refine st_call (xs := [(Operand.tmp 46)]) S (enters_of Try.func28 (by decide) rfl) rfl rfl rfl (refSeal_any v' (five f ld.length 5 ++ padL ld) _ (M.wide (k := 0) rfl (by unfold maxLen; omega)) (by omega)) ?_
        rintro _ w11 ⟨v4, rfl, hF⟩; refine ⟨_, rfl, ?_⟩; clear S a; intro a S
        obtain ⟨lo4, hi4, -, M⟩ := M.pushFresh hF
        refine st_y S rfl rfl rfl (y_assign S rfl) ?_; clear S a; intro a S
        refine st_y S rfl rfl rfl (y_assign S rfl) ?_; clear S a; intro a S
        refine wpList_nil ?_
        replace S := S.sub [(4, _), (42, _), (2, _), (3, _)] rfl
        refine then_normal ?_
        refine wp_ret ?_
        refine end_two S rfl (res_tmp rfl) (res_tmp rfl) ?_
        exact ⟨_, by rw [hm]; rfl, M.below, fun _ => M.fresh 0 rfl, fun h => absurd hm (by simp [h])⟩

end Go.Proofs.Ytdkdplahikoicaa
